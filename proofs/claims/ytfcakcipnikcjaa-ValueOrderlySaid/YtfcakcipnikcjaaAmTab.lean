/- The evaluator's table for this program: functions, types, and what is kept at a loop's head. Printed by gentab.py. -/
import Derived.Test.YtfcakcipnikcjaaAmLim
import Derived.Test.YtfcakcipnikcjaaProg
set_option linter.unusedVariables false
set_option linter.unusedSimpArgs false
namespace Go.Proofs.Ytfcakcipnikcjaa.Am
open Go Go.RowKit

def look {α : Type} : List (Nat × α) → Nat → Option α
  | [], _ => none
  | (i, x) :: r, k => if i = k then some x else look r k
def look2 {α : Type} : List (Nat × Nat × α) → Nat → Nat → Option α
  | [], _, _ => none
  | (i, j, x) :: r, k, m => if i = k ∧ j = m then some x else look2 r k m

def goodF : List Nat := [3, 4, 5, 6, 7, 8, 9, 10, 11, 12, 13, 14, 15, 16, 17, 18, 19, 20, 21, 22, 23, 24, 25, 26, 27, 28, 29, 30, 31, 32, 33, 34, 35, 36, 37, 38, 39, 40, 41, 42, 43, 44, 45, 46, 47, 48, 49, 50, 51, 52, 53, 54, 55, 56, 57, 58, 59, 60, 61, 62, 63, 64, 65, 66, 67, 68, 69, 70, 71, 72, 73, 74, 75, 76, 77, 78, 79, 80, 81, 82, 83, 84]
def infs : List (Nat × Nat × Nat × List AV) := [(2, 1, 8, [.d (.int .i64 0)]),
  (3, 1, 8, [.d (.int .i64 0)]),
  (4, 1, 1, [.d (.bool false)]),
  (5, 1, 1, [.d (.int .u8 0)]),
  (6, 1, 1, [.d (.int .u8 0)]),
  (7, 4, 24, [.d (.int .i64 0), .d (.int .i64 0), .d (.bool false), .d (.int .u8 0)]),
  (8, 4, 24, [.d (.int .i64 0), .d (.int .i64 0), .d (.bool false), .d (.int .u8 0)]),
  (9, 1, 16, [.d (.str [])]),
  (10, 1, 16, [.d (.str [])]),
  (11, 1, 16, [.d (.str [])]),
  (12, 1, 8, [.d (.int .u64 0)]),
  (13, 2, 24, [.d (.str []), .d (.int .u64 0)]),
  (14, 2, 24, [.d (.str []), .d (.int .u64 0)]),
  (21, 1, 4, [.d (.int .i32 0)]),
  (22, 1, 24, [.own 4 [] none]),
  (23, 1, 24, [.own 9 [] none]),
  (24, 1, 24, [.own 8 [] none]),
  (25, 2, 48, [.own 9 [] none, .own 8 [] none]),
  (26, 2, 48, [.own 9 [] none, .own 8 [] none]),
  (28, 3, 32, [.d (.int .i64 0), .d (.int .i64 0), .d (.str [])]),
  (29, 3, 32, [.d (.int .i64 0), .d (.int .i64 0), .d (.str [])]),
  (30, 1, 24, [.own 6 [] none]),
  (31, 6, 80, [.d (.int .i64 0), .d (.int .i64 0), .d (.int .i64 0), .d (.str []), .d (.str []), .own 6 [] none]),
  (32, 6, 80, [.d (.int .i64 0), .d (.int .i64 0), .d (.int .i64 0), .d (.str []), .d (.str []), .own 6 [] none]),
  (33, 9, 112, [.d (.str []), .d (.int .i64 0), .d (.int .i64 0), .d (.int .i64 0), .d (.int .i64 0), .d (.int .i64 0), .d (.str []), .d (.str []), .own 6 [] none]),
  (34, 9, 112, [.d (.str []), .d (.int .i64 0), .d (.int .i64 0), .d (.int .i64 0), .d (.int .i64 0), .d (.int .i64 0), .d (.str []), .d (.str []), .own 6 [] none]),
  (35, 1, 8, [.d (.int .i64 0)]),
  (44, 3, 24, [.d (.int .i64 0), .d (.int .i64 0), .d (.int .i64 0)]),
  (45, 3, 24, [.d (.int .i64 0), .d (.int .i64 0), .d (.int .i64 0)]),
  (49, 4, 40, [.d (.int .i64 0), .d (.int .i64 0), .d (.int .i64 0), .d (.str [])]),
  (50, 4, 40, [.d (.int .i64 0), .d (.int .i64 0), .d (.int .i64 0), .d (.str [])]),
  (55, 1, 24, [.own 6 [] none]),
  (61, 1, 24, [.own 2 [] none]),
  (64, 2, 16, [.d (.int .i64 0), .d (.int .i64 0)]),
  (65, 2, 16, [.d (.int .i64 0), .d (.int .i64 0)]),
  (67, 1, 24, [.own 7 [] none]),
  (70, 7, 80, [.d (.str []), .d (.int .i64 0), .d (.int .i64 0), .d (.str []), .d (.int .i64 0), .d (.int .i64 0), .d (.str [])]),
  (71, 7, 80, [.d (.str []), .d (.int .i64 0), .d (.int .i64 0), .d (.str []), .d (.int .i64 0), .d (.int .i64 0), .d (.str [])]),
  (73, 6, 64, [.d (.int .i64 0), .d (.int .i64 0), .d (.str []), .d (.int .i64 0), .d (.int .i64 0), .d (.str [])]),
  (74, 6, 64, [.d (.int .i64 0), .d (.int .i64 0), .d (.str []), .d (.int .i64 0), .d (.int .i64 0), .d (.str [])]),
  (77, 2, 32, [.own 4 [] none, .d (.int .i64 0)]),
  (78, 2, 32, [.own 4 [] none, .d (.int .i64 0)]),
  (80, 1, 24, [.own 1 [] none]),
  (83, 1, 24, [.own 1 [] none]),
  (84, 8, 120, [.d (.str []), .own 1 [] none, .d (.int .i64 0), .d (.int .i64 0), .d (.int .i64 0), .d (.str []), .d (.str []), .own 6 [] none]),
  (85, 8, 120, [.d (.str []), .own 1 [] none, .d (.int .i64 0), .d (.int .i64 0), .d (.int .i64 0), .d (.str []), .d (.str []), .own 6 [] none]),
  (109, 1, 24, [.own 1 [] none]),
  (112, 13, 208, [.d (.str []), .d (.str []), .d (.str []), .d (.str []), .d (.str []), .d (.str []), .d (.str []), .d (.str []), .d (.str []), .d (.str []), .d (.str []), .d (.str []), .d (.str [])]),
  (122, 1, 8, [.d (.int .u64 0)]),
  (130, 1, 4, [.d (.int .u32 0)]),
  (131, 1, 1, [.d (.int .u8 0)]),
  (132, 1, 1, [.d (.int .u8 0)]),
  (135, 1, 4, [.d (.int .i32 0)]),
  (136, 1, 4, [.d (.int .i32 0)])]
def keeps : List (Nat × Nat × List Nat × List Nat) := [(3, 3, [3, 15, 16, 17], [13, 16, 26, 39]),
  (6, 4, [7, 8, 9, 22, 23], [7, 20, 30, 54, 65, 73]),
  (9, 3, [0, 7, 18, 19, 20], [4, 7, 15, 17, 19, 25, 30, 46, 54]),
  (12, 3, [0, 3, 4, 12, 13], [8, 12, 64, 66, 67, 72]),
  (15, 23, [2, 3, 4, 5, 9, 10, 11, 12, 77, 78, 91, 92, 93], [2, 4, 5, 7, 8, 11, 12, 17, 19, 22, 23, 24, 30, 31, 37, 41, 53, 60, 64, 70, 75, 82, 92, 109, 114, 119, 125, 130, 134]),
  (15, 18, [2, 3, 4, 5, 9, 77, 78], [2, 4, 5, 7, 8, 17, 19, 22, 23, 24, 30, 31, 37, 41, 53, 60, 64, 70, 75, 82, 92, 109, 114, 119, 125, 130, 134]),
  (15, 5, [2, 3, 4, 5, 25, 26], [2, 4, 5, 11, 12, 14, 17, 19, 22, 23, 24, 30, 31, 37, 41, 53, 60, 64, 70, 75, 82, 92, 109, 114, 119, 125, 130, 134]),
  (23, 6, [1, 5, 15, 16], [1, 10, 23]),
  (30, 5, [0, 5, 6], [10, 14, 26, 38, 43]),
  (32, 3, [4, 11, 12, 13], [12, 26, 28, 35]),
  (33, 4, [0, 8, 9, 10], [6, 9, 35, 47]),
  (34, 4, [5, 6, 14, 15, 16], [2, 12, 15, 21, 28, 37, 40]),
  (35, 2, [1, 2, 8, 9, 10], [2, 9, 21, 33]),
  (41, 1, [0, 2, 3], [5]),
  (42, 2, [0, 1, 7, 8], [7, 16]),
  (53, 3, [5, 15, 16, 17], [10, 12, 14, 16, 30]),
  (55, 12, [0, 2, 36, 37], [2, 12, 14, 19, 21, 33, 42]),
  (56, 3, [3, 6, 7, 8], [7]),
  (65, 2, [0, 1, 5], [8, 15]),
  (68, 4, [1, 6, 7, 8, 13, 14, 15], [6, 7, 12, 14, 27, 30, 35, 40, 45, 46]),
  (69, 3, [2, 3, 4, 7, 8, 13, 14, 15], [7, 8, 14, 26, 28]),
  (71, 5, [0, 2, 4, 5, 17, 18], [2, 8]),
  (73, 3, [0, 2, 4, 5], [2, 9, 19, 24, 42, 66]),
  (77, 3, [0, 2, 4, 8, 9, 10], [4, 13, 30, 46]),
  (79, 2, [0, 1, 7, 8], [7, 16]),
  (81, 2, [0, 1, 7, 8], [7, 16]),
  (83, 4, [0, 8, 9], [5, 8])]
def drws : List (Nat × Nat × List (List Nat)) := [(9, 1, [[], [], [], [1], [], [1, 3, 4], []]),
  (9, 5, [[], [], [], [1], [1], [1], [], []]),
  (11, 2, [[], [], [], [], [2], [], [], [2, 5], [], [1, 2, 4, 5, 7, 8], [1, 2, 4, 5, 7, 8], [1, 2, 4, 5, 7, 8], [], [], []]),
  (12, 5, [[], [], [], [], [], [], [], [], [], [], [], [], [], [], [], [], [], [], [], [], [], [], [], [], [], [], [], [], [], [], [], [], [], [], [], [], [], [], [], [], [], [], [], []]),
  (13, 7, [[], [], [], [], [], [], [0], [], [], [], [0], [], [], []]),
  (15, 4, [[], [], [0, 1], [], [], [], []]),
  (15, 8, [[], [], [], [], [0], [0], [2, 3], [], [0, 6], [0, 6], [2, 3], [], [], [0, 2, 3, 4, 5, 6, 8, 9, 10], []]),
  (15, 13, [[], [], [], [], [], [3], [3], [], [], []]),
  (22, 6, [[], [], [], [], [], [], [], [], [], []]),
  (29, 6, [[], [], [], [], [], [], [], [], [], [], [], [], [], []]),
  (31, 3, [[], [], [], [], [], [4], [4], [4], [4], [], [], [], [], []]),
  (33, 8, [[], [], [], [], [], [], [], []]),
  (33, 10, [[], [], [], [], [], [], [], [], [], [], [], [], []]),
  (34, 8, [[], [], [], [], [], [], [1, 2], [], [], [], []]),
  (38, 3, [[], [], [], [], [], [], [], [], [], [], [], [], [], [], [], [], [1, 2, 3, 5, 6, 7, 9, 10, 11, 12, 14, 15], []]),
  (38, 4, [[], [], [], [], [], [], [], [], [], [], [], [], [], [], []]),
  (41, 3, [[], [], [], [], [], [], [], [], [], [], [], [], [], [], [], []]),
  (51, 1, [[], [], [], [], [], [], [], []]),
  (59, 5, [[], [], [], [], [3], [], [], [], [], [], [], []]),
  (61, 1, [[], [], [], [], [], [4], [4], [4], [4], [], [], [], []]),
  (69, 5, [[], [], [], [], [], [], [], [0, 1], [], [], [], []]),
  (73, 10, [[], [], [], [], [], [], [], [], [], []]),
  (77, 5, [[], [], [], [], [], [], [], []]),
  (77, 8, [[], [], [], [], [], [], [], [], [], [], [], [], [], [], [], []])]
def lvs : List (Nat × Nat × Nat) := [(3, 0, 1),
  (3, 1, 8),
  (3, 2, 229384),
  (3, 3, 491528),
  (3, 4, 229432),
  (3, 5, 229592),
  (3, 6, 34359967752),
  (3, 7, 4),
  (3, 8, 229384),
  (3, 9, 512),
  (3, 10, 3584),
  (3, 11, 4),
  (4, 0, 3),
  (4, 1, 3),
  (4, 2, 99),
  (4, 3, 483),
  (4, 4, 2019),
  (4, 5, 281474976710755),
  (4, 6, 16),
  (4, 7, 1125899906842723),
  (4, 8, 16),
  (4, 9, 6179),
  (4, 10, 16),
  (5, 0, 7),
  (5, 1, 7),
  (5, 2, 391),
  (5, 3, 1925),
  (5, 4, 8069),
  (5, 5, 281474976712581),
  (5, 6, 64),
  (5, 7, 18014398509482629),
  (5, 8, 25089),
  (5, 9, 122881),
  (5, 10, 18889465931478580854785),
  (5, 11, 64),
  (5, 12, 393217),
  (5, 13, 1835009),
  (5, 14, 64),
  (6, 0, 7),
  (6, 1, 128),
  (6, 2, 896),
  (6, 3, 12583808),
  (6, 4, 29361024),
  (6, 5, 12584832),
  (6, 6, 12590976),
  (6, 7, 144115188088441472),
  (6, 8, 64),
  (6, 9, 12585856),
  (6, 10, 12583808),
  (6, 11, 12583808),
  (6, 12, 25216),
  (6, 13, 90624),
  (6, 14, 64),
  (7, 0, 7),
  (7, 1, 7),
  (7, 2, 391),
  (7, 3, 1799),
  (7, 4, 7941),
  (7, 5, 32512),
  (7, 6, 120576),
  (7, 7, 513792),
  (7, 8, 64),
  (8, 0, 3),
  (8, 1, 3),
  (8, 2, 99),
  (8, 3, 483),
  (8, 4, 2019),
  (8, 5, 274877907427),
  (8, 6, 16),
  (8, 7, 1099511628259),
  (8, 8, 16),
  (8, 9, 6595),
  (8, 10, 73786976294838212739),
  (8, 11, 16),
  (8, 12, 37778931862957161709698),
  (8, 13, 16),
  (8, 14, 16),
  (9, 0, 21),
  (9, 1, 129),
  (9, 2, 1835137),
  (9, 3, 3932289),
  (9, 4, 1835649),
  (9, 5, 1836673),
  (9, 6, 8796094857345),
  (9, 7, 64),
  (9, 8, 1835137),
  (9, 9, 64),
  (10, 0, 1),
  (10, 1, 49),
  (10, 2, 433),
  (10, 3, 268435505),
  (10, 4, 4),
  (10, 5, 549755813905),
  (10, 6, 4),
  (10, 7, 562949953421329),
  (10, 8, 4),
  (10, 9, 2048),
  (10, 10, 4),
  (11, 0, 225),
  (11, 1, 225),
  (11, 2, 3584),
  (11, 3, 15872),
  (11, 4, 65024),
  (11, 5, 261632),
  (11, 6, 1046016),
  (11, 7, 4191744),
  (11, 8, 633825300114114700748351934464),
  (11, 9, 256),
  (11, 10, 256),
  (12, 0, 1),
  (12, 1, 25),
  (12, 2, 12313),
  (12, 3, 28697),
  (12, 4, 12345),
  (12, 5, 576460752303435801),
  (12, 6, 4),
  (12, 7, 12313),
  (12, 8, 4),
  (13, 0, 7),
  (13, 1, 134),
  (13, 2, 388),
  (13, 3, 33554820),
  (13, 4, 64),
  (13, 5, 268435844),
  (13, 6, 64),
  (13, 7, 64),
  (14, 0, 1),
  (14, 1, 41),
  (14, 2, 361),
  (14, 3, 8589934633),
  (14, 4, 4),
  (14, 5, 68719476777),
  (14, 6, 4),
  (14, 7, 4),
  (15, 0, 5),
  (15, 1, 12),
  (15, 2, 28),
  (15, 3, 60),
  (15, 4, 100663356),
  (15, 5, 234881084),
  (15, 6, 100663420),
  (15, 7, 100663548),
  (15, 8, 100663740),
  (15, 9, 35184472752572),
  (15, 10, 105553216930236),
  (15, 11, 100663612),
  (15, 12, 36028797119627708),
  (15, 13, 100663612),
  (15, 14, 100663356),
  (15, 15, 100663356),
  (15, 16, 572),
  (15, 17, 453347182355485940515388),
  (15, 18, 1057810092162800527868476),
  (15, 19, 453347182355485940516412),
  (15, 20, 453347182355485940518460),
  (15, 21, 453347182355485940522556),
  (15, 22, 17331613897177679334528261692),
  (15, 23, 37138654525743763732914249276),
  (15, 24, 17331613897177679334528286268),
  (15, 25, 10158536415723012891308153921084),
  (15, 26, 17331613897177679334528261692),
  (15, 27, 17331613897177679334528261692),
  (15, 28, 41538374868731968210599456574280252),
  (15, 29, 453347182355485940519484),
  (15, 30, 453347182355485940515388),
  (15, 31, 453347182355485940515388),
  (15, 32, 2722258935367507707706996859454145691668),
  (15, 33, 20),
  (15, 34, 4),
  (16, 0, 9),
  (16, 1, 64),
  (16, 2, 2112),
  (16, 3, 48),
  (16, 4, 48),
  (17, 0, 1),
  (17, 1, 3),
  (17, 2, 1),
  (18, 0, 1),
  (18, 1, 4),
  (19, 0, 3),
  (19, 1, 48),
  (20, 0, 3),
  (20, 1, 48),
  (21, 0, 71),
  (21, 1, 197),
  (21, 2, 64),
  (22, 0, 6),
  (22, 1, 70),
  (22, 2, 1094),
  (22, 3, 48),
  (22, 4, 524294),
  (22, 5, 48),
  (22, 6, 48),
  (23, 0, 2),
  (23, 1, 18),
  (23, 2, 4114),
  (23, 3, 12),
  (23, 4, 34),
  (23, 5, 98338),
  (23, 6, 229410),
  (23, 7, 98402),
  (23, 8, 98466),
  (23, 9, 98338),
  (23, 10, 98338),
  (23, 11, 12),
  (24, 0, 3),
  (24, 1, 48),
  (25, 0, 3),
  (25, 1, 4099),
  (25, 2, 48),
  (25, 3, 48),
  (26, 0, 3),
  (26, 1, 4099),
  (26, 2, 48),
  (26, 3, 48),
  (27, 0, 25),
  (27, 1, 56),
  (27, 2, 120),
  (27, 3, 2072),
  (27, 4, 16),
  (27, 5, 16),
  (27, 6, 4194328),
  (27, 7, 16),
  (27, 8, 16),
  (28, 0, 3),
  (28, 1, 67),
  (28, 2, 3),
  (28, 3, 16),
  (29, 0, 35),
  (29, 1, 417),
  (29, 2, 33185),
  (29, 3, 64),
  (29, 4, 524449),
  (29, 5, 64),
  (29, 6, 67108864),
  (29, 7, 64),
  (29, 8, 64),
  (30, 0, 1),
  (30, 1, 2049),
  (30, 2, 28),
  (30, 3, 33),
  (30, 4, 97),
  (30, 5, 32865),
  (30, 6, 524385),
  (30, 7, 97),
  (30, 8, 481),
  (30, 9, 1073742305),
  (30, 10, 28),
  (30, 11, 225),
  (30, 12, 225),
  (30, 13, 97),
  (30, 14, 28),
  (31, 0, 12),
  (31, 1, 1048588),
  (31, 2, 48),
  (31, 3, 48),
  (32, 0, 1),
  (32, 1, 17),
  (32, 2, 14352),
  (32, 3, 30736),
  (32, 4, 14448),
  (32, 5, 538736),
  (32, 6, 14752),
  (32, 7, 549755828352),
  (32, 8, 12),
  (32, 9, 14352),
  (32, 10, 14352),
  (32, 11, 1552),
  (32, 12, 12),
  (33, 0, 1),
  (33, 1, 129),
  (33, 2, 4),
  (33, 3, 1793),
  (33, 4, 3841),
  (33, 5, 1817),
  (33, 6, 34585),
  (33, 7, 4),
  (33, 8, 536872729),
  (33, 9, 4),
  (33, 10, 137438955265),
  (33, 11, 4),
  (33, 12, 1793),
  (33, 13, 4),
  (34, 0, 6),
  (34, 1, 36),
  (34, 2, 100),
  (34, 3, 114784),
  (34, 4, 245856),
  (34, 5, 115040),
  (34, 6, 115552),
  (34, 7, 1073857376),
  (34, 8, 114784),
  (34, 9, 114784),
  (34, 10, 16),
  (35, 0, 6),
  (35, 1, 1798),
  (35, 2, 3846),
  (35, 3, 1894),
  (35, 4, 2022),
  (35, 5, 8390630),
  (35, 6, 16),
  (35, 7, 268437350),
  (35, 8, 16),
  (35, 9, 8589936390),
  (35, 10, 16),
  (35, 11, 1798),
  (35, 12, 16),
  (36, 0, 1),
  (36, 1, 1025),
  (36, 2, 4),
  (36, 3, 33554432),
  (36, 4, 4),
  (36, 5, 4),
  (37, 0, 1),
  (37, 1, 8),
  (37, 2, 24),
  (37, 3, 24),
  (37, 4, 24),
  (37, 5, 24),
  (37, 6, 24),
  (37, 7, 24),
  (37, 8, 16),
  (37, 9, 4),
  (37, 10, 4),
  (38, 0, 5),
  (38, 1, 517),
  (38, 2, 4),
  (38, 3, 13),
  (38, 4, 13),
  (38, 5, 12),
  (38, 6, 4),
  (39, 0, 0),
  (39, 1, 1),
  (40, 0, 466),
  (40, 1, 978),
  (40, 2, 8389586),
  (40, 3, 256),
  (40, 4, 1794),
  (40, 5, 4294969090),
  (40, 6, 256),
  (40, 7, 274877908736),
  (40, 8, 824633722624),
  (40, 9, 3328),
  (40, 10, 17592186047744),
  (40, 11, 256),
  (40, 12, 9024791440788736),
  (40, 13, 256),
  (40, 14, 288230376151715072),
  (40, 15, 256),
  (40, 16, 9223372036854777600),
  (40, 17, 5888),
  (40, 18, 13568),
  (40, 19, 256),
  (40, 20, 1208925819614629174712064),
  (40, 21, 256),
  (40, 22, 77371252455336267181201152),
  (40, 23, 256),
  (40, 24, 256),
  (41, 0, 13),
  (41, 1, 525),
  (41, 2, 13),
  (41, 3, 13),
  (42, 0, 3),
  (42, 1, 387),
  (42, 2, 899),
  (42, 3, 419),
  (42, 4, 65955),
  (42, 5, 16),
  (42, 6, 387),
  (42, 7, 16),
  (43, 0, 6),
  (43, 1, 8),
  (44, 0, 7),
  (44, 1, 131079),
  (44, 2, 192),
  (44, 3, 256),
  (44, 4, 768),
  (44, 5, 33555200),
  (44, 6, 192),
  (44, 7, 192),
  (45, 0, 3),
  (45, 1, 16),
  (46, 0, 3),
  (46, 1, 16),
  (47, 0, 2),
  (47, 1, 4294967296),
  (47, 2, 4),
  (47, 3, 4),
  (48, 0, 3),
  (48, 1, 274877906947),
  (48, 2, 16),
  (48, 3, 16),
  (49, 0, 1),
  (49, 1, 256),
  (49, 2, 4),
  (49, 3, 4),
  (50, 0, 3),
  (50, 1, 32),
  (50, 2, 16),
  (51, 0, 3),
  (51, 1, 194),
  (51, 2, 4194498),
  (51, 3, 48),
  (51, 4, 48),
  (52, 0, 3),
  (52, 1, 64),
  (52, 2, 16),
  (53, 0, 3),
  (53, 1, 32),
  (53, 2, 229408),
  (53, 3, 491552),
  (53, 4, 229600),
  (53, 5, 229408),
  (53, 6, 229408),
  (53, 7, 16),
  (54, 0, 2),
  (54, 1, 4),
  (55, 0, 5),
  (55, 1, 21),
  (55, 2, 1045),
  (55, 3, 12),
  (55, 4, 131093),
  (55, 5, 37),
  (55, 6, 8388645),
  (55, 7, 12),
  (55, 8, 12),
  (55, 9, 536870917),
  (55, 10, 12),
  (55, 11, 206158430213),
  (55, 12, 481036337157),
  (55, 13, 206158430341),
  (55, 14, 4604204941445),
  (55, 15, 12),
  (55, 16, 206158430213),
  (55, 17, 12),
  (56, 0, 1),
  (56, 1, 9),
  (56, 2, 456),
  (56, 3, 968),
  (56, 4, 488),
  (56, 5, 16872),
  (56, 6, 4),
  (56, 7, 456),
  (56, 8, 4),
  (57, 0, 3),
  (57, 1, 35),
  (57, 2, 99),
  (57, 3, 2115),
  (57, 4, 4096),
  (57, 5, 16),
  (57, 6, 16),
  (57, 7, 8195),
  (57, 8, 16),
  (57, 9, 65539),
  (57, 10, 16),
  (57, 11, 524288),
  (57, 12, 16),
  (57, 13, 16),
  (58, 0, 3),
  (58, 1, 35),
  (58, 2, 99),
  (58, 3, 2115),
  (58, 4, 4096),
  (58, 5, 16),
  (58, 6, 16),
  (58, 7, 8195),
  (58, 8, 16),
  (58, 9, 65539),
  (58, 10, 16),
  (58, 11, 524288),
  (58, 12, 16),
  (58, 13, 16),
  (59, 0, 9),
  (59, 1, 73),
  (59, 2, 16457),
  (59, 3, 48),
  (59, 4, 137),
  (59, 5, 512),
  (59, 6, 1536),
  (59, 7, 68719478272),
  (59, 8, 48),
  (59, 9, 48),
  (60, 0, 9),
  (60, 1, 16),
  (61, 0, 12),
  (61, 1, 16),
  (62, 0, 3),
  (62, 1, 16),
  (63, 0, 6),
  (63, 1, 8),
  (64, 0, 1),
  (64, 1, 4),
  (65, 0, 3),
  (65, 1, 35),
  (65, 2, 65571),
  (65, 3, 35),
  (65, 4, 16),
  (66, 0, 1),
  (66, 1, 4),
  (67, 0, 1),
  (67, 1, 4),
  (68, 0, 71),
  (68, 1, 198),
  (68, 2, 454),
  (68, 3, 57794),
  (68, 4, 123330),
  (68, 5, 58818),
  (68, 6, 4253122),
  (68, 7, 57794),
  (68, 8, 57794),
  (68, 9, 137438953922),
  (68, 10, 64),
  (68, 11, 64),
  (69, 0, 159),
  (69, 1, 414),
  (69, 2, 57756),
  (69, 3, 123292),
  (69, 4, 58780),
  (69, 5, 57756),
  (69, 6, 57756),
  (69, 7, 128),
  (70, 0, 2),
  (70, 1, 34),
  (70, 2, 4),
  (70, 3, 98),
  (70, 4, 10),
  (70, 5, 4106),
  (70, 6, 4),
  (70, 7, 16418),
  (70, 8, 8388610),
  (70, 9, 4),
  (70, 10, 16777250),
  (70, 11, 268435458),
  (70, 12, 4),
  (70, 13, 4),
  (70, 14, 4294967330),
  (70, 15, 68719476738),
  (70, 16, 4),
  (70, 17, 137438953474),
  (70, 18, 70368744177666),
  (70, 19, 4),
  (70, 20, 562949953421312),
  (70, 21, 4),
  (70, 22, 4),
  (71, 0, 5),
  (71, 1, 53),
  (71, 2, 32821),
  (71, 3, 12),
  (71, 4, 393269),
  (71, 5, 917557),
  (71, 6, 393333),
  (71, 7, 393269),
  (71, 8, 1074135093),
  (71, 9, 12),
  (71, 10, 393269),
  (71, 11, 12),
  (72, 0, 1),
  (72, 1, 4),
  (73, 0, 5),
  (73, 1, 21),
  (73, 2, 53),
  (73, 3, 1077),
  (73, 4, 53),
  (73, 5, 117),
  (73, 6, 53),
  (73, 7, 1048693),
  (73, 8, 33554485),
  (73, 9, 12),
  (73, 10, 12),
  (73, 11, 34359738485),
  (73, 12, 53),
  (73, 13, 53),
  (73, 14, 147573952589676413045),
  (73, 15, 12),
  (73, 16, 12),
  (74, 0, 3),
  (74, 1, 16),
  (75, 0, 1),
  (75, 1, 4),
  (76, 0, 1),
  (76, 1, 4),
  (77, 0, 21),
  (77, 1, 277),
  (77, 2, 1813),
  (77, 3, 132885),
  (77, 4, 3861),
  (77, 5, 2147487509),
  (77, 6, 1813),
  (77, 7, 1813),
  (77, 8, 192),
  (78, 0, 1),
  (78, 1, 17),
  (78, 2, 4),
  (78, 3, 4),
  (79, 0, 3),
  (79, 1, 387),
  (79, 2, 899),
  (79, 3, 419),
  (79, 4, 65955),
  (79, 5, 16),
  (79, 6, 387),
  (79, 7, 16),
  (80, 0, 6),
  (80, 1, 8),
  (81, 0, 3),
  (81, 1, 387),
  (81, 2, 899),
  (81, 3, 419),
  (81, 4, 65955),
  (81, 5, 16),
  (81, 6, 387),
  (81, 7, 16),
  (82, 0, 25),
  (82, 1, 49),
  (82, 2, 1072),
  (82, 3, 48),
  (82, 4, 16),
  (83, 0, 1),
  (83, 1, 65),
  (83, 2, 4),
  (83, 3, 769),
  (83, 4, 1793),
  (83, 5, 777),
  (83, 6, 2097921),
  (83, 7, 4),
  (83, 8, 769),
  (83, 9, 4),
  (84, 0, 3),
  (84, 1, 16)]
def cmpsL : List Nat := [29]
def ress : List (Nat × Nat) := []
def opnsL : List Nat := []

noncomputable def tab : Tab where
  fn := fun k => if goodF.contains k then Try.prog.funcs[k]? else none
  und := Try.prog.underlying
  inf := look infs
  keep := look2 keeps
  opn := fun f => opnsL.contains f
  res := look ress
  cmp := fun t => cmpsL.contains t
  drw := look2 drws
  lv := look2 lvs
  prim := fun _ => none

def fnGood (L : Nat → Option (List (List Nat))) : Option Func → Bool
  | some F => !(F.name == "runtime.NumGoroutine") && match F.body with
    | some c => dstsOk F.ntmps c && drawsOk L c
    | none => false
  | none => false
theorem allGood : (goodF.all fun k => fnGood (look2 drws k) Try.prog.funcs[k]?) = true := by kernel_rfl
def crepB : Value → AV → Bool
  | .int k n, .d (.int j m) => k == j && n == m
  | .bool b, .d (.bool c) => b == c
  | .string s, .d (.str l) => s.data.toList == l
  | .slice none 0 0, .own _ [] none => true
  | _, _ => false
theorem crepB_ok {v : Value} {x : AV} (h : crepB v x = true) : CRep v x := by
  unfold crepB at h
  split at h
  · simp only [Bool.and_eq_true, beq_iff_eq] at h
    obtain ⟨rfl, rfl⟩ := h
    exact .int _ _
  · simp only [beq_iff_eq] at h
    subst h
    exact .bool _
  · simp only [beq_iff_eq] at h
    subst h
    exact .str _
  · exact .nilsl _
  · cases h
def crepsB : List Value → List AV → Bool
  | [], [] => true
  | v :: vs, x :: xs => crepB v x && crepsB vs xs
  | _, _ => false
theorem crepsB_ok : ∀ (vs : List Value) (xs : List AV), crepsB vs xs = true → vs.length = xs.length ∧ ∀ (j : Nat) y, xs[j]? = some y → ∃ u, vs[j]? = some u ∧ CRep u y
  | [], [], h => ⟨rfl, fun j y hy => by simp at hy⟩
  | v :: vs, x :: xs, h => by
    simp only [crepsB, Bool.and_eq_true] at h
    obtain ⟨h1, h2⟩ := crepsB_ok vs xs h.2
    refine ⟨by simp [h1], fun j y hy => ?_⟩
    cases j with
    | zero =>
      have : x = y := by simpa using hy
      subst this
      exact ⟨v, rfl, crepB_ok h.1⟩
    | succ j => exact h2 j y (by simpa using hy)
  | [], _ :: _, h => by simp [crepsB] at h
  | _ :: _, [], h => by simp [crepsB] at h
def infGoodP (P : Program) (e : Nat × Nat × Nat × List AV) : Bool := match P.types[e.1]? with
  | some i => i.size == e.2.1 && i.bytes == e.2.2.1 && match i.zero with
    | some zv => zv.cells.size == e.2.1 && crepsB zv.cells.toList e.2.2.2
    | none => false
  | none => false
theorem allInf : (infs.all (infGoodP Try.prog)) = true := by kernel_rfl
theorem look_mem {α : Type} : ∀ (l : List (Nat × α)) (k : Nat) (x : α), look l k = some x → (k, x) ∈ l
  | [], k, x, h => by simp [look] at h
  | (i, y) :: r, k, x, h => by
    simp only [look] at h
    split at h
    · rename_i hi
      injection h with h
      subst hi; subst h
      simp
    · exact List.mem_cons_of_mem _ (look_mem r k x h)

theorem tab_fn {k : Nat} {F : Func} (h1 : goodF.contains k = true) (h2 : Try.prog.funcs[k]? = some F) : tab.fn k = some F := by
  simp only [tab]
  rw [if_pos h1]
  exact h2
theorem tab_und (t : Nat) : tab.und t = Try.prog.underlying t := by simp only [tab]
theorem tab_inf0 (t : Nat) : tab.inf t = look infs t := by simp only [tab]
theorem tab_inf {t : Nat} {d : Option (Nat × Nat × List AV)} (h : look infs t = d) : tab.inf t = d := by
  simp only [tab]
  exact h
theorem tab_keep {f r : Nat} {d : Option (List Nat × List Nat)} (h : look2 keeps f r = d) : tab.keep f r = d := by
  simp only [tab]
  exact h
theorem tab_drw {f r : Nat} {d : Option (List (List Nat))} (h : look2 drws f r = d) : tab.drw f r = d := by
  simp only [tab]
  exact h
theorem tab_lv {f r : Nat} {d : Option Nat} (h : look2 lvs f r = d) : tab.lv f r = d := by
  simp only [tab]
  exact h
theorem tab_opn {f : Nat} {b : Bool} (h : opnsL.contains f = b) : tab.opn f = b := by
  simp only [tab]
  exact h
theorem tab_res {f : Nat} {d : Option Nat} (h : look ress f = d) : tab.res f = d := by
  simp only [tab]
  exact h
theorem tab_cmp {t : Nat} {b : Bool} (h : cmpsL.contains t = b) : tab.cmp t = b := by
  simp only [tab]
  exact h
theorem tab_prim (f : Nat) : tab.prim f = none := by simp only [tab]

theorem info_of {P : Program} {t : Nat} {i : TypeInfo} (h : P.types[t]? = some i) : P.info? t = some i := by
  have : t < P.types.size := (Array.getElem?_eq_some_iff.1 h).1
  show Tables.info? P.toTables t = some i
  unfold Tables.info?
  rw [if_pos this]
  exact h
theorem infGood_ok {P : Program} {t n b : Nat} {z : List AV} (h1 : infGoodP P (t, n, b, z) = true) : ∃ i zv, P.info? t = some i ∧ i.size = n ∧ i.bytes = b ∧ i.zero = some zv ∧ zv.cells.size = n ∧ z.length = n ∧
    ∀ (j : Nat) y, z[j]? = some y → ∃ u, zv.cells[j]? = some u ∧ CRep u y := by
  unfold infGoodP at h1
  simp only at h1
  cases hi : P.types[t]? with
  | none => rw [hi] at h1; simp at h1
  | some i =>
    rw [hi] at h1
    simp only [Bool.and_eq_true, beq_iff_eq] at h1
    obtain ⟨⟨h2, h3⟩, h4⟩ := h1
    cases hz : i.zero with
    | none => rw [hz] at h4; simp at h4
    | some zv =>
      rw [hz] at h4
      simp only [Bool.and_eq_true, beq_iff_eq] at h4
      obtain ⟨h5, h6⟩ := crepsB_ok _ _ h4.2
      refine ⟨i, zv, info_of hi, h2, h3, hz, h4.1, by simp at h5; omega, fun j y hy => ?_⟩
      obtain ⟨u, h7, h8⟩ := h6 j y hy
      exact ⟨u, by simpa using h7, h8⟩
theorem inf_ok (t n b : Nat) (z : List AV) (h : look infs t = some (n, b, z)) : ∃ i zv, Try.prog.info? t = some i ∧ i.size = n ∧ i.bytes = b ∧ i.zero = some zv ∧ zv.cells.size = n ∧ z.length = n ∧
    ∀ (j : Nat) y, z[j]? = some y → ∃ u, zv.cells[j]? = some u ∧ CRep u y := by
  exact infGood_ok ((List.all_eq_true (l := infs) (p := infGoodP Try.prog)).1 allInf (t, n, b, z) (look_mem infs t (n, b, z) h))
theorem tab_ok : tab.Ok Try.prog where
  fn := fun f F h => by
    simp only [tab] at h
    split at h
    · rename_i hg
      have h1 := List.all_eq_true.1 allGood f (by simpa using hg)
      rw [h] at h1
      simp only [fnGood, Bool.and_eq_true, Bool.not_eq_true'] at h1
      cases hb : F.body with
      | none => rw [hb] at h1; simp at h1
      | some c =>
        rw [hb] at h1
        simp only [Bool.and_eq_true] at h1
        exact ⟨h, h1.1, c, rfl, h1.2.1⟩
    · cases h
  und := fun t d h => (tab_und t).symm.trans h
  inf := fun t n b z h => inf_ok t n b z ((tab_inf0 t).symm.trans h)
  mix := by kernel_rfl
  drw := fun f F c h hb => by
    simp only [tab] at h
    split at h
    · rename_i hg
      have h1 := List.all_eq_true.1 allGood f (by simpa using hg)
      rw [h] at h1
      simp only [fnGood, Bool.and_eq_true, hb] at h1
      exact h1.2.2
    · cases h
  cmp := fun t h => by
    have h1 : (cmpsL.all fun t => !Try.prog.stoodInHeld t && !Try.prog.eqGuardType Try.prog.depth t) = true := by kernel_rfl
    have h2 := List.all_eq_true.1 h1 t (by simpa [tab] using h)
    simpa using h2
theorem prim_ok : PrimOk Try.prog tab := fun f p h => by simp [tab] at h

theorem fn3 : tab.fn 3 = some Try.f3 := tab_fn (by kernel_rfl) Try.func3
theorem fn4 : tab.fn 4 = some Try.f4 := tab_fn (by kernel_rfl) Try.func4
theorem fn5 : tab.fn 5 = some Try.f5 := tab_fn (by kernel_rfl) Try.func5
theorem fn6 : tab.fn 6 = some Try.f6 := tab_fn (by kernel_rfl) Try.func6
theorem fn7 : tab.fn 7 = some Try.f7 := tab_fn (by kernel_rfl) Try.func7
theorem fn8 : tab.fn 8 = some Try.f8 := tab_fn (by kernel_rfl) Try.func8
theorem fn9 : tab.fn 9 = some Try.f9 := tab_fn (by kernel_rfl) Try.func9
theorem fn10 : tab.fn 10 = some Try.f10 := tab_fn (by kernel_rfl) Try.func10
theorem fn11 : tab.fn 11 = some Try.f11 := tab_fn (by kernel_rfl) Try.func11
theorem fn12 : tab.fn 12 = some Try.f12 := tab_fn (by kernel_rfl) Try.func12
theorem fn13 : tab.fn 13 = some Try.f13 := tab_fn (by kernel_rfl) Try.func13
theorem fn14 : tab.fn 14 = some Try.f14 := tab_fn (by kernel_rfl) Try.func14
theorem fn15 : tab.fn 15 = some Try.f15 := tab_fn (by kernel_rfl) Try.func15
theorem fn16 : tab.fn 16 = some Try.f16 := tab_fn (by kernel_rfl) Try.func16
theorem fn17 : tab.fn 17 = some Try.f17 := tab_fn (by kernel_rfl) Try.func17
theorem fn18 : tab.fn 18 = some Try.f18 := tab_fn (by kernel_rfl) Try.func18
theorem fn19 : tab.fn 19 = some Try.f19 := tab_fn (by kernel_rfl) Try.func19
theorem fn20 : tab.fn 20 = some Try.f20 := tab_fn (by kernel_rfl) Try.func20
theorem fn21 : tab.fn 21 = some Try.f21 := tab_fn (by kernel_rfl) Try.func21
theorem fn22 : tab.fn 22 = some Try.f22 := tab_fn (by kernel_rfl) Try.func22
theorem fn23 : tab.fn 23 = some Try.f23 := tab_fn (by kernel_rfl) Try.func23
theorem fn24 : tab.fn 24 = some Try.f24 := tab_fn (by kernel_rfl) Try.func24
theorem fn25 : tab.fn 25 = some Try.f25 := tab_fn (by kernel_rfl) Try.func25
theorem fn26 : tab.fn 26 = some Try.f26 := tab_fn (by kernel_rfl) Try.func26
theorem fn27 : tab.fn 27 = some Try.f27 := tab_fn (by kernel_rfl) Try.func27
theorem fn28 : tab.fn 28 = some Try.f28 := tab_fn (by kernel_rfl) Try.func28
theorem fn29 : tab.fn 29 = some Try.f29 := tab_fn (by kernel_rfl) Try.func29
theorem fn30 : tab.fn 30 = some Try.f30 := tab_fn (by kernel_rfl) Try.func30
theorem fn31 : tab.fn 31 = some Try.f31 := tab_fn (by kernel_rfl) Try.func31
theorem fn32 : tab.fn 32 = some Try.f32 := tab_fn (by kernel_rfl) Try.func32
theorem fn33 : tab.fn 33 = some Try.f33 := tab_fn (by kernel_rfl) Try.func33
theorem fn34 : tab.fn 34 = some Try.f34 := tab_fn (by kernel_rfl) Try.func34
theorem fn35 : tab.fn 35 = some Try.f35 := tab_fn (by kernel_rfl) Try.func35
theorem fn36 : tab.fn 36 = some Try.f36 := tab_fn (by kernel_rfl) Try.func36
theorem fn37 : tab.fn 37 = some Try.f37 := tab_fn (by kernel_rfl) Try.func37
theorem fn38 : tab.fn 38 = some Try.f38 := tab_fn (by kernel_rfl) Try.func38
theorem fn39 : tab.fn 39 = some Try.f39 := tab_fn (by kernel_rfl) Try.func39
theorem fn40 : tab.fn 40 = some Try.f40 := tab_fn (by kernel_rfl) Try.func40
theorem fn41 : tab.fn 41 = some Try.f41 := tab_fn (by kernel_rfl) Try.func41
theorem fn42 : tab.fn 42 = some Try.f42 := tab_fn (by kernel_rfl) Try.func42
theorem fn43 : tab.fn 43 = some Try.f43 := tab_fn (by kernel_rfl) Try.func43
theorem fn44 : tab.fn 44 = some Try.f44 := tab_fn (by kernel_rfl) Try.func44
theorem fn45 : tab.fn 45 = some Try.f45 := tab_fn (by kernel_rfl) Try.func45
theorem fn46 : tab.fn 46 = some Try.f46 := tab_fn (by kernel_rfl) Try.func46
theorem fn47 : tab.fn 47 = some Try.f47 := tab_fn (by kernel_rfl) Try.func47
theorem fn48 : tab.fn 48 = some Try.f48 := tab_fn (by kernel_rfl) Try.func48
theorem fn49 : tab.fn 49 = some Try.f49 := tab_fn (by kernel_rfl) Try.func49
theorem fn50 : tab.fn 50 = some Try.f50 := tab_fn (by kernel_rfl) Try.func50
theorem fn51 : tab.fn 51 = some Try.f51 := tab_fn (by kernel_rfl) Try.func51
theorem fn52 : tab.fn 52 = some Try.f52 := tab_fn (by kernel_rfl) Try.func52
theorem fn53 : tab.fn 53 = some Try.f53 := tab_fn (by kernel_rfl) Try.func53
theorem fn54 : tab.fn 54 = some Try.f54 := tab_fn (by kernel_rfl) Try.func54
theorem fn55 : tab.fn 55 = some Try.f55 := tab_fn (by kernel_rfl) Try.func55
theorem fn56 : tab.fn 56 = some Try.f56 := tab_fn (by kernel_rfl) Try.func56
theorem fn57 : tab.fn 57 = some Try.f57 := tab_fn (by kernel_rfl) Try.func57
theorem fn58 : tab.fn 58 = some Try.f58 := tab_fn (by kernel_rfl) Try.func58
theorem fn59 : tab.fn 59 = some Try.f59 := tab_fn (by kernel_rfl) Try.func59
theorem fn60 : tab.fn 60 = some Try.f60 := tab_fn (by kernel_rfl) Try.func60
theorem fn61 : tab.fn 61 = some Try.f61 := tab_fn (by kernel_rfl) Try.func61
theorem fn62 : tab.fn 62 = some Try.f62 := tab_fn (by kernel_rfl) Try.func62
theorem fn63 : tab.fn 63 = some Try.f63 := tab_fn (by kernel_rfl) Try.func63
theorem fn64 : tab.fn 64 = some Try.f64 := tab_fn (by kernel_rfl) Try.func64
theorem fn65 : tab.fn 65 = some Try.f65 := tab_fn (by kernel_rfl) Try.func65
theorem fn66 : tab.fn 66 = some Try.f66 := tab_fn (by kernel_rfl) Try.func66
theorem fn67 : tab.fn 67 = some Try.f67 := tab_fn (by kernel_rfl) Try.func67
theorem fn68 : tab.fn 68 = some Try.f68 := tab_fn (by kernel_rfl) Try.func68
theorem fn69 : tab.fn 69 = some Try.f69 := tab_fn (by kernel_rfl) Try.func69
theorem fn70 : tab.fn 70 = some Try.f70 := tab_fn (by kernel_rfl) Try.func70
theorem fn71 : tab.fn 71 = some Try.f71 := tab_fn (by kernel_rfl) Try.func71
theorem fn72 : tab.fn 72 = some Try.f72 := tab_fn (by kernel_rfl) Try.func72
theorem fn73 : tab.fn 73 = some Try.f73 := tab_fn (by kernel_rfl) Try.func73
theorem fn74 : tab.fn 74 = some Try.f74 := tab_fn (by kernel_rfl) Try.func74
theorem fn75 : tab.fn 75 = some Try.f75 := tab_fn (by kernel_rfl) Try.func75
theorem fn76 : tab.fn 76 = some Try.f76 := tab_fn (by kernel_rfl) Try.func76
theorem fn77 : tab.fn 77 = some Try.f77 := tab_fn (by kernel_rfl) Try.func77
theorem fn78 : tab.fn 78 = some Try.f78 := tab_fn (by kernel_rfl) Try.func78
theorem fn79 : tab.fn 79 = some Try.f79 := tab_fn (by kernel_rfl) Try.func79
theorem fn80 : tab.fn 80 = some Try.f80 := tab_fn (by kernel_rfl) Try.func80
theorem fn81 : tab.fn 81 = some Try.f81 := tab_fn (by kernel_rfl) Try.func81
theorem fn82 : tab.fn 82 = some Try.f82 := tab_fn (by kernel_rfl) Try.func82
theorem fn83 : tab.fn 83 = some Try.f83 := tab_fn (by kernel_rfl) Try.func83
theorem fn84 : tab.fn 84 = some Try.f84 := tab_fn (by kernel_rfl) Try.func84
theorem inf2 : tab.inf 2 = some (1, 8, [.d (.int .i64 0)]) := tab_inf (by kernel_rfl)
theorem inf3 : tab.inf 3 = some (1, 8, [.d (.int .i64 0)]) := tab_inf (by kernel_rfl)
theorem inf4 : tab.inf 4 = some (1, 1, [.d (.bool false)]) := tab_inf (by kernel_rfl)
theorem inf5 : tab.inf 5 = some (1, 1, [.d (.int .u8 0)]) := tab_inf (by kernel_rfl)
theorem inf6 : tab.inf 6 = some (1, 1, [.d (.int .u8 0)]) := tab_inf (by kernel_rfl)
theorem inf7 : tab.inf 7 = some (4, 24, [.d (.int .i64 0), .d (.int .i64 0), .d (.bool false), .d (.int .u8 0)]) := tab_inf (by kernel_rfl)
theorem inf8 : tab.inf 8 = some (4, 24, [.d (.int .i64 0), .d (.int .i64 0), .d (.bool false), .d (.int .u8 0)]) := tab_inf (by kernel_rfl)
theorem inf9 : tab.inf 9 = some (1, 16, [.d (.str [])]) := tab_inf (by kernel_rfl)
theorem inf10 : tab.inf 10 = some (1, 16, [.d (.str [])]) := tab_inf (by kernel_rfl)
theorem inf11 : tab.inf 11 = some (1, 16, [.d (.str [])]) := tab_inf (by kernel_rfl)
theorem inf12 : tab.inf 12 = some (1, 8, [.d (.int .u64 0)]) := tab_inf (by kernel_rfl)
theorem inf13 : tab.inf 13 = some (2, 24, [.d (.str []), .d (.int .u64 0)]) := tab_inf (by kernel_rfl)
theorem inf14 : tab.inf 14 = some (2, 24, [.d (.str []), .d (.int .u64 0)]) := tab_inf (by kernel_rfl)
theorem inf21 : tab.inf 21 = some (1, 4, [.d (.int .i32 0)]) := tab_inf (by kernel_rfl)
theorem inf22 : tab.inf 22 = some (1, 24, [.own 4 [] none]) := tab_inf (by kernel_rfl)
theorem inf23 : tab.inf 23 = some (1, 24, [.own 9 [] none]) := tab_inf (by kernel_rfl)
theorem inf24 : tab.inf 24 = some (1, 24, [.own 8 [] none]) := tab_inf (by kernel_rfl)
theorem inf25 : tab.inf 25 = some (2, 48, [.own 9 [] none, .own 8 [] none]) := tab_inf (by kernel_rfl)
theorem inf26 : tab.inf 26 = some (2, 48, [.own 9 [] none, .own 8 [] none]) := tab_inf (by kernel_rfl)
theorem inf28 : tab.inf 28 = some (3, 32, [.d (.int .i64 0), .d (.int .i64 0), .d (.str [])]) := tab_inf (by kernel_rfl)
theorem inf29 : tab.inf 29 = some (3, 32, [.d (.int .i64 0), .d (.int .i64 0), .d (.str [])]) := tab_inf (by kernel_rfl)
theorem inf30 : tab.inf 30 = some (1, 24, [.own 6 [] none]) := tab_inf (by kernel_rfl)
theorem inf31 : tab.inf 31 = some (6, 80, [.d (.int .i64 0), .d (.int .i64 0), .d (.int .i64 0), .d (.str []), .d (.str []), .own 6 [] none]) := tab_inf (by kernel_rfl)
theorem inf32 : tab.inf 32 = some (6, 80, [.d (.int .i64 0), .d (.int .i64 0), .d (.int .i64 0), .d (.str []), .d (.str []), .own 6 [] none]) := tab_inf (by kernel_rfl)
theorem inf33 : tab.inf 33 = some (9, 112, [.d (.str []), .d (.int .i64 0), .d (.int .i64 0), .d (.int .i64 0), .d (.int .i64 0), .d (.int .i64 0), .d (.str []), .d (.str []), .own 6 [] none]) := tab_inf (by kernel_rfl)
theorem inf34 : tab.inf 34 = some (9, 112, [.d (.str []), .d (.int .i64 0), .d (.int .i64 0), .d (.int .i64 0), .d (.int .i64 0), .d (.int .i64 0), .d (.str []), .d (.str []), .own 6 [] none]) := tab_inf (by kernel_rfl)
theorem inf35 : tab.inf 35 = some (1, 8, [.d (.int .i64 0)]) := tab_inf (by kernel_rfl)
theorem inf44 : tab.inf 44 = some (3, 24, [.d (.int .i64 0), .d (.int .i64 0), .d (.int .i64 0)]) := tab_inf (by kernel_rfl)
theorem inf45 : tab.inf 45 = some (3, 24, [.d (.int .i64 0), .d (.int .i64 0), .d (.int .i64 0)]) := tab_inf (by kernel_rfl)
theorem inf49 : tab.inf 49 = some (4, 40, [.d (.int .i64 0), .d (.int .i64 0), .d (.int .i64 0), .d (.str [])]) := tab_inf (by kernel_rfl)
theorem inf50 : tab.inf 50 = some (4, 40, [.d (.int .i64 0), .d (.int .i64 0), .d (.int .i64 0), .d (.str [])]) := tab_inf (by kernel_rfl)
theorem inf55 : tab.inf 55 = some (1, 24, [.own 6 [] none]) := tab_inf (by kernel_rfl)
theorem inf61 : tab.inf 61 = some (1, 24, [.own 2 [] none]) := tab_inf (by kernel_rfl)
theorem inf64 : tab.inf 64 = some (2, 16, [.d (.int .i64 0), .d (.int .i64 0)]) := tab_inf (by kernel_rfl)
theorem inf65 : tab.inf 65 = some (2, 16, [.d (.int .i64 0), .d (.int .i64 0)]) := tab_inf (by kernel_rfl)
theorem inf67 : tab.inf 67 = some (1, 24, [.own 7 [] none]) := tab_inf (by kernel_rfl)
theorem inf70 : tab.inf 70 = some (7, 80, [.d (.str []), .d (.int .i64 0), .d (.int .i64 0), .d (.str []), .d (.int .i64 0), .d (.int .i64 0), .d (.str [])]) := tab_inf (by kernel_rfl)
theorem inf71 : tab.inf 71 = some (7, 80, [.d (.str []), .d (.int .i64 0), .d (.int .i64 0), .d (.str []), .d (.int .i64 0), .d (.int .i64 0), .d (.str [])]) := tab_inf (by kernel_rfl)
theorem inf73 : tab.inf 73 = some (6, 64, [.d (.int .i64 0), .d (.int .i64 0), .d (.str []), .d (.int .i64 0), .d (.int .i64 0), .d (.str [])]) := tab_inf (by kernel_rfl)
theorem inf74 : tab.inf 74 = some (6, 64, [.d (.int .i64 0), .d (.int .i64 0), .d (.str []), .d (.int .i64 0), .d (.int .i64 0), .d (.str [])]) := tab_inf (by kernel_rfl)
theorem inf77 : tab.inf 77 = some (2, 32, [.own 4 [] none, .d (.int .i64 0)]) := tab_inf (by kernel_rfl)
theorem inf78 : tab.inf 78 = some (2, 32, [.own 4 [] none, .d (.int .i64 0)]) := tab_inf (by kernel_rfl)
theorem inf80 : tab.inf 80 = some (1, 24, [.own 1 [] none]) := tab_inf (by kernel_rfl)
theorem inf83 : tab.inf 83 = some (1, 24, [.own 1 [] none]) := tab_inf (by kernel_rfl)
theorem inf84 : tab.inf 84 = some (8, 120, [.d (.str []), .own 1 [] none, .d (.int .i64 0), .d (.int .i64 0), .d (.int .i64 0), .d (.str []), .d (.str []), .own 6 [] none]) := tab_inf (by kernel_rfl)
theorem inf85 : tab.inf 85 = some (8, 120, [.d (.str []), .own 1 [] none, .d (.int .i64 0), .d (.int .i64 0), .d (.int .i64 0), .d (.str []), .d (.str []), .own 6 [] none]) := tab_inf (by kernel_rfl)
theorem inf109 : tab.inf 109 = some (1, 24, [.own 1 [] none]) := tab_inf (by kernel_rfl)
theorem inf112 : tab.inf 112 = some (13, 208, [.d (.str []), .d (.str []), .d (.str []), .d (.str []), .d (.str []), .d (.str []), .d (.str []), .d (.str []), .d (.str []), .d (.str []), .d (.str []), .d (.str []), .d (.str [])]) := tab_inf (by kernel_rfl)
theorem inf122 : tab.inf 122 = some (1, 8, [.d (.int .u64 0)]) := tab_inf (by kernel_rfl)
theorem inf130 : tab.inf 130 = some (1, 4, [.d (.int .u32 0)]) := tab_inf (by kernel_rfl)
theorem inf131 : tab.inf 131 = some (1, 1, [.d (.int .u8 0)]) := tab_inf (by kernel_rfl)
theorem inf132 : tab.inf 132 = some (1, 1, [.d (.int .u8 0)]) := tab_inf (by kernel_rfl)
theorem inf135 : tab.inf 135 = some (1, 4, [.d (.int .i32 0)]) := tab_inf (by kernel_rfl)
theorem inf136 : tab.inf 136 = some (1, 4, [.d (.int .i32 0)]) := tab_inf (by kernel_rfl)
end Go.Proofs.Ytfcakcipnikcjaa.Am
