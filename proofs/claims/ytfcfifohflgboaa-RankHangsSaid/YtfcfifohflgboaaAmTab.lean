/- The evaluator's table for this program: functions, types, and what is kept at a loop's head. Printed by gentab.py. -/
import Derived.Test.YtfcfifohflgboaaAmLim
import Derived.Test.YtfcfifohflgboaaProg
import Derived.Test.YtfcfifohflgboaaPrm
set_option linter.unusedVariables false
set_option linter.unusedSimpArgs false
namespace Go.Proofs.Ytfcfifohflgboaa.Am
open Go Go.RowKit

def look {α : Type} : List (Nat × α) → Nat → Option α
  | [], _ => none
  | (i, x) :: r, k => if i = k then some x else look r k
def look2 {α : Type} : List (Nat × Nat × α) → Nat → Nat → Option α
  | [], _, _ => none
  | (i, j, x) :: r, k, m => if i = k ∧ j = m then some x else look2 r k m

def goodF : List Nat := [9, 10, 12, 15, 21, 22, 23, 24, 25, 28, 29, 30, 31, 32, 33, 34, 35, 37, 45, 46, 47, 48, 49, 50, 52, 53, 54, 55, 56, 57, 58, 59, 62, 63, 64, 65, 66, 67, 68, 69, 70, 71, 72, 73, 75, 76, 77, 78, 79, 80, 82, 84, 85, 86, 87, 88, 89, 91, 95, 98, 99, 106, 111, 114, 120, 121, 122]
def infs : List (Nat × Nat × Nat × List AV) := [(1, 1, 8, [.d .nilf]),
  (2, 1, 8, [.d (.int .i64 0)]),
  (3, 1, 8, [.d (.int .i64 0)]),
  (4, 1, 1, [.d (.bool false)]),
  (5, 1, 1, [.d (.int .u8 0)]),
  (9, 1, 16, [.d (.str [])]),
  (10, 1, 16, [.d (.str [])]),
  (22, 1, 24, [.own 4 [] none]),
  (23, 1, 24, [.own 9 [] none]),
  (24, 1, 24, [.own 8 [] none]),
  (26, 2, 48, [.own 9 [] none, .own 8 [] none]),
  (28, 1, 8, [.d (.int .i64 0)]),
  (31, 1, 24, [.own 1 [] none]),
  (33, 3, 32, [.d (.int .i64 0), .d (.int .i64 0), .d (.str [])]),
  (34, 1, 24, [.own 6 [] none]),
  (36, 6, 80, [.d (.int .i64 0), .d (.int .i64 0), .d (.int .i64 0), .d (.str []), .d (.str []), .own 6 [] none]),
  (38, 8, 120, [.d (.str []), .own 1 [] none, .d (.int .i64 0), .d (.int .i64 0), .d (.int .i64 0), .d (.str []), .d (.str []), .own 6 [] none]),
  (41, 1, 8, [.d .nilf]),
  (48, 9, 112, [.d (.str []), .d (.int .i64 0), .d (.int .i64 0), .d (.int .i64 0), .d (.int .i64 0), .d (.int .i64 0), .d (.str []), .d (.str []), .own 6 [] none]),
  (50, 1, 24, [.own 1 [] none]),
  (65, 1, 8, [.d .any]),
  (67, 2, 32, [.own 4 [] none, .d (.int .i64 0)]),
  (69, 4, 40, [.d (.int .i64 0), .d (.int .i64 0), .d (.int .i64 0), .d (.str [])]),
  (73, 1, 24, [.own 1 [] none]),
  (85, 1, 24, [.own 1 [] none]),
  (89, 1, 8, [.d .nilf]),
  (92, 1, 8, [.d .nilf]),
  (93, 1, 8, [.d .nilf]),
  (96, 1, 8, [.d .nilf]),
  (99, 1, 8, [.d .any]),
  (102, 1, 8, [.d .any]),
  (104, 1, 8, [.d .nilf]),
  (105, 1, 8, [.d .nilf]),
  (107, 1, 8, [.d .nilf]),
  (112, 1, 8, [.d .nilf]),
  (119, 1, 8, [.d .any]),
  (121, 1, 8, [.d .any]),
  (128, 1, 8, [.d (.int .u64 0)]),
  (132, 2, 32, [.own 1 [] none, .d (.int .i64 0)]),
  (135, 1, 8, [.d .nilf]),
  (138, 3, 32, [.d (.str []), .d (.int .i64 0), .d (.int .i64 0)]),
  (139, 57, 608, [.d (.str []), .d (.int .i64 0), .d (.int .i64 0), .d (.str []), .d (.int .i64 0), .d (.int .i64 0), .d (.str []), .d (.int .i64 0), .d (.int .i64 0), .d (.str []), .d (.int .i64 0), .d (.int .i64 0), .d (.str []), .d (.int .i64 0), .d (.int .i64 0), .d (.str []), .d (.int .i64 0), .d (.int .i64 0), .d (.str []), .d (.int .i64 0), .d (.int .i64 0), .d (.str []), .d (.int .i64 0), .d (.int .i64 0), .d (.str []), .d (.int .i64 0), .d (.int .i64 0), .d (.str []), .d (.int .i64 0), .d (.int .i64 0), .d (.str []), .d (.int .i64 0), .d (.int .i64 0), .d (.str []), .d (.int .i64 0), .d (.int .i64 0), .d (.str []), .d (.int .i64 0), .d (.int .i64 0), .d (.str []), .d (.int .i64 0), .d (.int .i64 0), .d (.str []), .d (.int .i64 0), .d (.int .i64 0), .d (.str []), .d (.int .i64 0), .d (.int .i64 0), .d (.str []), .d (.int .i64 0), .d (.int .i64 0), .d (.str []), .d (.int .i64 0), .d (.int .i64 0), .d (.str []), .d (.int .i64 0), .d (.int .i64 0)])]
def keeps : List (Nat × Nat × List Nat × List Nat) := [(9, 9, [7, 8, 9, 10, 66, 67, 68], [17, 21, 22, 25, 26, 34, 44, 60, 65, 67, 74, 94, 100]),
  (10, 23, [2, 3, 4, 5, 9, 10, 11, 12, 77, 78, 91, 92, 93], [2, 4, 5, 11, 12, 17, 70, 109, 125]),
  (10, 18, [2, 3, 4, 5, 9, 77, 78], [2, 4, 5, 17, 70, 125]),
  (10, 5, [2, 3, 4, 5, 25, 26], [2, 4, 5, 17, 70]),
  (22, 10, [0, 8, 26, 27, 28], [12, 17, 19, 21, 26, 27, 39]),
  (28, 6, [4, 7, 19, 20], [4, 11, 19, 26, 30]),
  (30, 17, [10, 13, 53, 54], [10, 17, 26, 33, 34, 38, 48, 53, 63]),
  (30, 10, [0, 9, 10, 37, 38, 39], [10, 17, 26, 33, 34, 38, 48, 53]),
  (34, 1, [0, 2, 3], [5]),
  (45, 2, [0, 1, 7, 8], [7]),
  (46, 14, [0, 38, 39, 40], [4, 12, 15, 22, 32, 39, 46]),
  (46, 4, [0, 14, 15, 16], [9, 12, 15, 22, 32, 39, 46]),
  (47, 9, [0, 3, 6, 13, 14, 15, 28, 29, 30], [5, 43, 48]),
  (47, 3, [0, 3, 13, 14, 15], [48]),
  (48, 14, [0, 3, 5, 7, 23, 24, 26, 27, 28, 33, 34, 35], [11, 12, 14, 23, 27, 34, 50, 59]),
  (48, 10, [0, 3, 23, 24, 26, 27, 28], [11, 12, 14, 23, 27, 34, 50, 59]),
  (48, 8, [0, 3, 23, 24], [11, 12, 14, 23, 27, 34, 50, 59]),
  (48, 3, [0, 3, 14, 15], [11, 12, 14, 23, 27, 34, 50, 59]),
  (52, 4, [0, 1, 12, 13], [7, 9, 12]),
  (54, 2, [0, 1, 7, 8], [7, 16]),
  (63, 4, [1, 6, 7, 8, 13, 14, 15], [6, 7, 12, 14, 27, 30, 35, 40, 45, 46]),
  (64, 3, [2, 3, 4, 7, 8, 13, 14, 15], [7, 8, 14, 26, 28]),
  (66, 2, [0, 1, 5], [8, 15]),
  (73, 2, [0, 1, 7, 8], [7, 16]),
  (76, 4, [2, 18, 19, 20], [3, 14, 19, 26]),
  (77, 9, [0, 1, 2, 6, 7, 8], [18, 27, 43, 60]),
  (77, 7, [0, 1, 2, 6], [18, 27, 43, 60]),
  (77, 2, [0, 1, 2, 6, 7, 8], [18, 27, 43, 60]),
  (79, 3, [4, 5, 11, 12, 13], [1, 12, 19, 27]),
  (80, 5, [13, 14, 15], [1, 8, 14, 20]),
  (85, 11, [1, 2, 3, 10, 37, 38, 39], [3, 15, 38, 47, 56, 71]),
  (89, 4, [0, 1, 2, 3, 8, 9], [32]),
  (89, 1, [0, 1, 2, 3, 8], [32]),
  (111, 3, [5, 15, 16, 17], [10, 12, 14, 16, 30]),
  (122, 4, [0, 8, 9], [5, 8])]
def drws : List (Nat × Nat × List (List Nat)) := [(9, 14, [[], [], [], [], [], [], [], [], [], [], [], [], [], [], [], [], [], [], [], [], [], [], [], [], [], []]),
  (10, 4, [[], [], [0, 1], [], [], [], []]),
  (10, 8, [[], [], [], [], [0], [0], [2, 3], [], [0, 6], [0, 6], [2, 3], [], [], [0, 2, 3, 4, 5, 6, 8, 9, 10], []]),
  (10, 13, [[], [], [], [], [], [3], [3], [], [], []]),
  (31, 3, [[], [], [], [], [], [], [], [], [], [], [], [], [], [], [], [], [1, 2, 3, 5, 6, 7, 9, 10, 11, 12, 14, 15], []]),
  (31, 4, [[], [], [], [], [], [], [], [], [], [], [], [], [], [], []]),
  (34, 3, [[], [], [], [], [], [], [], [], [], [], [], [], [], [], [], []]),
  (46, 9, [[], [], [], [], [], [], [], [], [], [], []]),
  (52, 6, [[], [], [], [], [], [], [], [], []]),
  (57, 1, [[], [], [], [], [], [], [], [], [], []]),
  (64, 5, [[], [], [], [], [], [], [], [0, 1], [], [], [], []]),
  (70, 4, [[], [], [0], [0], [], [], [], [], []]),
  (85, 23, [[], [], [], [], [], [], [], [], [], [], [], [], [], [], [], [], [], [], []]),
  (85, 25, [[], [], [], [], [], [], [], [], [], [], [], [], []]),
  (87, 2, [[], [], [0], [], [], [], [0, 4], [], [2, 4], [], [0, 4, 8], [], [2, 4, 6, 8], [], [], [2, 4, 6, 8, 10, 12], [], [], [2, 4, 6, 8, 10, 12, 15], [], [], [2, 4, 6, 8, 10, 12, 15, 18], [], [], [2, 4, 6, 8, 10, 12, 15, 18, 21], [], [], [2, 4, 6, 8, 10, 12, 15, 18, 21, 24], [], [], [2, 4, 6, 8, 10, 12, 15, 18, 21, 24, 27], [], [], [2, 4, 6, 8, 10, 12, 15, 18, 21, 24, 27, 30], [], [], [2, 4, 6, 8, 10, 12, 15, 18, 21, 24, 27, 30, 33], [], []]),
  (89, 4, [[], [], [], [], [], [], [], [], [], [], [], [], [], [], [], [], []]),
  (89, 6, [[], [], [], [], [], [], [], [], [], [], [], [], [], [], [], [], [], []]),
  (91, 3, [[], [], [], [0, 1, 2], [3], [3], [], [], []])]
def lvs : List (Nat × Nat × Nat) := [(9, 0, 7),
  (9, 1, 134),
  (9, 2, 896),
  (9, 3, 3968),
  (9, 4, 16256),
  (9, 5, 4611686018427393920),
  (9, 6, 64),
  (9, 7, 36893488147419109248),
  (9, 8, 516508834063867447168),
  (9, 9, 1106804644422573098880),
  (9, 10, 516508834063867479936),
  (9, 11, 38295440697021029156736),
  (9, 12, 64),
  (9, 13, 516508834063867447168),
  (9, 14, 64),
  (10, 0, 5),
  (10, 1, 12),
  (10, 2, 28),
  (10, 3, 60),
  (10, 4, 100663356),
  (10, 5, 234881084),
  (10, 6, 100663420),
  (10, 7, 100663548),
  (10, 8, 100663740),
  (10, 9, 35184472752572),
  (10, 10, 105553216930236),
  (10, 11, 100663612),
  (10, 12, 36028797119627708),
  (10, 13, 100663612),
  (10, 14, 100663356),
  (10, 15, 100663356),
  (10, 16, 572),
  (10, 17, 453347182355485940515388),
  (10, 18, 1057810092162800527868476),
  (10, 19, 453347182355485940516412),
  (10, 20, 453347182355485940518460),
  (10, 21, 453347182355485940522556),
  (10, 22, 17331613897177679334528261692),
  (10, 23, 37138654525743763732914249276),
  (10, 24, 17331613897177679334528286268),
  (10, 25, 10158536415723012891308153921084),
  (10, 26, 17331613897177679334528261692),
  (10, 27, 17331613897177679334528261692),
  (10, 28, 41538374868731968210599456574280252),
  (10, 29, 453347182355485940519484),
  (10, 30, 453347182355485940515388),
  (10, 31, 453347182355485940515388),
  (10, 32, 2722258935367507707706996859454145691668),
  (10, 33, 20),
  (10, 34, 4),
  (12, 0, 1),
  (12, 1, 3),
  (12, 2, 1),
  (15, 0, 3),
  (15, 1, 67),
  (15, 2, 3),
  (15, 3, 16),
  (21, 0, 3),
  (21, 1, 16),
  (22, 0, 1),
  (22, 1, 33),
  (22, 2, 16417),
  (22, 3, 28),
  (22, 4, 65),
  (22, 5, 193),
  (22, 6, 4194497),
  (22, 7, 28),
  (22, 8, 449),
  (22, 9, 469762305),
  (22, 10, 1006633217),
  (22, 11, 469763329),
  (22, 12, 469762305),
  (22, 13, 469762305),
  (22, 14, 28),
  (23, 0, 0),
  (23, 1, 10),
  (23, 2, 1),
  (24, 0, 20),
  (24, 1, 16),
  (24, 5, 16),
  (25, 0, 9),
  (25, 1, 64),
  (25, 2, 2112),
  (25, 3, 48),
  (25, 4, 48),
  (28, 0, 1),
  (28, 1, 81),
  (28, 2, 65617),
  (28, 3, 12),
  (28, 4, 145),
  (28, 5, 1573008),
  (28, 6, 3670160),
  (28, 7, 1573264),
  (28, 8, 1573008),
  (28, 9, 1573008),
  (28, 10, 128),
  (28, 11, 12),
  (29, 0, 2),
  (29, 1, 18),
  (29, 2, 1042),
  (29, 3, 12),
  (29, 4, 34),
  (29, 5, 32),
  (29, 8, 12),
  (30, 0, 3),
  (30, 1, 195),
  (30, 2, 2097347),
  (30, 3, 48),
  (30, 4, 449),
  (30, 5, 1073742273),
  (30, 6, 48),
  (30, 7, 833),
  (30, 8, 1601),
  (30, 9, 962072675841),
  (30, 10, 2061584303617),
  (30, 11, 962072679937),
  (30, 12, 282437049390593),
  (30, 13, 962072675841),
  (30, 14, 962072675841),
  (30, 15, 9217),
  (30, 16, 27021597764232192),
  (30, 17, 63050394783196160),
  (30, 18, 27021597764248576),
  (30, 19, 603482350067672064),
  (30, 20, 27021597764232192),
  (30, 21, 27021597764232192),
  (30, 22, 48),
  (31, 0, 5),
  (31, 1, 517),
  (31, 2, 4),
  (31, 3, 13),
  (31, 4, 13),
  (31, 5, 12),
  (31, 6, 4),
  (32, 0, 0),
  (32, 1, 1),
  (33, 0, 466),
  (33, 1, 978),
  (33, 2, 8389586),
  (33, 3, 256),
  (33, 4, 1794),
  (33, 5, 4294969090),
  (33, 6, 256),
  (33, 7, 274877908736),
  (33, 8, 824633722624),
  (33, 9, 3328),
  (33, 10, 17592186047744),
  (33, 11, 256),
  (33, 12, 9024791440788736),
  (33, 13, 256),
  (33, 14, 288230376151715072),
  (33, 15, 256),
  (33, 16, 9223372036854777600),
  (33, 17, 5888),
  (33, 18, 13568),
  (33, 19, 256),
  (33, 20, 1208925819614629174712064),
  (33, 21, 256),
  (33, 22, 77371252455336267181201152),
  (33, 23, 256),
  (33, 24, 256),
  (34, 0, 13),
  (34, 1, 525),
  (34, 2, 13),
  (34, 3, 13),
  (35, 0, 1),
  (35, 1, 1025),
  (35, 2, 4),
  (35, 3, 33554432),
  (35, 4, 4),
  (35, 5, 4),
  (37, 0, 14),
  (37, 1, 388),
  (37, 2, 65924),
  (37, 3, 64),
  (37, 4, 1048576),
  (37, 5, 64),
  (37, 6, 64),
  (45, 0, 3),
  (45, 1, 387),
  (45, 2, 899),
  (45, 3, 419),
  (45, 4, 65955),
  (45, 5, 16),
  (45, 6, 387),
  (45, 7, 16),
  (46, 0, 1),
  (46, 1, 8193),
  (46, 2, 4),
  (46, 3, 114689),
  (46, 4, 245761),
  (46, 5, 114713),
  (46, 6, 114745),
  (46, 7, 16891961),
  (46, 8, 4),
  (46, 9, 114817),
  (46, 10, 68719591425),
  (46, 11, 4),
  (46, 12, 114689),
  (46, 13, 1924145348609),
  (46, 14, 4123168604161),
  (46, 15, 1924145349121),
  (46, 16, 1924145349633),
  (46, 17, 283399122060289),
  (46, 18, 4),
  (46, 19, 1924145348609),
  (46, 20, 4),
  (47, 0, 1),
  (47, 1, 9),
  (47, 2, 57353),
  (47, 3, 122889),
  (47, 4, 57385),
  (47, 5, 57449),
  (47, 6, 2154601),
  (47, 7, 57545),
  (47, 8, 1879105609),
  (47, 9, 4026589257),
  (47, 10, 1879106633),
  (47, 11, 1879107657),
  (47, 12, 1879105609),
  (47, 13, 1879105609),
  (47, 14, 57353),
  (47, 15, 57353),
  (47, 16, 4),
  (48, 0, 1),
  (48, 1, 9),
  (48, 2, 49161),
  (48, 3, 114697),
  (48, 4, 49177),
  (48, 5, 49161),
  (48, 6, 49161),
  (48, 7, 25165833),
  (48, 8, 58720265),
  (48, 9, 494927881),
  (48, 10, 1031798793),
  (48, 11, 494927977),
  (48, 12, 494928105),
  (48, 13, 60624470185),
  (48, 14, 129343946921),
  (48, 15, 60624470697),
  (48, 16, 8856717492905),
  (48, 17, 494928041),
  (48, 18, 60624470185),
  (48, 19, 60624470185),
  (48, 20, 494927881),
  (48, 21, 494927881),
  (48, 22, 25165833),
  (48, 23, 4),
  (49, 0, 3),
  (49, 1, 16),
  (50, 0, 1),
  (50, 1, 4),
  (52, 0, 3),
  (52, 1, 1027),
  (52, 2, 16),
  (52, 3, 12291),
  (52, 4, 28675),
  (52, 5, 12323),
  (52, 6, 16789507),
  (52, 7, 16),
  (52, 8, 12291),
  (52, 9, 16),
  (53, 0, 2),
  (53, 1, 4),
  (54, 0, 3),
  (54, 1, 387),
  (54, 2, 899),
  (54, 3, 419),
  (54, 4, 65955),
  (54, 5, 16),
  (54, 6, 387),
  (54, 7, 16),
  (55, 0, 6),
  (55, 1, 8),
  (56, 0, 0),
  (57, 0, 7),
  (57, 1, 32),
  (58, 0, 3),
  (58, 1, 35),
  (58, 2, 99),
  (58, 3, 2115),
  (58, 4, 4096),
  (58, 5, 16),
  (58, 6, 16),
  (58, 7, 8195),
  (58, 8, 16),
  (58, 9, 65539),
  (58, 10, 16),
  (58, 11, 524288),
  (58, 12, 16),
  (58, 13, 16),
  (59, 0, 2),
  (59, 1, 26),
  (59, 2, 2066),
  (59, 3, 4),
  (59, 4, 8194),
  (59, 5, 4),
  (59, 6, 4),
  (62, 0, 3),
  (62, 1, 8),
  (63, 0, 71),
  (63, 1, 198),
  (63, 2, 454),
  (63, 3, 57794),
  (63, 4, 123330),
  (63, 5, 58818),
  (63, 6, 4253122),
  (63, 7, 57794),
  (63, 8, 57794),
  (63, 9, 137438953922),
  (63, 10, 64),
  (63, 11, 64),
  (64, 0, 159),
  (64, 1, 414),
  (64, 2, 57756),
  (64, 3, 123292),
  (64, 4, 58780),
  (64, 5, 57756),
  (64, 6, 57756),
  (64, 7, 128),
  (65, 0, 1),
  (65, 1, 4),
  (66, 0, 3),
  (66, 1, 35),
  (66, 2, 65571),
  (66, 3, 35),
  (66, 4, 16),
  (67, 0, 1),
  (67, 1, 4),
  (68, 0, 1),
  (68, 1, 4),
  (69, 0, 1),
  (69, 1, 8),
  (69, 2, 24),
  (69, 3, 24),
  (69, 4, 24),
  (69, 5, 24),
  (69, 6, 24),
  (69, 7, 24),
  (69, 8, 16),
  (69, 9, 4),
  (69, 10, 4),
  (70, 0, 6),
  (70, 1, 70),
  (70, 2, 1094),
  (70, 3, 48),
  (70, 4, 48),
  (71, 0, 2),
  (71, 1, 10),
  (71, 2, 266),
  (71, 3, 4),
  (71, 4, 134217730),
  (71, 5, 4),
  (71, 6, 1073741826),
  (71, 7, 17179869184),
  (71, 8, 4),
  (71, 9, 4),
  (71, 10, 4),
  (72, 0, 6),
  (72, 1, 262),
  (72, 2, 774),
  (72, 3, 16),
  (72, 4, 131078),
  (72, 5, 64),
  (72, 6, 16),
  (72, 7, 16),
  (73, 0, 3),
  (73, 1, 387),
  (73, 2, 899),
  (73, 3, 419),
  (73, 4, 65955),
  (73, 5, 16),
  (73, 6, 387),
  (73, 7, 16),
  (75, 0, 6),
  (75, 1, 14),
  (75, 2, 10),
  (75, 3, 0),
  (76, 0, 14),
  (76, 1, 65548),
  (76, 2, 16),
  (76, 3, 1835012),
  (76, 4, 3932164),
  (76, 5, 1835076),
  (76, 6, 136052740),
  (76, 7, 16),
  (76, 8, 1835012),
  (76, 9, 16),
  (77, 0, 71),
  (77, 1, 455),
  (77, 2, 8647),
  (77, 3, 327),
  (77, 4, 455),
  (77, 5, 455),
  (77, 6, 71),
  (77, 7, 1073741895),
  (77, 8, 455),
  (77, 9, 34359738823),
  (77, 10, 327),
  (77, 11, 455),
  (77, 12, 455),
  (77, 13, 711),
  (77, 14, 18014398509482695),
  (77, 15, 71),
  (77, 16, 71),
  (78, 0, 1),
  (78, 1, 4),
  (79, 0, 2),
  (79, 1, 50),
  (79, 2, 14384),
  (79, 3, 30768),
  (79, 4, 14512),
  (79, 5, 15152),
  (79, 6, 14384),
  (79, 7, 14384),
  (79, 8, 12),
  (80, 0, 2),
  (80, 1, 10),
  (80, 2, 1034),
  (80, 3, 4),
  (80, 4, 57344),
  (80, 5, 122880),
  (80, 6, 57376),
  (80, 7, 57408),
  (80, 8, 4251712),
  (80, 9, 4),
  (80, 10, 57344),
  (80, 11, 4),
  (82, 0, 5),
  (82, 1, 0),
  (84, 0, 25),
  (84, 1, 49),
  (84, 2, 1072),
  (84, 3, 48),
  (84, 4, 16),
  (85, 0, 14),
  (85, 1, 262158),
  (85, 2, 786446),
  (85, 3, 192),
  (85, 4, 16777230),
  (85, 5, 768),
  (85, 6, 17179869440),
  (85, 7, 192),
  (85, 8, 192),
  (85, 9, 1038),
  (85, 10, 962072675342),
  (85, 11, 2061584303118),
  (85, 12, 962072679438),
  (85, 13, 962072699918),
  (85, 14, 2252761886385166),
  (85, 15, 192),
  (85, 16, 962072675342),
  (85, 17, 962072675342),
  (85, 18, 99336),
  (85, 19, 36893488147419202568),
  (85, 20, 192),
  (85, 21, 37778931862957161710600),
  (85, 22, 192),
  (85, 23, 151115727451828646839304),
  (85, 24, 192),
  (85, 25, 633825300114114700748351602688),
  (85, 26, 192),
  (85, 27, 192),
  (86, 0, 1),
  (86, 1, 9),
  (86, 2, 8),
  (86, 5, 4),
  (87, 0, 0),
  (87, 1, 14),
  (87, 2, 1),
  (88, 0, 2),
  (88, 1, 4),
  (89, 0, 271),
  (89, 1, 16655),
  (89, 2, 271),
  (89, 3, 783),
  (89, 4, 17179869967),
  (89, 5, 783),
  (89, 6, 783),
  (91, 0, 2),
  (91, 1, 1026),
  (91, 2, 4),
  (91, 3, 524290),
  (91, 4, 4),
  (91, 5, 2097154),
  (91, 6, 1073741824),
  (91, 7, 4),
  (91, 8, 2149580802),
  (91, 9, 9007199254740992),
  (91, 10, 4),
  (91, 11, 18014398509481986),
  (91, 12, 36893488147419103232),
  (91, 13, 4),
  (91, 14, 4),
  (95, 0, 25),
  (95, 1, 56),
  (95, 2, 120),
  (95, 3, 2072),
  (95, 4, 16),
  (95, 5, 16),
  (95, 6, 4194328),
  (95, 7, 16),
  (95, 8, 16),
  (98, 0, 1),
  (98, 1, 1),
  (99, 0, 2),
  (99, 1, 4),
  (106, 0, 3),
  (106, 1, 16),
  (111, 0, 3),
  (111, 1, 32),
  (111, 2, 229408),
  (111, 3, 491552),
  (111, 4, 229600),
  (111, 5, 229408),
  (111, 6, 229408),
  (111, 7, 16),
  (114, 0, 2),
  (114, 1, 34),
  (114, 2, 4),
  (114, 3, 98),
  (114, 4, 10),
  (114, 5, 4106),
  (114, 6, 4),
  (114, 7, 16418),
  (114, 8, 8388610),
  (114, 9, 4),
  (114, 10, 16777250),
  (114, 11, 268435458),
  (114, 12, 4),
  (114, 13, 4),
  (114, 14, 4294967330),
  (114, 15, 68719476738),
  (114, 16, 4),
  (114, 17, 137438953474),
  (114, 18, 70368744177666),
  (114, 19, 4),
  (114, 20, 562949953421312),
  (114, 21, 4),
  (114, 22, 4),
  (120, 0, 1),
  (120, 1, 4),
  (121, 0, 1),
  (121, 1, 256),
  (121, 2, 4),
  (121, 3, 4),
  (122, 0, 1),
  (122, 1, 65),
  (122, 2, 4),
  (122, 3, 769),
  (122, 4, 1793),
  (122, 5, 777),
  (122, 6, 2097921),
  (122, 7, 4),
  (122, 8, 769),
  (122, 9, 4)]
def cmpsL : List Nat := [33]
def ress : List (Nat × Nat) := []
def opnsL : List Nat := []
def mutsL : List (Nat × Nat) := [(23, 70), (50, 26)]
def rosL : List (Nat × Nat × String) := [(3, 7, "raw.go:91"), (9, 3, "field.go:16"), (9, 3, "names.go:46"), (36, 1, "expr.go:40"), (36, 1, "expr.go:50"), (36, 1, "expr.go:75"), (36, 1, "expr.go:88"), (36, 1, "field.go:25"), (36, 1, "names.go:15"), (36, 1, "names.go:34"), (36, 2, "names.go:46"), (36, 2, "typing.go:71"), (36, 3, "names.go:18"), (36, 3, "typing.go:28"), (36, 3, "typing.go:79"), (48, 1, "field.go:30"), (48, 2, "field.go:17"), (48, 2, "field.go:47"), (107, 2, "names.go:16")]
def thaws : List (Nat × Nat × Nat) := []
def lendsL : List Nat := [52]
def primsL : List Nat := [24, 86, 87]
noncomputable def primF (f : Nat) : Option (List DV → Option (AV × Heap)) := if f = 24 then some hasP else if f = 86 then some typP else if f = 87 then some rulesP else none
def altsL : List Nat := []

noncomputable def tab : Tab where
  fn := fun k => if goodF.contains k then Try.prog.funcs[k]? else none
  und := Try.prog.underlying
  inf := look infs
  keep := look2 keeps
  opn := fun f => opnsL.contains f
  res := look ress
  cmp := fun t => cmpsL.contains t
  drw := look2 drws
  lv := look2 lvs
  prim := primF
  mutA := fun t k => (mutsL.filter fun e => e.1 == t && e.2 == k).length != 0
  thaw := look2 thaws
  lend := fun f => lendsL.contains f
  ro := fun t k p => rosL.any fun e => e.1 == t && e.2.1 == k && e.2.2 == p
  alt := fun f => altsL.contains f

def fnGood (L : Nat → Option (List (List Nat))) : Option Func → Bool
  | some F => !(F.name == "runtime.NumGoroutine") && match F.body with
    | some c => dstsOk F.ntmps c && drawsOk L c
    | none => false
  | none => false
theorem allGood : (goodF.all fun k => fnGood (look2 drws k) Try.prog.funcs[k]?) = true := by kernel_rfl
def crepB : Value → AV → Bool
  | .int k n, .d (.int j m) => k == j && n == m
  | .bool b, .d (.bool c) => b == c
  | .string s, .d (.str l) => s.data.toList == l
  | .slice none 0 0, .own _ [] none => true
  | .nilFunc, .d .nilf => true
  | v, .d .any => leafV v
  | _, _ => false
theorem crepB_ok {v : Value} {x : AV} (h : crepB v x = true) : CRep v x := by
  unfold crepB at h
  split at h
  · simp only [Bool.and_eq_true, beq_iff_eq] at h
    obtain ⟨rfl, rfl⟩ := h
    exact .int _ _
  · simp only [beq_iff_eq] at h
    subst h
    exact .bool _
  · simp only [beq_iff_eq] at h
    subst h
    exact .str _
  · exact .nilsl _
  · exact .nilf
  · exact .anyv _ h
  · cases h
def crepsB : List Value → List AV → Bool
  | [], [] => true
  | v :: vs, x :: xs => crepB v x && crepsB vs xs
  | _, _ => false
theorem crepsB_ok : ∀ (vs : List Value) (xs : List AV), crepsB vs xs = true → vs.length = xs.length ∧ ∀ (j : Nat) y, xs[j]? = some y → ∃ u, vs[j]? = some u ∧ CRep u y
  | [], [], h => ⟨rfl, fun j y hy => by simp at hy⟩
  | v :: vs, x :: xs, h => by
    simp only [crepsB, Bool.and_eq_true] at h
    obtain ⟨h1, h2⟩ := crepsB_ok vs xs h.2
    refine ⟨by simp [h1], fun j y hy => ?_⟩
    cases j with
    | zero =>
      have : x = y := by simpa using hy
      subst this
      exact ⟨v, rfl, crepB_ok h.1⟩
    | succ j => exact h2 j y (by simpa using hy)
  | [], _ :: _, h => by simp [crepsB] at h
  | _ :: _, [], h => by simp [crepsB] at h
def zagB (P : Program) (t : Nat) (v : Value) : Bool := match P.underlying t with
  | some (.struct _) | some (.array _ _) => !leafV v && (match v with | .agg _ => true | _ => false)
  | some _ => leafV v
  | none => true
def infGoodP (P : Program) (e : Nat × Nat × Nat × List AV) : Bool := match P.types[e.1]? with
  | some i => i.size == e.2.1 && i.bytes == e.2.2.1 && match i.zero with
    | some zv => zagB P e.1 zv && zv.cells.size == e.2.1 && crepsB zv.cells.toList e.2.2.2
    | none => false
  | none => false
theorem allInf : (infs.all (infGoodP Try.prog)) = true := by kernel_rfl
theorem look_mem {α : Type} : ∀ (l : List (Nat × α)) (k : Nat) (x : α), look l k = some x → (k, x) ∈ l
  | [], k, x, h => by simp [look] at h
  | (i, y) :: r, k, x, h => by
    simp only [look] at h
    split at h
    · rename_i hi
      injection h with h
      subst hi; subst h
      simp
    · exact List.mem_cons_of_mem _ (look_mem r k x h)

theorem tab_fn {k : Nat} {F : Func} (h1 : goodF.contains k = true) (h2 : Try.prog.funcs[k]? = some F) : tab.fn k = some F := by
  simp only [tab]
  rw [if_pos h1]
  exact h2
theorem tab_und (t : Nat) : tab.und t = Try.prog.underlying t := by simp only [tab]
theorem tab_inf0 (t : Nat) : tab.inf t = look infs t := by simp only [tab]
theorem tab_inf {t : Nat} {d : Option (Nat × Nat × List AV)} (h : look infs t = d) : tab.inf t = d := by
  simp only [tab]
  exact h
theorem tab_keep {f r : Nat} {d : Option (List Nat × List Nat)} (h : look2 keeps f r = d) : tab.keep f r = d := by
  simp only [tab]
  exact h
theorem tab_drw {f r : Nat} {d : Option (List (List Nat))} (h : look2 drws f r = d) : tab.drw f r = d := by
  simp only [tab]
  exact h
theorem tab_lv {f r : Nat} {d : Option Nat} (h : look2 lvs f r = d) : tab.lv f r = d := by
  simp only [tab]
  exact h
theorem tab_opn {f : Nat} {b : Bool} (h : opnsL.contains f = b) : tab.opn f = b := by
  simp only [tab]
  exact h
theorem tab_cmp {t : Nat} {b : Bool} (h : cmpsL.contains t = b) : tab.cmp t = b := by
  simp only [tab]
  exact h
theorem tab_mut {t k : Nat} {b : Bool} (h : ((mutsL.filter fun e => e.1 == t && e.2 == k).length != 0) = b) : tab.mutA t k = b := by
  simp only [tab]
  exact h
theorem tab_ro {t k : Nat} {p : String} {b : Bool} (h : (rosL.any fun e => e.1 == t && e.2.1 == k && e.2.2 == p) = b) : tab.ro t k p = b := by
  simp only [tab]
  exact h
theorem tab_lend {f : Nat} {b : Bool} (h : lendsL.contains f = b) : tab.lend f = b := by
  simp only [tab]
  exact h
theorem look2_none {α : Type} : ∀ (l : List (Nat × Nat × α)) (f k : Nat), (l.all fun e => e.1 != f) = true → look2 l f k = none
  | [], _, _, _ => rfl
  | (i, j, x) :: r, f, k, h => by
    simp only [List.all_cons, Bool.and_eq_true, bne_iff_ne] at h
    simp only [look2]
    rw [if_neg (fun e => h.1 e.1)]
    exact look2_none r f k h.2
def Plain (f : Nat) : Prop := tab.res f = none ∧ (∀ k, tab.thaw f k = none) ∧ tab.prim f = none
theorem tab_nprim {f : Nat} (h : primsL.contains f = false) : tab.prim f = none := by
  simp only [tab, primF]
  simp [primsL] at h
  simp [h]
theorem tab_res {f : Nat} (h : ((look ress f).isNone && (thaws.all fun e => e.1 != f) && !(primsL.contains f)) = true) : Plain f := by
  simp only [Bool.and_eq_true, Option.isNone_iff_eq_none, Bool.not_eq_true'] at h
  exact ⟨by simp only [tab]; exact h.1.1, fun k => by simp only [tab]; exact look2_none _ _ _ h.1.2, tab_nprim h.2⟩
theorem isAlt_tab {f : Nat} {args : List AV} {H : Heap} (h : altsL.contains f = false) : isAlt tab f args H = false := by
  simp only [isAlt, tab, h, Bool.false_and]
theorem info_of {P : Program} {t : Nat} {i : TypeInfo} (h : P.types[t]? = some i) : P.info? t = some i := by
  have : t < P.types.size := (Array.getElem?_eq_some_iff.1 h).1
  show Tables.info? P.toTables t = some i
  unfold Tables.info?
  rw [if_pos this]
  exact h
theorem infGood_ok {P : Program} {t n b : Nat} {z : List AV} (h1 : infGoodP P (t, n, b, z) = true) : ∃ i zv, P.info? t = some i ∧ i.size = n ∧ i.bytes = b ∧ i.zero = some zv ∧ zv.cells.size = n ∧ z.length = n ∧
    ∀ (j : Nat) y, z[j]? = some y → ∃ u, zv.cells[j]? = some u ∧ CRep u y := by
  unfold infGoodP at h1
  simp only at h1
  cases hi : P.types[t]? with
  | none => rw [hi] at h1; simp at h1
  | some i =>
    rw [hi] at h1
    simp only [Bool.and_eq_true, beq_iff_eq] at h1
    obtain ⟨⟨h2, h3⟩, h4⟩ := h1
    cases hz : i.zero with
    | none => rw [hz] at h4; simp at h4
    | some zv =>
      rw [hz] at h4
      simp only [Bool.and_eq_true, beq_iff_eq] at h4
      have h4 : zv.cells.size = n ∧ crepsB zv.cells.toList z = true := ⟨h4.1.2, h4.2⟩
      obtain ⟨h5, h6⟩ := crepsB_ok _ _ h4.2
      refine ⟨i, zv, info_of hi, h2, h3, hz, h4.1, by simp at h5; omega, fun j y hy => ?_⟩
      obtain ⟨u, h7, h8⟩ := h6 j y hy
      exact ⟨u, by simpa using h7, h8⟩
theorem zag_ok {P : Program} {t n b : Nat} {z : List AV} (h1 : infGoodP P (t, n, b, z) = true) {i : TypeInfo} {zv : Value} (hi : P.info? t = some i) (hz : i.zero = some zv) : zagB P t zv = true := by
  unfold infGoodP at h1
  simp only at h1
  cases hj : P.types[t]? with
  | none => rw [hj] at h1; simp at h1
  | some j =>
    have hij : j = i := by
      have := info_of hj
      rw [hi] at this
      injection this with this
      exact this.symm
    subst hij
    rw [hj] at h1
    simp only [Bool.and_eq_true, beq_iff_eq, hz] at h1
    exact h1.2.1.1
theorem inf_ok (t n b : Nat) (z : List AV) (h : look infs t = some (n, b, z)) : ∃ i zv, Try.prog.info? t = some i ∧ i.size = n ∧ i.bytes = b ∧ i.zero = some zv ∧ zv.cells.size = n ∧ z.length = n ∧
    ∀ (j : Nat) y, z[j]? = some y → ∃ u, zv.cells[j]? = some u ∧ CRep u y := by
  exact infGood_ok ((List.all_eq_true (l := infs) (p := infGoodP Try.prog)).1 allInf (t, n, b, z) (look_mem infs t (n, b, z) h))
theorem tab_zag (t n b : Nat) (z : List AV) (i : TypeInfo) (zv : Value) (h : tab.inf t = some (n, b, z)) (hi : Try.prog.info? t = some i) (hz : i.zero = some zv) (q : Bool) (hq : isAgg tab t = some q) :
    (q = true → ∃ cs, zv = .agg cs) ∧ (q = false → leafV zv = true) := by
  have h1 := zag_ok ((List.all_eq_true (l := infs) (p := infGoodP Try.prog)).1 allInf (t, n, b, z) (look_mem infs t (n, b, z) ((tab_inf0 t).symm.trans h))) hi hz
  unfold zagB at h1
  unfold isAgg at hq
  rw [tab_und t] at hq
  cases hd : Try.prog.underlying t with
  | none => rw [hd] at hq; cases hq
  | some d =>
    rw [hd] at h1 hq
    cases d <;> simp only [Option.some.injEq] at hq h1 <;> subst hq <;> refine ⟨fun h => ?_, fun h => ?_⟩ <;> first
      | exact h1
      | (cases h; done)
      | (simp only [Bool.and_eq_true] at h1; cases zv <;> first | exact ⟨_, rfl⟩ | simp at h1)
theorem tab_ok : tab.Ok Try.prog where
  fn := fun f F h => by
    simp only [tab] at h
    split at h
    · rename_i hg
      have h1 := List.all_eq_true.1 allGood f (by simpa using hg)
      rw [h] at h1
      simp only [fnGood, Bool.and_eq_true, Bool.not_eq_true'] at h1
      cases hb : F.body with
      | none => rw [hb] at h1; simp at h1
      | some c =>
        rw [hb] at h1
        simp only [Bool.and_eq_true] at h1
        exact ⟨h, h1.1, c, rfl, h1.2.1⟩
    · cases h
  und := fun t d h => (tab_und t).symm.trans h
  inf := fun t n b z h => inf_ok t n b z ((tab_inf0 t).symm.trans h)
  mix := by kernel_rfl
  zag := tab_zag
  drw := fun f F c h hb => by
    simp only [tab] at h
    split at h
    · rename_i hg
      have h1 := List.all_eq_true.1 allGood f (by simpa using hg)
      rw [h] at h1
      simp only [fnGood, Bool.and_eq_true, hb] at h1
      exact h1.2.2
    · cases h
  cmp := fun t h => by
    have h1 : (cmpsL.all fun t => !Try.prog.stoodInHeld t && !Try.prog.eqGuardType Try.prog.depth t) = true := by kernel_rfl
    have h2 := List.all_eq_true.1 h1 t (by simpa [tab] using h)
    simpa using h2

theorem prim_ok : PrimOk Try.prog tab := fun f p h => by
  simp only [tab, primF] at h
  by_cases h24 : f = 24
  · subst h24
    simp at h
    subst h
    exact ⟨⟨Try.f24, by simp only [tab]; exact (if_pos (by kernel_rfl)).trans Try.func24⟩, has_one⟩
  by_cases h86 : f = 86
  · subst h86
    simp at h
    subst h
    exact ⟨⟨Try.f86, by simp only [tab]; exact (if_pos (by kernel_rfl)).trans Try.func86⟩, types_one⟩
  by_cases h87 : f = 87
  · subst h87
    simp at h
    subst h
    exact ⟨⟨Try.f87, by simp only [tab]; exact (if_pos (by kernel_rfl)).trans Try.func87⟩, rules_one⟩
  simp [h24, h86, h87] at h
theorem prim24 : tab.prim 24 = some hasP := by simp [tab, primF]
theorem prim86 : tab.prim 86 = some typP := by simp [tab, primF]
theorem prim87 : tab.prim 87 = some rulesP := by simp [tab, primF]
theorem fn9 : tab.fn 9 = some Try.f9 := tab_fn (by kernel_rfl) Try.func9
theorem fn10 : tab.fn 10 = some Try.f10 := tab_fn (by kernel_rfl) Try.func10
theorem fn12 : tab.fn 12 = some Try.f12 := tab_fn (by kernel_rfl) Try.func12
theorem fn15 : tab.fn 15 = some Try.f15 := tab_fn (by kernel_rfl) Try.func15
theorem fn21 : tab.fn 21 = some Try.f21 := tab_fn (by kernel_rfl) Try.func21
theorem fn22 : tab.fn 22 = some Try.f22 := tab_fn (by kernel_rfl) Try.func22
theorem fn23 : tab.fn 23 = some Try.f23 := tab_fn (by kernel_rfl) Try.func23
theorem fn25 : tab.fn 25 = some Try.f25 := tab_fn (by kernel_rfl) Try.func25
theorem fn28 : tab.fn 28 = some Try.f28 := tab_fn (by kernel_rfl) Try.func28
theorem fn29 : tab.fn 29 = some Try.f29 := tab_fn (by kernel_rfl) Try.func29
theorem fn30 : tab.fn 30 = some Try.f30 := tab_fn (by kernel_rfl) Try.func30
theorem fn31 : tab.fn 31 = some Try.f31 := tab_fn (by kernel_rfl) Try.func31
theorem fn32 : tab.fn 32 = some Try.f32 := tab_fn (by kernel_rfl) Try.func32
theorem fn33 : tab.fn 33 = some Try.f33 := tab_fn (by kernel_rfl) Try.func33
theorem fn34 : tab.fn 34 = some Try.f34 := tab_fn (by kernel_rfl) Try.func34
theorem fn35 : tab.fn 35 = some Try.f35 := tab_fn (by kernel_rfl) Try.func35
theorem fn37 : tab.fn 37 = some Try.f37 := tab_fn (by kernel_rfl) Try.func37
theorem fn45 : tab.fn 45 = some Try.f45 := tab_fn (by kernel_rfl) Try.func45
theorem fn46 : tab.fn 46 = some Try.f46 := tab_fn (by kernel_rfl) Try.func46
theorem fn47 : tab.fn 47 = some Try.f47 := tab_fn (by kernel_rfl) Try.func47
theorem fn48 : tab.fn 48 = some Try.f48 := tab_fn (by kernel_rfl) Try.func48
theorem fn49 : tab.fn 49 = some Try.f49 := tab_fn (by kernel_rfl) Try.func49
theorem fn50 : tab.fn 50 = some Try.f50 := tab_fn (by kernel_rfl) Try.func50
theorem fn52 : tab.fn 52 = some Try.f52 := tab_fn (by kernel_rfl) Try.func52
theorem fn54 : tab.fn 54 = some Try.f54 := tab_fn (by kernel_rfl) Try.func54
theorem fn55 : tab.fn 55 = some Try.f55 := tab_fn (by kernel_rfl) Try.func55
theorem fn56 : tab.fn 56 = some Try.f56 := tab_fn (by kernel_rfl) Try.func56
theorem fn57 : tab.fn 57 = some Try.f57 := tab_fn (by kernel_rfl) Try.func57
theorem fn58 : tab.fn 58 = some Try.f58 := tab_fn (by kernel_rfl) Try.func58
theorem fn59 : tab.fn 59 = some Try.f59 := tab_fn (by kernel_rfl) Try.func59
theorem fn62 : tab.fn 62 = some Try.f62 := tab_fn (by kernel_rfl) Try.func62
theorem fn63 : tab.fn 63 = some Try.f63 := tab_fn (by kernel_rfl) Try.func63
theorem fn64 : tab.fn 64 = some Try.f64 := tab_fn (by kernel_rfl) Try.func64
theorem fn65 : tab.fn 65 = some Try.f65 := tab_fn (by kernel_rfl) Try.func65
theorem fn66 : tab.fn 66 = some Try.f66 := tab_fn (by kernel_rfl) Try.func66
theorem fn67 : tab.fn 67 = some Try.f67 := tab_fn (by kernel_rfl) Try.func67
theorem fn68 : tab.fn 68 = some Try.f68 := tab_fn (by kernel_rfl) Try.func68
theorem fn69 : tab.fn 69 = some Try.f69 := tab_fn (by kernel_rfl) Try.func69
theorem fn70 : tab.fn 70 = some Try.f70 := tab_fn (by kernel_rfl) Try.func70
theorem fn71 : tab.fn 71 = some Try.f71 := tab_fn (by kernel_rfl) Try.func71
theorem fn72 : tab.fn 72 = some Try.f72 := tab_fn (by kernel_rfl) Try.func72
theorem fn73 : tab.fn 73 = some Try.f73 := tab_fn (by kernel_rfl) Try.func73
theorem fn77 : tab.fn 77 = some Try.f77 := tab_fn (by kernel_rfl) Try.func77
theorem fn78 : tab.fn 78 = some Try.f78 := tab_fn (by kernel_rfl) Try.func78
theorem fn79 : tab.fn 79 = some Try.f79 := tab_fn (by kernel_rfl) Try.func79
theorem fn80 : tab.fn 80 = some Try.f80 := tab_fn (by kernel_rfl) Try.func80
theorem fn84 : tab.fn 84 = some Try.f84 := tab_fn (by kernel_rfl) Try.func84
theorem fn85 : tab.fn 85 = some Try.f85 := tab_fn (by kernel_rfl) Try.func85
theorem fn88 : tab.fn 88 = some Try.f88 := tab_fn (by kernel_rfl) Try.func88
theorem fn89 : tab.fn 89 = some Try.f89 := tab_fn (by kernel_rfl) Try.func89
theorem fn91 : tab.fn 91 = some Try.f91 := tab_fn (by kernel_rfl) Try.func91
theorem fn95 : tab.fn 95 = some Try.f95 := tab_fn (by kernel_rfl) Try.func95
theorem fn98 : tab.fn 98 = some Try.f98 := tab_fn (by kernel_rfl) Try.func98
theorem fn99 : tab.fn 99 = some Try.f99 := tab_fn (by kernel_rfl) Try.func99
theorem fn111 : tab.fn 111 = some Try.f111 := tab_fn (by kernel_rfl) Try.func111
theorem fn114 : tab.fn 114 = some Try.f114 := tab_fn (by kernel_rfl) Try.func114
theorem fn121 : tab.fn 121 = some Try.f121 := tab_fn (by kernel_rfl) Try.func121
theorem fn122 : tab.fn 122 = some Try.f122 := tab_fn (by kernel_rfl) Try.func122
theorem inf1 : tab.inf 1 = some (1, 8, [.d .nilf]) := tab_inf (by kernel_rfl)
theorem inf2 : tab.inf 2 = some (1, 8, [.d (.int .i64 0)]) := tab_inf (by kernel_rfl)
theorem inf3 : tab.inf 3 = some (1, 8, [.d (.int .i64 0)]) := tab_inf (by kernel_rfl)
theorem inf4 : tab.inf 4 = some (1, 1, [.d (.bool false)]) := tab_inf (by kernel_rfl)
theorem inf5 : tab.inf 5 = some (1, 1, [.d (.int .u8 0)]) := tab_inf (by kernel_rfl)
theorem inf9 : tab.inf 9 = some (1, 16, [.d (.str [])]) := tab_inf (by kernel_rfl)
theorem inf10 : tab.inf 10 = some (1, 16, [.d (.str [])]) := tab_inf (by kernel_rfl)
theorem inf22 : tab.inf 22 = some (1, 24, [.own 4 [] none]) := tab_inf (by kernel_rfl)
theorem inf23 : tab.inf 23 = some (1, 24, [.own 9 [] none]) := tab_inf (by kernel_rfl)
theorem inf24 : tab.inf 24 = some (1, 24, [.own 8 [] none]) := tab_inf (by kernel_rfl)
theorem inf26 : tab.inf 26 = some (2, 48, [.own 9 [] none, .own 8 [] none]) := tab_inf (by kernel_rfl)
theorem inf28 : tab.inf 28 = some (1, 8, [.d (.int .i64 0)]) := tab_inf (by kernel_rfl)
theorem inf31 : tab.inf 31 = some (1, 24, [.own 1 [] none]) := tab_inf (by kernel_rfl)
theorem inf33 : tab.inf 33 = some (3, 32, [.d (.int .i64 0), .d (.int .i64 0), .d (.str [])]) := tab_inf (by kernel_rfl)
theorem inf34 : tab.inf 34 = some (1, 24, [.own 6 [] none]) := tab_inf (by kernel_rfl)
theorem inf36 : tab.inf 36 = some (6, 80, [.d (.int .i64 0), .d (.int .i64 0), .d (.int .i64 0), .d (.str []), .d (.str []), .own 6 [] none]) := tab_inf (by kernel_rfl)
theorem inf38 : tab.inf 38 = some (8, 120, [.d (.str []), .own 1 [] none, .d (.int .i64 0), .d (.int .i64 0), .d (.int .i64 0), .d (.str []), .d (.str []), .own 6 [] none]) := tab_inf (by kernel_rfl)
theorem inf41 : tab.inf 41 = some (1, 8, [.d .nilf]) := tab_inf (by kernel_rfl)
theorem inf48 : tab.inf 48 = some (9, 112, [.d (.str []), .d (.int .i64 0), .d (.int .i64 0), .d (.int .i64 0), .d (.int .i64 0), .d (.int .i64 0), .d (.str []), .d (.str []), .own 6 [] none]) := tab_inf (by kernel_rfl)
theorem inf50 : tab.inf 50 = some (1, 24, [.own 1 [] none]) := tab_inf (by kernel_rfl)
theorem inf65 : tab.inf 65 = some (1, 8, [.d .any]) := tab_inf (by kernel_rfl)
theorem inf67 : tab.inf 67 = some (2, 32, [.own 4 [] none, .d (.int .i64 0)]) := tab_inf (by kernel_rfl)
theorem inf69 : tab.inf 69 = some (4, 40, [.d (.int .i64 0), .d (.int .i64 0), .d (.int .i64 0), .d (.str [])]) := tab_inf (by kernel_rfl)
theorem inf73 : tab.inf 73 = some (1, 24, [.own 1 [] none]) := tab_inf (by kernel_rfl)
theorem inf85 : tab.inf 85 = some (1, 24, [.own 1 [] none]) := tab_inf (by kernel_rfl)
theorem inf89 : tab.inf 89 = some (1, 8, [.d .nilf]) := tab_inf (by kernel_rfl)
theorem inf96 : tab.inf 96 = some (1, 8, [.d .nilf]) := tab_inf (by kernel_rfl)
theorem inf102 : tab.inf 102 = some (1, 8, [.d .any]) := tab_inf (by kernel_rfl)
theorem inf104 : tab.inf 104 = some (1, 8, [.d .nilf]) := tab_inf (by kernel_rfl)
theorem inf105 : tab.inf 105 = some (1, 8, [.d .nilf]) := tab_inf (by kernel_rfl)
theorem inf119 : tab.inf 119 = some (1, 8, [.d .any]) := tab_inf (by kernel_rfl)
theorem inf121 : tab.inf 121 = some (1, 8, [.d .any]) := tab_inf (by kernel_rfl)
theorem inf132 : tab.inf 132 = some (2, 32, [.own 1 [] none, .d (.int .i64 0)]) := tab_inf (by kernel_rfl)
theorem inf138 : tab.inf 138 = some (3, 32, [.d (.str []), .d (.int .i64 0), .d (.int .i64 0)]) := tab_inf (by kernel_rfl)
theorem inf139 : tab.inf 139 = some (57, 608, [.d (.str []), .d (.int .i64 0), .d (.int .i64 0), .d (.str []), .d (.int .i64 0), .d (.int .i64 0), .d (.str []), .d (.int .i64 0), .d (.int .i64 0), .d (.str []), .d (.int .i64 0), .d (.int .i64 0), .d (.str []), .d (.int .i64 0), .d (.int .i64 0), .d (.str []), .d (.int .i64 0), .d (.int .i64 0), .d (.str []), .d (.int .i64 0), .d (.int .i64 0), .d (.str []), .d (.int .i64 0), .d (.int .i64 0), .d (.str []), .d (.int .i64 0), .d (.int .i64 0), .d (.str []), .d (.int .i64 0), .d (.int .i64 0), .d (.str []), .d (.int .i64 0), .d (.int .i64 0), .d (.str []), .d (.int .i64 0), .d (.int .i64 0), .d (.str []), .d (.int .i64 0), .d (.int .i64 0), .d (.str []), .d (.int .i64 0), .d (.int .i64 0), .d (.str []), .d (.int .i64 0), .d (.int .i64 0), .d (.str []), .d (.int .i64 0), .d (.int .i64 0), .d (.str []), .d (.int .i64 0), .d (.int .i64 0), .d (.str []), .d (.int .i64 0), .d (.int .i64 0), .d (.str []), .d (.int .i64 0), .d (.int .i64 0)]) := tab_inf (by kernel_rfl)
end Go.Proofs.Ytfcfifohflgboaa.Am
