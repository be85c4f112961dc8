/- The evaluator's table for this program: functions, types, and what is kept at a loop's head. Printed by gentab.py. -/
import Derived.Test.YthnlmhibbmogeaaAmLim
import Derived.Test.YthnlmhibbmogeaaProg
set_option linter.unusedVariables false
set_option linter.unusedSimpArgs false
namespace Go.Proofs.Ythnlmhibbmogeaa.Am
open Go Go.RowKit

def look {α : Type} : List (Nat × α) → Nat → Option α
  | [], _ => none
  | (i, x) :: r, k => if i = k then some x else look r k
def look2 {α : Type} : List (Nat × Nat × α) → Nat → Nat → Option α
  | [], _, _ => none
  | (i, j, x) :: r, k, m => if i = k ∧ j = m then some x else look2 r k m

def goodF : List Nat := [3, 4, 5, 6, 7, 8, 9, 10, 11, 12, 13, 14, 15, 16, 17, 18, 19, 20, 21, 22, 23, 24, 25, 26, 27, 28, 29, 30, 31, 32, 33, 34, 35, 36, 37, 38, 39, 40, 41, 42, 43, 44, 45, 46, 47, 48, 49, 50, 51, 52, 53, 54, 55, 56, 57, 58, 59, 60, 61, 62, 63, 64, 65, 66, 67, 68, 69, 70, 71, 72, 73, 74, 75, 76, 77, 78, 79, 80, 81, 82, 83, 84, 85, 86, 87, 88, 89, 90, 91, 92, 93, 94, 95, 98, 99]
def infs : List (Nat × Nat × Nat × List AV) := [(2, 1, 8, [.d (.int .i64 0)]),
  (3, 1, 8, [.d (.int .i64 0)]),
  (4, 1, 1, [.d (.bool false)]),
  (5, 1, 1, [.d (.int .u8 0)]),
  (6, 1, 1, [.d (.int .u8 0)]),
  (7, 4, 24, [.d (.int .i64 0), .d (.int .i64 0), .d (.bool false), .d (.int .u8 0)]),
  (8, 4, 24, [.d (.int .i64 0), .d (.int .i64 0), .d (.bool false), .d (.int .u8 0)]),
  (9, 1, 16, [.d (.str [])]),
  (10, 1, 16, [.d (.str [])]),
  (11, 1, 16, [.d (.str [])]),
  (12, 1, 8, [.d (.int .u64 0)]),
  (13, 2, 24, [.d (.str []), .d (.int .u64 0)]),
  (14, 2, 24, [.d (.str []), .d (.int .u64 0)]),
  (21, 1, 4, [.d (.int .i32 0)]),
  (22, 1, 24, [.own 4 [] none]),
  (23, 1, 24, [.own 8 [] none]),
  (26, 4, 40, [.d (.int .i64 0), .d (.int .i64 0), .d (.int .i64 0), .d (.str [])]),
  (27, 4, 40, [.d (.int .i64 0), .d (.int .i64 0), .d (.int .i64 0), .d (.str [])]),
  (29, 1, 8, [.d (.int .i64 0)]),
  (33, 3, 32, [.d (.int .i64 0), .d (.int .i64 0), .d (.str [])]),
  (34, 3, 32, [.d (.int .i64 0), .d (.int .i64 0), .d (.str [])]),
  (35, 8, 88, [.d (.str []), .d (.int .i64 0), .d (.int .i64 0), .d (.int .i64 0), .d (.str []), .d (.int .i64 0), .d (.int .i64 0), .d (.str [])]),
  (36, 8, 88, [.d (.str []), .d (.int .i64 0), .d (.int .i64 0), .d (.int .i64 0), .d (.str []), .d (.int .i64 0), .d (.int .i64 0), .d (.str [])]),
  (41, 3, 24, [.d (.int .i64 0), .d (.int .i64 0), .d (.int .i64 0)]),
  (42, 3, 24, [.d (.int .i64 0), .d (.int .i64 0), .d (.int .i64 0)]),
  (45, 10, 96, [.d (.int .i64 0), .d (.int .i64 0), .d (.int .i64 0), .d (.int .i64 0), .d (.int .i64 0), .d (.str []), .d (.int .i64 0), .d (.int .i64 0), .d (.str []), .d (.int .i64 0)]),
  (46, 10, 96, [.d (.int .i64 0), .d (.int .i64 0), .d (.int .i64 0), .d (.int .i64 0), .d (.int .i64 0), .d (.str []), .d (.int .i64 0), .d (.int .i64 0), .d (.str []), .d (.int .i64 0)]),
  (53, 1, 24, [.own 10 [] none]),
  (65, 1, 24, [.own 2 [] none]),
  (70, 2, 16, [.d (.int .i64 0), .d (.int .i64 0)]),
  (71, 2, 16, [.d (.int .i64 0), .d (.int .i64 0)]),
  (75, 1, 24, [.own 6 [] none]),
  (76, 6, 80, [.d (.int .i64 0), .d (.int .i64 0), .d (.int .i64 0), .d (.str []), .d (.str []), .own 6 [] none]),
  (77, 6, 80, [.d (.int .i64 0), .d (.int .i64 0), .d (.int .i64 0), .d (.str []), .d (.str []), .own 6 [] none]),
  (79, 1, 24, [.own 9 [] none]),
  (89, 1, 24, [.own 6 [] none]),
  (92, 1, 24, [.own 1 [] none]),
  (93, 6, 64, [.d (.int .i64 0), .d (.int .i64 0), .d (.str []), .d (.int .i64 0), .d (.int .i64 0), .d (.str [])]),
  (94, 6, 64, [.d (.int .i64 0), .d (.int .i64 0), .d (.str []), .d (.int .i64 0), .d (.int .i64 0), .d (.str [])]),
  (102, 2, 48, [.own 8 [] none, .own 8 [] none]),
  (104, 1, 24, [.own 1 [] none]),
  (118, 2, 32, [.own 4 [] none, .d (.int .i64 0)]),
  (119, 2, 32, [.own 4 [] none, .d (.int .i64 0)]),
  (121, 9, 112, [.d (.str []), .d (.int .i64 0), .d (.int .i64 0), .d (.int .i64 0), .d (.int .i64 0), .d (.int .i64 0), .d (.str []), .d (.str []), .own 6 [] none]),
  (122, 9, 112, [.d (.str []), .d (.int .i64 0), .d (.int .i64 0), .d (.int .i64 0), .d (.int .i64 0), .d (.int .i64 0), .d (.str []), .d (.str []), .own 6 [] none]),
  (123, 1, 24, [.own 1 [] none]),
  (129, 1, 24, [.own 1 [] none]),
  (140, 1, 8, [.d (.int .u64 0)]),
  (144, 1, 24, [.own 1 [] none]),
  (148, 13, 208, [.d (.str []), .d (.str []), .d (.str []), .d (.str []), .d (.str []), .d (.str []), .d (.str []), .d (.str []), .d (.str []), .d (.str []), .d (.str []), .d (.str []), .d (.str [])]),
  (153, 3, 32, [.d (.str []), .d (.int .i64 0), .d (.int .i64 0)]),
  (154, 3, 32, [.d (.str []), .d (.int .i64 0), .d (.int .i64 0)]),
  (155, 57, 608, [.d (.str []), .d (.int .i64 0), .d (.int .i64 0), .d (.str []), .d (.int .i64 0), .d (.int .i64 0), .d (.str []), .d (.int .i64 0), .d (.int .i64 0), .d (.str []), .d (.int .i64 0), .d (.int .i64 0), .d (.str []), .d (.int .i64 0), .d (.int .i64 0), .d (.str []), .d (.int .i64 0), .d (.int .i64 0), .d (.str []), .d (.int .i64 0), .d (.int .i64 0), .d (.str []), .d (.int .i64 0), .d (.int .i64 0), .d (.str []), .d (.int .i64 0), .d (.int .i64 0), .d (.str []), .d (.int .i64 0), .d (.int .i64 0), .d (.str []), .d (.int .i64 0), .d (.int .i64 0), .d (.str []), .d (.int .i64 0), .d (.int .i64 0), .d (.str []), .d (.int .i64 0), .d (.int .i64 0), .d (.str []), .d (.int .i64 0), .d (.int .i64 0), .d (.str []), .d (.int .i64 0), .d (.int .i64 0), .d (.str []), .d (.int .i64 0), .d (.int .i64 0), .d (.str []), .d (.int .i64 0), .d (.int .i64 0), .d (.str []), .d (.int .i64 0), .d (.int .i64 0), .d (.str []), .d (.int .i64 0), .d (.int .i64 0)]),
  (166, 1, 4, [.d (.int .u32 0)]),
  (167, 1, 1, [.d (.int .u8 0)]),
  (168, 1, 1, [.d (.int .u8 0)]),
  (170, 1, 4, [.d (.int .i32 0)]),
  (171, 1, 4, [.d (.int .i32 0)])]
def keeps : List (Nat × Nat × List Nat × List Nat) := [(6, 19, [11, 12, 15, 80, 81, 82], [5, 8, 9, 19, 21, 32, 35, 36, 43, 54, 61, 65, 81]),
  (6, 4, [5, 6, 20, 21, 22], [5, 17, 19, 21, 32, 35, 36, 43, 54, 61, 65, 81]),
  (8, 8, [11, 12, 14, 15], [9, 11, 12, 27, 29, 33, 35, 48, 70, 79, 99, 127]),
  (10, 8, [3, 6, 9, 10, 11, 12, 13, 14, 15, 16, 17, 18, 58, 59], [6, 9, 10, 12, 15, 18, 19, 22, 27, 31, 32, 41, 42, 47, 52, 66, 67, 76, 86, 87]),
  (11, 5, [5, 6, 7, 8, 9, 26, 27, 28], [5, 18, 19, 22, 27, 34, 42, 59]),
  (14, 9, [3, 9, 35, 36, 37], [17, 36, 45, 49, 50, 55, 56, 65]),
  (15, 3, [3, 6, 7, 8], [7, 20, 23, 26]),
  (19, 4, [0, 1, 12, 13], [7, 9, 12]),
  (20, 2, [0, 1, 11, 12], [16, 22, 24, 30]),
  (21, 11, [6, 25, 26, 27], [10, 17, 24, 26, 33]),
  (21, 3, [0, 3, 9, 10, 11], [10, 17, 24, 26, 33]),
  (27, 3, [4, 5, 8, 9, 10], [9]),
  (33, 3, [4, 11, 12, 13], [12, 26, 28, 35]),
  (36, 4, [0, 1, 12, 13], [7, 9, 12]),
  (39, 3, [4, 5, 11, 12, 13], [1, 12, 19, 27]),
  (41, 5, [0, 1, 8], [10, 16, 32, 36]),
  (42, 11, [6, 25, 26, 27], [10, 17, 24, 26, 33]),
  (42, 3, [0, 3, 9, 10, 11], [10, 17, 24, 26, 33]),
  (46, 5, [0, 5, 6], [10, 14, 26, 38, 43]),
  (47, 22, [1, 8, 63, 64, 65], [8, 12, 21, 24, 26, 33, 35, 40, 46, 53, 57, 61, 64, 70, 72, 74]),
  (47, 12, [0, 1, 5, 39, 40, 41], [8, 12, 21, 24, 26, 33, 35, 40, 46, 53, 57, 61, 64, 70, 72, 74]),
  (48, 4, [1, 2, 15, 16, 17], [11, 13, 16, 29]),
  (53, 4, [8, 9, 10], [6, 9, 24, 34]),
  (55, 3, [5, 15, 16, 17], [10, 12, 14, 16, 30]),
  (59, 4, [0, 8, 9, 10], [6, 9, 35, 47]),
  (60, 3, [0, 2, 4, 8, 9, 10], [4, 13, 30, 46]),
  (66, 5, [13, 14, 15], [1, 8, 14, 20]),
  (68, 2, [0, 1, 7, 8], [7, 16]),
  (69, 12, [0, 2, 36, 37], [2, 12, 14, 19, 21, 33, 42]),
  (74, 4, [0, 8, 9], [5, 8]),
  (75, 3, [3, 6, 7, 8], [7]),
  (79, 4, [1, 6, 7, 8, 13, 14, 15], [6, 7, 12, 14, 27, 30, 35, 40, 45, 46]),
  (80, 3, [2, 3, 4, 7, 8, 13, 14, 15], [7, 8, 14, 26, 28]),
  (83, 5, [0, 2, 4, 5, 17, 18], [2, 8]),
  (85, 2, [0, 1, 5], [8, 15]),
  (87, 3, [0, 2, 4, 5], [2, 9, 19, 24, 42, 66])]
def drws : List (Nat × Nat × List (List Nat)) := [(5, 2, [[], [], [1], [], [0, 1, 2, 3], [0, 1, 2, 3], [], []]),
  (5, 11, [[], [], [], [], [0, 1, 2], [], [], [], [], [], [0, 1, 2, 3, 4, 5], [], [], []]),
  (5, 12, [[], [], [], [], [], [], [], [], [], [], [], [], [], [], [], [], [], [], [], [], [], [], [], [], [], [], [], [], [], [], [], [], [], [], [], [], [], [], [], [], [], [], [], [], [], [], [], [], [], [], [], [], [], [], [], [], [], [], [], [], [], [], [], [], [], [], [], [], [], [], [69], [], [], []]),
  (6, 6, [[], [], [], [], [0], [4], [4], [0], [], [], [], [], [0, 3, 4, 5, 6, 7, 8], [], []]),
  (7, 2, [[], [], [1], [], [0, 1, 2, 3], [0, 1, 2, 3], [], []]),
  (8, 3, [[], [], [0], [], [], [], [], [], [0, 1, 2, 4], [], []]),
  (10, 2, [[], [], [0], [], [], [], [], [0, 1, 2, 3], [], []]),
  (10, 3, [[], [], [], [], [], [0, 1, 2, 3], [], [], [], [], [], [0, 1, 2, 3, 4, 5, 6], [], [], []]),
  (10, 12, [[], [], [], [], [], [0, 1, 2, 3], [], [], [], [], [], [0, 1, 2, 3, 4, 5, 6], [], [], []]),
  (15, 6, [[], [], [], [], [], [], [], [5], [], [], [], [], []]),
  (19, 6, [[], [], [], [], [], [], [], [], []]),
  (25, 6, [[], [], [0], [], [], [], []]),
  (30, 6, [[], [], [], [], [], [], [], [], [], []]),
  (31, 12, [[], [], [], [], [], [], [], [], []]),
  (34, 5, [[], [], [], [], [3], [], [], [], [], [], [], []]),
  (36, 6, [[], [], [], [], [], [], [], [], []]),
  (41, 7, [[], [], [], [], [], [], [], [], [], [], []]),
  (52, 5, [[], [], [], [], [], [], [], []]),
  (59, 8, [[], [], [], [], [], [], [], []]),
  (59, 10, [[], [], [], [], [], [], [], [], [], [], [], [], []]),
  (60, 5, [[], [], [], [], [], [], [], []]),
  (60, 8, [[], [], [], [], [], [], [], [], [], [], [], [], [], [], [], []]),
  (61, 1, [[], [], [], [], [], [4], [4], [4], [4], [], [], [], []]),
  (64, 5, [[], [], [], [], [], [], [], []]),
  (70, 3, [[], [], [], [], [], [], [4], [4], [4], [4], [], [], []]),
  (72, 1, [[], [], [], [], [], [], [4], [4], [4], [4], [], []]),
  (78, 3, [[], [], [], [], [], [], [], [], [], [], [], [], [], [], [], [], [1, 2, 3, 5, 6, 7, 9, 10, 11, 12, 14, 15], []]),
  (78, 4, [[], [], [], [], [], [], [], [], [], [], [], [], [], [], []]),
  (80, 5, [[], [], [], [], [], [], [], [0, 1], [], [], [], []]),
  (81, 3, [[], [], [], [0, 1, 2], [3], [3], [], [], []]),
  (87, 10, [[], [], [], [], [], [], [], [], [], []]),
  (90, 0, [[], [], [], [], [], [], [], [], [], [], [4, 8], [4, 8], [4, 8], [4, 8], [], []])]
def lvs : List (Nat × Nat × Nat) := [(3, 0, 7),
  (3, 1, 134),
  (3, 2, 134217862),
  (3, 3, 64),
  (3, 4, 388),
  (3, 5, 896),
  (3, 6, 3968),
  (3, 7, 15232),
  (3, 8, 63872),
  (3, 9, 243840),
  (3, 10, 64),
  (4, 0, 3),
  (4, 1, 96),
  (4, 2, 480),
  (4, 3, 2016),
  (4, 4, 274877908608),
  (4, 5, 16),
  (4, 6, 2199023257216),
  (4, 7, 16),
  (4, 8, 16),
  (5, 0, 403),
  (5, 1, 2448),
  (5, 2, 14608),
  (5, 3, 63760),
  (5, 4, 129296),
  (5, 5, 129296),
  (5, 6, 129296),
  (5, 7, 1046784),
  (5, 8, 8321280),
  (5, 9, 67041536),
  (5, 10, 536803584),
  (5, 11, 4294893568),
  (5, 12, 1024),
  (6, 0, 3),
  (6, 1, 33),
  (6, 2, 97),
  (6, 3, 7340128),
  (6, 4, 15728736),
  (6, 5, 7340512),
  (6, 6, 7342048),
  (6, 7, 1099518968800),
  (6, 8, 16),
  (6, 9, 17592193385184),
  (6, 10, 7340640),
  (6, 11, 7340128),
  (6, 12, 7340128),
  (6, 13, 6208),
  (6, 14, 30784),
  (6, 15, 604462909807314587359296),
  (6, 16, 16),
  (6, 17, 38976),
  (6, 18, 8462480737302404222982144),
  (6, 19, 18133887294219437620631552),
  (6, 20, 8462480737302404223113216),
  (6, 21, 317947490558647472947894272),
  (6, 22, 8462480737302404223113216),
  (6, 23, 633833762594852003152574584832),
  (6, 24, 16),
  (6, 25, 8462480737302404222982144),
  (6, 26, 16),
  (7, 0, 195),
  (7, 1, 704),
  (7, 2, 3584),
  (7, 3, 32256),
  (7, 4, 261632),
  (7, 5, 2096640),
  (7, 6, 16776192),
  (7, 7, 67107840),
  (7, 8, 154742504910672534386359296),
  (7, 9, 256),
  (7, 10, 256),
  (8, 0, 527),
  (8, 1, 2568),
  (8, 2, 2568),
  (8, 3, 14344),
  (8, 4, 549755820040),
  (8, 5, 1024),
  (8, 6, 22536),
  (8, 7, 55296),
  (8, 8, 8796093077504),
  (8, 9, 251904),
  (8, 10, 4722366482869645236224),
  (8, 11, 1024),
  (8, 12, 1857536),
  (8, 13, 4951760157141521099596519424),
  (8, 14, 1024),
  (8, 15, 55296),
  (8, 16, 14735360),
  (8, 17, 2596148429267413814265248170956800),
  (8, 18, 1024),
  (8, 19, 5192296858534827628530496331372544),
  (8, 20, 2152448),
  (8, 21, 55296),
  (8, 22, 1024),
  (9, 0, 3),
  (9, 1, 98),
  (9, 2, 480),
  (9, 3, 1504),
  (9, 4, 7520),
  (9, 5, 23904),
  (9, 6, 16),
  (10, 0, 75),
  (10, 1, 584),
  (10, 2, 3656),
  (10, 3, 32328),
  (10, 4, 32328),
  (10, 5, 261704),
  (10, 6, 523848),
  (10, 7, 864691128455659080),
  (10, 8, 2017612633062506056),
  (10, 9, 864691128455659080),
  (10, 10, 864691128455659080),
  (10, 11, 4193856),
  (10, 12, 33552384),
  (10, 13, 256),
  (11, 0, 3),
  (11, 1, 32),
  (11, 2, 224),
  (11, 3, 992),
  (11, 4, 469763040),
  (11, 5, 1006633952),
  (11, 6, 469765088),
  (11, 7, 469775328),
  (11, 8, 469763040),
  (11, 9, 469763040),
  (11, 10, 16),
  (12, 0, 7),
  (12, 1, 390),
  (12, 2, 390),
  (12, 3, 3974),
  (12, 4, 31622),
  (12, 5, 260864),
  (12, 6, 64),
  (13, 0, 9),
  (13, 1, 104),
  (13, 2, 104),
  (13, 3, 1000),
  (13, 4, 549755814280),
  (13, 5, 16),
  (13, 6, 16),
  (14, 0, 1),
  (14, 1, 40),
  (14, 2, 360),
  (14, 3, 4294967336),
  (14, 4, 4),
  (14, 5, 17179869192),
  (14, 6, 4),
  (14, 7, 520),
  (14, 8, 240518169096),
  (14, 9, 515396076040),
  (14, 10, 240518171144),
  (14, 11, 240518169096),
  (14, 12, 240518169096),
  (14, 13, 21000),
  (14, 14, 144115188075876360),
  (14, 15, 4),
  (14, 16, 4),
  (15, 0, 1),
  (15, 1, 9),
  (15, 2, 456),
  (15, 3, 968),
  (15, 4, 504),
  (15, 5, 16888),
  (15, 6, 456),
  (15, 7, 456),
  (15, 8, 4),
  (16, 0, 1),
  (16, 1, 17),
  (16, 2, 4),
  (16, 3, 4),
  (17, 0, 3),
  (17, 1, 67),
  (17, 2, 3),
  (17, 3, 16),
  (18, 0, 3),
  (18, 1, 131),
  (18, 2, 32899),
  (18, 3, 48),
  (18, 4, 48),
  (19, 0, 3),
  (19, 1, 1027),
  (19, 2, 16),
  (19, 3, 12291),
  (19, 4, 28675),
  (19, 5, 12323),
  (19, 6, 16789507),
  (19, 7, 16),
  (19, 8, 12291),
  (19, 9, 16),
  (20, 0, 3),
  (20, 1, 6147),
  (20, 2, 14339),
  (20, 3, 6275),
  (20, 4, 6403),
  (20, 5, 268547),
  (20, 6, 48),
  (20, 7, 6147),
  (20, 8, 67108867),
  (20, 9, 48),
  (20, 10, 48),
  (21, 0, 1),
  (21, 1, 9),
  (21, 2, 3593),
  (21, 3, 7689),
  (21, 4, 3625),
  (21, 5, 3593),
  (21, 6, 1052169),
  (21, 7, 3593),
  (21, 8, 3593),
  (21, 9, 65),
  (21, 10, 234881088),
  (21, 11, 503316544),
  (21, 12, 234881344),
  (21, 13, 234881088),
  (21, 14, 234881088),
  (21, 15, 4),
  (22, 0, 71),
  (22, 1, 197),
  (22, 2, 64),
  (23, 0, 25),
  (23, 1, 56),
  (23, 2, 120),
  (23, 3, 2072),
  (23, 4, 16),
  (23, 5, 16),
  (23, 6, 4194328),
  (23, 7, 16),
  (23, 8, 16),
  (24, 0, 346),
  (24, 1, 1370),
  (24, 2, 66906),
  (24, 3, 768),
  (24, 4, 4294967642),
  (24, 5, 768),
  (24, 6, 68719477082),
  (24, 7, 768),
  (24, 8, 2378),
  (24, 9, 768),
  (25, 0, 1892),
  (25, 1, 10020),
  (25, 2, 272164),
  (25, 3, 7168),
  (25, 4, 1099511629344),
  (25, 5, 7168),
  (25, 6, 1056),
  (25, 7, 7168),
  (26, 0, 6),
  (26, 1, 22),
  (26, 2, 54),
  (26, 3, 4),
  (26, 4, 516),
  (26, 5, 4),
  (26, 6, 4),
  (27, 0, 1),
  (27, 1, 49),
  (27, 2, 1840),
  (27, 3, 3888),
  (27, 4, 1968),
  (27, 5, 67110832),
  (27, 6, 1840),
  (27, 7, 1840),
  (27, 8, 2147483664),
  (27, 9, 12),
  (27, 10, 12),
  (28, 0, 1396),
  (28, 1, 9588),
  (28, 2, 2106740),
  (28, 3, 7168),
  (28, 4, 17780),
  (28, 5, 134235508),
  (28, 6, 7168),
  (28, 7, 4294968692),
  (28, 8, 7168),
  (28, 9, 4398046512500),
  (28, 10, 7168),
  (28, 11, 99328),
  (28, 12, 9007199254840320),
  (28, 13, 7168),
  (28, 14, 7168),
  (29, 0, 25),
  (29, 1, 281),
  (29, 2, 48),
  (29, 3, 48),
  (30, 0, 6),
  (30, 1, 70),
  (30, 2, 1094),
  (30, 3, 48),
  (30, 4, 524294),
  (30, 5, 48),
  (30, 6, 48),
  (31, 0, 12),
  (31, 1, 44),
  (31, 2, 2092),
  (31, 3, 16),
  (31, 4, 1048588),
  (31, 5, 16),
  (31, 6, 8388620),
  (31, 7, 67108864),
  (31, 8, 16),
  (31, 9, 16),
  (31, 10, 72057594037927948),
  (31, 11, 16),
  (31, 12, 204),
  (31, 13, 20282409603651670423947251286016),
  (31, 14, 16),
  (31, 15, 16),
  (32, 0, 92),
  (32, 1, 604),
  (32, 2, 66140),
  (32, 3, 448),
  (32, 4, 16777308),
  (32, 5, 448),
  (32, 6, 17179869276),
  (32, 7, 448),
  (32, 8, 1099511627868),
  (32, 9, 72),
  (32, 10, 448),
  (32, 11, 92),
  (32, 12, 1100),
  (32, 13, 72),
  (32, 14, 448),
  (33, 0, 1),
  (33, 1, 17),
  (33, 2, 14352),
  (33, 3, 30736),
  (33, 4, 14448),
  (33, 5, 538736),
  (33, 6, 14752),
  (33, 7, 549755828352),
  (33, 8, 12),
  (33, 9, 14352),
  (33, 10, 14352),
  (33, 11, 1552),
  (33, 12, 12),
  (34, 0, 9),
  (34, 1, 73),
  (34, 2, 16457),
  (34, 3, 48),
  (34, 4, 137),
  (34, 5, 512),
  (34, 6, 1536),
  (34, 7, 68719478272),
  (34, 8, 48),
  (34, 9, 48),
  (35, 0, 3),
  (35, 1, 67),
  (35, 2, 2115),
  (35, 3, 48),
  (35, 4, 129),
  (35, 5, 131201),
  (35, 6, 48),
  (35, 7, 48),
  (36, 0, 3),
  (36, 1, 1027),
  (36, 2, 16),
  (36, 3, 12291),
  (36, 4, 28675),
  (36, 5, 12323),
  (36, 6, 16789507),
  (36, 7, 16),
  (36, 8, 12291),
  (36, 9, 16),
  (37, 0, 71),
  (37, 1, 198),
  (37, 2, 64),
  (38, 0, 0),
  (38, 1, 1),
  (39, 0, 2),
  (39, 1, 50),
  (39, 2, 14384),
  (39, 3, 30768),
  (39, 4, 14512),
  (39, 5, 15152),
  (39, 6, 14384),
  (39, 7, 14384),
  (39, 8, 12),
  (40, 0, 2),
  (40, 1, 26),
  (40, 2, 2066),
  (40, 3, 4),
  (40, 4, 8194),
  (40, 5, 4),
  (40, 6, 4),
  (41, 0, 3),
  (41, 1, 131),
  (41, 2, 4227),
  (41, 3, 112),
  (41, 4, 259),
  (41, 5, 67109123),
  (41, 6, 259),
  (41, 7, 112),
  (42, 0, 1),
  (42, 1, 9),
  (42, 2, 3593),
  (42, 3, 7689),
  (42, 4, 3625),
  (42, 5, 3593),
  (42, 6, 1052169),
  (42, 7, 3593),
  (42, 8, 3593),
  (42, 9, 65),
  (42, 10, 234881088),
  (42, 11, 503316544),
  (42, 12, 234881344),
  (42, 13, 234881088),
  (42, 14, 234881088),
  (42, 15, 4),
  (43, 0, 3),
  (43, 1, 16),
  (44, 0, 6),
  (44, 1, 8),
  (45, 0, 6),
  (45, 1, 8),
  (46, 0, 1),
  (46, 1, 2049),
  (46, 2, 28),
  (46, 3, 33),
  (46, 4, 97),
  (46, 5, 32865),
  (46, 6, 524385),
  (46, 7, 97),
  (46, 8, 481),
  (46, 9, 1073742305),
  (46, 10, 28),
  (46, 11, 225),
  (46, 12, 225),
  (46, 13, 97),
  (46, 14, 28),
  (47, 0, 3),
  (47, 1, 4099),
  (47, 2, 12291),
  (47, 3, 16),
  (47, 4, 32771),
  (47, 5, 16),
  (47, 6, 35),
  (47, 7, 4194339),
  (47, 8, 536870947),
  (47, 9, 35),
  (47, 10, 35),
  (47, 11, 3848290697251),
  (47, 12, 8246337208355),
  (47, 13, 3848290697379),
  (47, 14, 566798244118691),
  (47, 15, 3848290697379),
  (47, 16, 3848290697251),
  (47, 17, 3848290697251),
  (47, 18, 291),
  (47, 19, 259),
  (47, 20, 259),
  (47, 21, 64563604257983430914),
  (47, 22, 138350580552821637378),
  (47, 23, 64563604257983431938),
  (47, 24, 64563604257983431938),
  (47, 25, 64563604257983430914),
  (47, 26, 64563604257983430914),
  (47, 27, 16),
  (48, 0, 7),
  (48, 1, 16391),
  (48, 2, 64),
  (48, 3, 229382),
  (48, 4, 491526),
  (48, 5, 229766),
  (48, 6, 230150),
  (48, 7, 1073971206),
  (48, 8, 64),
  (48, 9, 229382),
  (48, 10, 64),
  (49, 0, 12),
  (49, 1, 16),
  (50, 0, 19),
  (50, 1, 83),
  (50, 2, 1107),
  (50, 3, 48),
  (50, 4, 1048595),
  (50, 5, 48),
  (50, 6, 48),
  (51, 0, 1),
  (51, 1, 17),
  (51, 2, 4),
  (51, 3, 4),
  (52, 0, 7),
  (52, 1, 7),
  (52, 2, 65543),
  (52, 3, 64),
  (52, 4, 135),
  (52, 5, 129),
  (52, 6, 1),
  (52, 7, 64),
  (53, 0, 1),
  (53, 1, 129),
  (53, 2, 4),
  (53, 3, 1792),
  (53, 4, 3840),
  (53, 5, 1808),
  (53, 6, 2098960),
  (53, 7, 4),
  (53, 8, 137438955264),
  (53, 9, 4),
  (53, 10, 1792),
  (53, 11, 4),
  (54, 0, 3),
  (54, 1, 67),
  (54, 2, 3),
  (54, 3, 3),
  (54, 4, 65539),
  (54, 5, 1),
  (54, 6, 16),
  (55, 0, 3),
  (55, 1, 32),
  (55, 2, 229408),
  (55, 3, 491552),
  (55, 4, 229600),
  (55, 5, 229408),
  (55, 6, 229408),
  (55, 7, 16),
  (56, 0, 2),
  (56, 1, 4294967296),
  (56, 2, 4),
  (56, 3, 4),
  (57, 0, 2),
  (57, 1, 4),
  (58, 0, 2),
  (58, 1, 34),
  (58, 2, 4),
  (58, 3, 98),
  (58, 4, 10),
  (58, 5, 4106),
  (58, 6, 4),
  (58, 7, 16418),
  (58, 8, 8388610),
  (58, 9, 4),
  (58, 10, 16777250),
  (58, 11, 268435458),
  (58, 12, 4),
  (58, 13, 4),
  (58, 14, 4294967330),
  (58, 15, 68719476738),
  (58, 16, 4),
  (58, 17, 137438953474),
  (58, 18, 70368744177666),
  (58, 19, 4),
  (58, 20, 562949953421312),
  (58, 21, 4),
  (58, 22, 4),
  (59, 0, 1),
  (59, 1, 129),
  (59, 2, 4),
  (59, 3, 1793),
  (59, 4, 3841),
  (59, 5, 1817),
  (59, 6, 34585),
  (59, 7, 4),
  (59, 8, 536872729),
  (59, 9, 4),
  (59, 10, 137438955265),
  (59, 11, 4),
  (59, 12, 1793),
  (59, 13, 4),
  (60, 0, 21),
  (60, 1, 277),
  (60, 2, 1813),
  (60, 3, 132885),
  (60, 4, 3861),
  (60, 5, 2147487509),
  (60, 6, 1813),
  (60, 7, 1813),
  (60, 8, 192),
  (61, 0, 12),
  (61, 1, 16),
  (62, 0, 1),
  (62, 1, 17),
  (62, 2, 4),
  (62, 3, 4),
  (63, 0, 9),
  (63, 1, 16),
  (64, 0, 7),
  (64, 1, 7),
  (64, 2, 65543),
  (64, 3, 64),
  (64, 4, 135),
  (64, 5, 129),
  (64, 6, 1),
  (64, 7, 64),
  (65, 0, 466),
  (65, 1, 978),
  (65, 2, 8389586),
  (65, 3, 256),
  (65, 4, 1794),
  (65, 5, 4294969090),
  (65, 6, 256),
  (65, 7, 274877908736),
  (65, 8, 824633722624),
  (65, 9, 3328),
  (65, 10, 17592186047744),
  (65, 11, 256),
  (65, 12, 9024791440788736),
  (65, 13, 256),
  (65, 14, 288230376151715072),
  (65, 15, 256),
  (65, 16, 9223372036854777600),
  (65, 17, 5888),
  (65, 18, 13568),
  (65, 19, 256),
  (65, 20, 1208925819614629174712064),
  (65, 21, 256),
  (65, 22, 77371252455336267181201152),
  (65, 23, 256),
  (65, 24, 256),
  (66, 0, 2),
  (66, 1, 10),
  (66, 2, 1034),
  (66, 3, 4),
  (66, 4, 57344),
  (66, 5, 122880),
  (66, 6, 57376),
  (66, 7, 57408),
  (66, 8, 4251712),
  (66, 9, 4),
  (66, 10, 57344),
  (66, 11, 4),
  (67, 0, 3),
  (67, 1, 67),
  (67, 2, 3),
  (67, 3, 3),
  (67, 4, 65539),
  (67, 5, 1),
  (67, 6, 16),
  (68, 0, 3),
  (68, 1, 387),
  (68, 2, 899),
  (68, 3, 419),
  (68, 4, 65955),
  (68, 5, 16),
  (68, 6, 387),
  (68, 7, 16),
  (69, 0, 5),
  (69, 1, 21),
  (69, 2, 1045),
  (69, 3, 12),
  (69, 4, 131093),
  (69, 5, 37),
  (69, 6, 8388645),
  (69, 7, 12),
  (69, 8, 12),
  (69, 9, 536870917),
  (69, 10, 12),
  (69, 11, 206158430213),
  (69, 12, 481036337157),
  (69, 13, 206158430341),
  (69, 14, 4604204941445),
  (69, 15, 12),
  (69, 16, 206158430213),
  (69, 17, 12),
  (70, 0, 3),
  (70, 1, 131),
  (70, 2, 3),
  (70, 3, 2097155),
  (70, 4, 0),
  (71, 0, 3),
  (71, 1, 3),
  (71, 2, 2),
  (71, 3, 48),
  (72, 0, 1),
  (72, 1, 4),
  (73, 0, 1),
  (73, 1, 256),
  (73, 2, 4),
  (73, 3, 4),
  (74, 0, 1),
  (74, 1, 65),
  (74, 2, 4),
  (74, 3, 769),
  (74, 4, 1793),
  (74, 5, 777),
  (74, 6, 2097921),
  (74, 7, 4),
  (74, 8, 769),
  (74, 9, 4),
  (75, 0, 1),
  (75, 1, 9),
  (75, 2, 456),
  (75, 3, 968),
  (75, 4, 488),
  (75, 5, 16872),
  (75, 6, 4),
  (75, 7, 456),
  (75, 8, 4),
  (76, 0, 3),
  (76, 1, 35),
  (76, 2, 99),
  (76, 3, 2115),
  (76, 4, 4096),
  (76, 5, 16),
  (76, 6, 16),
  (76, 7, 8195),
  (76, 8, 16),
  (76, 9, 65539),
  (76, 10, 16),
  (76, 11, 524288),
  (76, 12, 16),
  (76, 13, 16),
  (77, 0, 6),
  (77, 1, 8),
  (78, 0, 5),
  (78, 1, 517),
  (78, 2, 4),
  (78, 3, 13),
  (78, 4, 13),
  (78, 5, 12),
  (78, 6, 4),
  (79, 0, 71),
  (79, 1, 198),
  (79, 2, 454),
  (79, 3, 57794),
  (79, 4, 123330),
  (79, 5, 58818),
  (79, 6, 4253122),
  (79, 7, 57794),
  (79, 8, 57794),
  (79, 9, 137438953922),
  (79, 10, 64),
  (79, 11, 64),
  (80, 0, 159),
  (80, 1, 414),
  (80, 2, 57756),
  (80, 3, 123292),
  (80, 4, 58780),
  (80, 5, 57756),
  (80, 6, 57756),
  (80, 7, 128),
  (81, 0, 2),
  (81, 1, 1026),
  (81, 2, 4),
  (81, 3, 524290),
  (81, 4, 4),
  (81, 5, 2097154),
  (81, 6, 1073741824),
  (81, 7, 4),
  (81, 8, 2149580802),
  (81, 9, 9007199254740992),
  (81, 10, 4),
  (81, 11, 18014398509481986),
  (81, 12, 36893488147419103232),
  (81, 13, 4),
  (81, 14, 4),
  (82, 0, 1),
  (82, 1, 4),
  (83, 0, 5),
  (83, 1, 53),
  (83, 2, 32821),
  (83, 3, 12),
  (83, 4, 393269),
  (83, 5, 917557),
  (83, 6, 393333),
  (83, 7, 393269),
  (83, 8, 1074135093),
  (83, 9, 12),
  (83, 10, 393269),
  (83, 11, 12),
  (84, 0, 1),
  (84, 1, 4),
  (85, 0, 3),
  (85, 1, 35),
  (85, 2, 65571),
  (85, 3, 35),
  (85, 4, 16),
  (86, 0, 1),
  (86, 1, 4),
  (87, 0, 5),
  (87, 1, 21),
  (87, 2, 53),
  (87, 3, 1077),
  (87, 4, 53),
  (87, 5, 117),
  (87, 6, 53),
  (87, 7, 1048693),
  (87, 8, 33554485),
  (87, 9, 12),
  (87, 10, 12),
  (87, 11, 34359738485),
  (87, 12, 53),
  (87, 13, 53),
  (87, 14, 147573952589676413045),
  (87, 15, 12),
  (87, 16, 12),
  (88, 0, 3),
  (88, 1, 16),
  (89, 0, 65),
  (89, 1, 0),
  (89, 2, 524288),
  (90, 0, 17),
  (90, 1, 17),
  (90, 2, 0),
  (91, 0, 1),
  (91, 1, 4),
  (92, 0, 25),
  (92, 1, 49),
  (92, 2, 1072),
  (92, 3, 48),
  (92, 4, 16),
  (93, 0, 1),
  (93, 1, 1),
  (94, 0, 1),
  (94, 1, 1025),
  (94, 2, 4),
  (94, 3, 33554432),
  (94, 4, 4),
  (94, 5, 4),
  (95, 0, 3),
  (95, 1, 16),
  (98, 0, 1),
  (98, 1, 4),
  (99, 0, 1),
  (99, 1, 8),
  (99, 2, 24),
  (99, 3, 24),
  (99, 4, 24),
  (99, 5, 24),
  (99, 6, 24),
  (99, 7, 24),
  (99, 8, 16),
  (99, 9, 4),
  (99, 10, 4)]
def cmpsL : List Nat := [34, 36, 46, 71]
def ress : List (Nat × Nat) := []
def opnsL : List Nat := []

noncomputable def tab : Tab where
  fn := fun k => if goodF.contains k then Try.prog.funcs[k]? else none
  und := Try.prog.underlying
  inf := look infs
  keep := look2 keeps
  opn := fun f => opnsL.contains f
  res := look ress
  cmp := fun t => cmpsL.contains t
  drw := look2 drws
  lv := look2 lvs
  prim := fun _ => none

def fnGood (L : Nat → Option (List (List Nat))) : Option Func → Bool
  | some F => !(F.name == "runtime.NumGoroutine") && match F.body with
    | some c => dstsOk F.ntmps c && drawsOk L c
    | none => false
  | none => false
theorem allGood : (goodF.all fun k => fnGood (look2 drws k) Try.prog.funcs[k]?) = true := by kernel_rfl
def crepB : Value → AV → Bool
  | .int k n, .d (.int j m) => k == j && n == m
  | .bool b, .d (.bool c) => b == c
  | .string s, .d (.str l) => s.data.toList == l
  | .slice none 0 0, .own _ [] none => true
  | _, _ => false
theorem crepB_ok {v : Value} {x : AV} (h : crepB v x = true) : CRep v x := by
  unfold crepB at h
  split at h
  · simp only [Bool.and_eq_true, beq_iff_eq] at h
    obtain ⟨rfl, rfl⟩ := h
    exact .int _ _
  · simp only [beq_iff_eq] at h
    subst h
    exact .bool _
  · simp only [beq_iff_eq] at h
    subst h
    exact .str _
  · exact .nilsl _
  · cases h
def crepsB : List Value → List AV → Bool
  | [], [] => true
  | v :: vs, x :: xs => crepB v x && crepsB vs xs
  | _, _ => false
theorem crepsB_ok : ∀ (vs : List Value) (xs : List AV), crepsB vs xs = true → vs.length = xs.length ∧ ∀ (j : Nat) y, xs[j]? = some y → ∃ u, vs[j]? = some u ∧ CRep u y
  | [], [], h => ⟨rfl, fun j y hy => by simp at hy⟩
  | v :: vs, x :: xs, h => by
    simp only [crepsB, Bool.and_eq_true] at h
    obtain ⟨h1, h2⟩ := crepsB_ok vs xs h.2
    refine ⟨by simp [h1], fun j y hy => ?_⟩
    cases j with
    | zero =>
      have : x = y := by simpa using hy
      subst this
      exact ⟨v, rfl, crepB_ok h.1⟩
    | succ j => exact h2 j y (by simpa using hy)
  | [], _ :: _, h => by simp [crepsB] at h
  | _ :: _, [], h => by simp [crepsB] at h
def infGoodP (P : Program) (e : Nat × Nat × Nat × List AV) : Bool := match P.types[e.1]? with
  | some i => i.size == e.2.1 && i.bytes == e.2.2.1 && match i.zero with
    | some zv => zv.cells.size == e.2.1 && crepsB zv.cells.toList e.2.2.2
    | none => false
  | none => false
theorem allInf : (infs.all (infGoodP Try.prog)) = true := by kernel_rfl
theorem look_mem {α : Type} : ∀ (l : List (Nat × α)) (k : Nat) (x : α), look l k = some x → (k, x) ∈ l
  | [], k, x, h => by simp [look] at h
  | (i, y) :: r, k, x, h => by
    simp only [look] at h
    split at h
    · rename_i hi
      injection h with h
      subst hi; subst h
      simp
    · exact List.mem_cons_of_mem _ (look_mem r k x h)

theorem tab_fn {k : Nat} {F : Func} (h1 : goodF.contains k = true) (h2 : Try.prog.funcs[k]? = some F) : tab.fn k = some F := by
  simp only [tab]
  rw [if_pos h1]
  exact h2
theorem tab_und (t : Nat) : tab.und t = Try.prog.underlying t := by simp only [tab]
theorem tab_inf0 (t : Nat) : tab.inf t = look infs t := by simp only [tab]
theorem tab_inf {t : Nat} {d : Option (Nat × Nat × List AV)} (h : look infs t = d) : tab.inf t = d := by
  simp only [tab]
  exact h
theorem tab_keep {f r : Nat} {d : Option (List Nat × List Nat)} (h : look2 keeps f r = d) : tab.keep f r = d := by
  simp only [tab]
  exact h
theorem tab_drw {f r : Nat} {d : Option (List (List Nat))} (h : look2 drws f r = d) : tab.drw f r = d := by
  simp only [tab]
  exact h
theorem tab_lv {f r : Nat} {d : Option Nat} (h : look2 lvs f r = d) : tab.lv f r = d := by
  simp only [tab]
  exact h
theorem tab_opn {f : Nat} {b : Bool} (h : opnsL.contains f = b) : tab.opn f = b := by
  simp only [tab]
  exact h
theorem tab_res {f : Nat} {d : Option Nat} (h : look ress f = d) : tab.res f = d := by
  simp only [tab]
  exact h
theorem tab_cmp {t : Nat} {b : Bool} (h : cmpsL.contains t = b) : tab.cmp t = b := by
  simp only [tab]
  exact h
theorem tab_prim (f : Nat) : tab.prim f = none := by simp only [tab]

theorem info_of {P : Program} {t : Nat} {i : TypeInfo} (h : P.types[t]? = some i) : P.info? t = some i := by
  have : t < P.types.size := (Array.getElem?_eq_some_iff.1 h).1
  show Tables.info? P.toTables t = some i
  unfold Tables.info?
  rw [if_pos this]
  exact h
theorem infGood_ok {P : Program} {t n b : Nat} {z : List AV} (h1 : infGoodP P (t, n, b, z) = true) : ∃ i zv, P.info? t = some i ∧ i.size = n ∧ i.bytes = b ∧ i.zero = some zv ∧ zv.cells.size = n ∧ z.length = n ∧
    ∀ (j : Nat) y, z[j]? = some y → ∃ u, zv.cells[j]? = some u ∧ CRep u y := by
  unfold infGoodP at h1
  simp only at h1
  cases hi : P.types[t]? with
  | none => rw [hi] at h1; simp at h1
  | some i =>
    rw [hi] at h1
    simp only [Bool.and_eq_true, beq_iff_eq] at h1
    obtain ⟨⟨h2, h3⟩, h4⟩ := h1
    cases hz : i.zero with
    | none => rw [hz] at h4; simp at h4
    | some zv =>
      rw [hz] at h4
      simp only [Bool.and_eq_true, beq_iff_eq] at h4
      obtain ⟨h5, h6⟩ := crepsB_ok _ _ h4.2
      refine ⟨i, zv, info_of hi, h2, h3, hz, h4.1, by simp at h5; omega, fun j y hy => ?_⟩
      obtain ⟨u, h7, h8⟩ := h6 j y hy
      exact ⟨u, by simpa using h7, h8⟩
theorem inf_ok (t n b : Nat) (z : List AV) (h : look infs t = some (n, b, z)) : ∃ i zv, Try.prog.info? t = some i ∧ i.size = n ∧ i.bytes = b ∧ i.zero = some zv ∧ zv.cells.size = n ∧ z.length = n ∧
    ∀ (j : Nat) y, z[j]? = some y → ∃ u, zv.cells[j]? = some u ∧ CRep u y := by
  exact infGood_ok ((List.all_eq_true (l := infs) (p := infGoodP Try.prog)).1 allInf (t, n, b, z) (look_mem infs t (n, b, z) h))
theorem tab_ok : tab.Ok Try.prog where
  fn := fun f F h => by
    simp only [tab] at h
    split at h
    · rename_i hg
      have h1 := List.all_eq_true.1 allGood f (by simpa using hg)
      rw [h] at h1
      simp only [fnGood, Bool.and_eq_true, Bool.not_eq_true'] at h1
      cases hb : F.body with
      | none => rw [hb] at h1; simp at h1
      | some c =>
        rw [hb] at h1
        simp only [Bool.and_eq_true] at h1
        exact ⟨h, h1.1, c, rfl, h1.2.1⟩
    · cases h
  und := fun t d h => (tab_und t).symm.trans h
  inf := fun t n b z h => inf_ok t n b z ((tab_inf0 t).symm.trans h)
  mix := by kernel_rfl
  drw := fun f F c h hb => by
    simp only [tab] at h
    split at h
    · rename_i hg
      have h1 := List.all_eq_true.1 allGood f (by simpa using hg)
      rw [h] at h1
      simp only [fnGood, Bool.and_eq_true, hb] at h1
      exact h1.2.2
    · cases h
  cmp := fun t h => by
    have h1 : (cmpsL.all fun t => !Try.prog.stoodInHeld t && !Try.prog.eqGuardType Try.prog.depth t) = true := by kernel_rfl
    have h2 := List.all_eq_true.1 h1 t (by simpa [tab] using h)
    simpa using h2
theorem prim_ok : PrimOk Try.prog tab := fun f p h => by simp [tab] at h

theorem fn3 : tab.fn 3 = some Try.f3 := tab_fn (by kernel_rfl) Try.func3
theorem fn4 : tab.fn 4 = some Try.f4 := tab_fn (by kernel_rfl) Try.func4
theorem fn5 : tab.fn 5 = some Try.f5 := tab_fn (by kernel_rfl) Try.func5
theorem fn6 : tab.fn 6 = some Try.f6 := tab_fn (by kernel_rfl) Try.func6
theorem fn7 : tab.fn 7 = some Try.f7 := tab_fn (by kernel_rfl) Try.func7
theorem fn8 : tab.fn 8 = some Try.f8 := tab_fn (by kernel_rfl) Try.func8
theorem fn9 : tab.fn 9 = some Try.f9 := tab_fn (by kernel_rfl) Try.func9
theorem fn10 : tab.fn 10 = some Try.f10 := tab_fn (by kernel_rfl) Try.func10
theorem fn11 : tab.fn 11 = some Try.f11 := tab_fn (by kernel_rfl) Try.func11
theorem fn12 : tab.fn 12 = some Try.f12 := tab_fn (by kernel_rfl) Try.func12
theorem fn13 : tab.fn 13 = some Try.f13 := tab_fn (by kernel_rfl) Try.func13
theorem fn14 : tab.fn 14 = some Try.f14 := tab_fn (by kernel_rfl) Try.func14
theorem fn15 : tab.fn 15 = some Try.f15 := tab_fn (by kernel_rfl) Try.func15
theorem fn16 : tab.fn 16 = some Try.f16 := tab_fn (by kernel_rfl) Try.func16
theorem fn17 : tab.fn 17 = some Try.f17 := tab_fn (by kernel_rfl) Try.func17
theorem fn18 : tab.fn 18 = some Try.f18 := tab_fn (by kernel_rfl) Try.func18
theorem fn19 : tab.fn 19 = some Try.f19 := tab_fn (by kernel_rfl) Try.func19
theorem fn20 : tab.fn 20 = some Try.f20 := tab_fn (by kernel_rfl) Try.func20
theorem fn21 : tab.fn 21 = some Try.f21 := tab_fn (by kernel_rfl) Try.func21
theorem fn22 : tab.fn 22 = some Try.f22 := tab_fn (by kernel_rfl) Try.func22
theorem fn23 : tab.fn 23 = some Try.f23 := tab_fn (by kernel_rfl) Try.func23
theorem fn24 : tab.fn 24 = some Try.f24 := tab_fn (by kernel_rfl) Try.func24
theorem fn25 : tab.fn 25 = some Try.f25 := tab_fn (by kernel_rfl) Try.func25
theorem fn26 : tab.fn 26 = some Try.f26 := tab_fn (by kernel_rfl) Try.func26
theorem fn27 : tab.fn 27 = some Try.f27 := tab_fn (by kernel_rfl) Try.func27
theorem fn28 : tab.fn 28 = some Try.f28 := tab_fn (by kernel_rfl) Try.func28
theorem fn29 : tab.fn 29 = some Try.f29 := tab_fn (by kernel_rfl) Try.func29
theorem fn30 : tab.fn 30 = some Try.f30 := tab_fn (by kernel_rfl) Try.func30
theorem fn31 : tab.fn 31 = some Try.f31 := tab_fn (by kernel_rfl) Try.func31
theorem fn32 : tab.fn 32 = some Try.f32 := tab_fn (by kernel_rfl) Try.func32
theorem fn33 : tab.fn 33 = some Try.f33 := tab_fn (by kernel_rfl) Try.func33
theorem fn34 : tab.fn 34 = some Try.f34 := tab_fn (by kernel_rfl) Try.func34
theorem fn35 : tab.fn 35 = some Try.f35 := tab_fn (by kernel_rfl) Try.func35
theorem fn36 : tab.fn 36 = some Try.f36 := tab_fn (by kernel_rfl) Try.func36
theorem fn37 : tab.fn 37 = some Try.f37 := tab_fn (by kernel_rfl) Try.func37
theorem fn38 : tab.fn 38 = some Try.f38 := tab_fn (by kernel_rfl) Try.func38
theorem fn39 : tab.fn 39 = some Try.f39 := tab_fn (by kernel_rfl) Try.func39
theorem fn40 : tab.fn 40 = some Try.f40 := tab_fn (by kernel_rfl) Try.func40
theorem fn41 : tab.fn 41 = some Try.f41 := tab_fn (by kernel_rfl) Try.func41
theorem fn42 : tab.fn 42 = some Try.f42 := tab_fn (by kernel_rfl) Try.func42
theorem fn43 : tab.fn 43 = some Try.f43 := tab_fn (by kernel_rfl) Try.func43
theorem fn44 : tab.fn 44 = some Try.f44 := tab_fn (by kernel_rfl) Try.func44
theorem fn45 : tab.fn 45 = some Try.f45 := tab_fn (by kernel_rfl) Try.func45
theorem fn46 : tab.fn 46 = some Try.f46 := tab_fn (by kernel_rfl) Try.func46
theorem fn47 : tab.fn 47 = some Try.f47 := tab_fn (by kernel_rfl) Try.func47
theorem fn48 : tab.fn 48 = some Try.f48 := tab_fn (by kernel_rfl) Try.func48
theorem fn49 : tab.fn 49 = some Try.f49 := tab_fn (by kernel_rfl) Try.func49
theorem fn50 : tab.fn 50 = some Try.f50 := tab_fn (by kernel_rfl) Try.func50
theorem fn51 : tab.fn 51 = some Try.f51 := tab_fn (by kernel_rfl) Try.func51
theorem fn52 : tab.fn 52 = some Try.f52 := tab_fn (by kernel_rfl) Try.func52
theorem fn53 : tab.fn 53 = some Try.f53 := tab_fn (by kernel_rfl) Try.func53
theorem fn54 : tab.fn 54 = some Try.f54 := tab_fn (by kernel_rfl) Try.func54
theorem fn55 : tab.fn 55 = some Try.f55 := tab_fn (by kernel_rfl) Try.func55
theorem fn56 : tab.fn 56 = some Try.f56 := tab_fn (by kernel_rfl) Try.func56
theorem fn57 : tab.fn 57 = some Try.f57 := tab_fn (by kernel_rfl) Try.func57
theorem fn58 : tab.fn 58 = some Try.f58 := tab_fn (by kernel_rfl) Try.func58
theorem fn59 : tab.fn 59 = some Try.f59 := tab_fn (by kernel_rfl) Try.func59
theorem fn60 : tab.fn 60 = some Try.f60 := tab_fn (by kernel_rfl) Try.func60
theorem fn61 : tab.fn 61 = some Try.f61 := tab_fn (by kernel_rfl) Try.func61
theorem fn62 : tab.fn 62 = some Try.f62 := tab_fn (by kernel_rfl) Try.func62
theorem fn63 : tab.fn 63 = some Try.f63 := tab_fn (by kernel_rfl) Try.func63
theorem fn64 : tab.fn 64 = some Try.f64 := tab_fn (by kernel_rfl) Try.func64
theorem fn65 : tab.fn 65 = some Try.f65 := tab_fn (by kernel_rfl) Try.func65
theorem fn66 : tab.fn 66 = some Try.f66 := tab_fn (by kernel_rfl) Try.func66
theorem fn67 : tab.fn 67 = some Try.f67 := tab_fn (by kernel_rfl) Try.func67
theorem fn68 : tab.fn 68 = some Try.f68 := tab_fn (by kernel_rfl) Try.func68
theorem fn69 : tab.fn 69 = some Try.f69 := tab_fn (by kernel_rfl) Try.func69
theorem fn70 : tab.fn 70 = some Try.f70 := tab_fn (by kernel_rfl) Try.func70
theorem fn71 : tab.fn 71 = some Try.f71 := tab_fn (by kernel_rfl) Try.func71
theorem fn72 : tab.fn 72 = some Try.f72 := tab_fn (by kernel_rfl) Try.func72
theorem fn73 : tab.fn 73 = some Try.f73 := tab_fn (by kernel_rfl) Try.func73
theorem fn74 : tab.fn 74 = some Try.f74 := tab_fn (by kernel_rfl) Try.func74
theorem fn75 : tab.fn 75 = some Try.f75 := tab_fn (by kernel_rfl) Try.func75
theorem fn76 : tab.fn 76 = some Try.f76 := tab_fn (by kernel_rfl) Try.func76
theorem fn77 : tab.fn 77 = some Try.f77 := tab_fn (by kernel_rfl) Try.func77
theorem fn78 : tab.fn 78 = some Try.f78 := tab_fn (by kernel_rfl) Try.func78
theorem fn79 : tab.fn 79 = some Try.f79 := tab_fn (by kernel_rfl) Try.func79
theorem fn80 : tab.fn 80 = some Try.f80 := tab_fn (by kernel_rfl) Try.func80
theorem fn81 : tab.fn 81 = some Try.f81 := tab_fn (by kernel_rfl) Try.func81
theorem fn82 : tab.fn 82 = some Try.f82 := tab_fn (by kernel_rfl) Try.func82
theorem fn83 : tab.fn 83 = some Try.f83 := tab_fn (by kernel_rfl) Try.func83
theorem fn84 : tab.fn 84 = some Try.f84 := tab_fn (by kernel_rfl) Try.func84
theorem fn85 : tab.fn 85 = some Try.f85 := tab_fn (by kernel_rfl) Try.func85
theorem fn86 : tab.fn 86 = some Try.f86 := tab_fn (by kernel_rfl) Try.func86
theorem fn87 : tab.fn 87 = some Try.f87 := tab_fn (by kernel_rfl) Try.func87
theorem fn88 : tab.fn 88 = some Try.f88 := tab_fn (by kernel_rfl) Try.func88
theorem fn89 : tab.fn 89 = some Try.f89 := tab_fn (by kernel_rfl) Try.func89
theorem fn90 : tab.fn 90 = some Try.f90 := tab_fn (by kernel_rfl) Try.func90
theorem fn91 : tab.fn 91 = some Try.f91 := tab_fn (by kernel_rfl) Try.func91
theorem fn92 : tab.fn 92 = some Try.f92 := tab_fn (by kernel_rfl) Try.func92
theorem fn93 : tab.fn 93 = some Try.f93 := tab_fn (by kernel_rfl) Try.func93
theorem fn94 : tab.fn 94 = some Try.f94 := tab_fn (by kernel_rfl) Try.func94
theorem fn95 : tab.fn 95 = some Try.f95 := tab_fn (by kernel_rfl) Try.func95
theorem fn98 : tab.fn 98 = some Try.f98 := tab_fn (by kernel_rfl) Try.func98
theorem fn99 : tab.fn 99 = some Try.f99 := tab_fn (by kernel_rfl) Try.func99
theorem inf2 : tab.inf 2 = some (1, 8, [.d (.int .i64 0)]) := tab_inf (by kernel_rfl)
theorem inf3 : tab.inf 3 = some (1, 8, [.d (.int .i64 0)]) := tab_inf (by kernel_rfl)
theorem inf4 : tab.inf 4 = some (1, 1, [.d (.bool false)]) := tab_inf (by kernel_rfl)
theorem inf5 : tab.inf 5 = some (1, 1, [.d (.int .u8 0)]) := tab_inf (by kernel_rfl)
theorem inf6 : tab.inf 6 = some (1, 1, [.d (.int .u8 0)]) := tab_inf (by kernel_rfl)
theorem inf7 : tab.inf 7 = some (4, 24, [.d (.int .i64 0), .d (.int .i64 0), .d (.bool false), .d (.int .u8 0)]) := tab_inf (by kernel_rfl)
theorem inf8 : tab.inf 8 = some (4, 24, [.d (.int .i64 0), .d (.int .i64 0), .d (.bool false), .d (.int .u8 0)]) := tab_inf (by kernel_rfl)
theorem inf9 : tab.inf 9 = some (1, 16, [.d (.str [])]) := tab_inf (by kernel_rfl)
theorem inf10 : tab.inf 10 = some (1, 16, [.d (.str [])]) := tab_inf (by kernel_rfl)
theorem inf11 : tab.inf 11 = some (1, 16, [.d (.str [])]) := tab_inf (by kernel_rfl)
theorem inf12 : tab.inf 12 = some (1, 8, [.d (.int .u64 0)]) := tab_inf (by kernel_rfl)
theorem inf13 : tab.inf 13 = some (2, 24, [.d (.str []), .d (.int .u64 0)]) := tab_inf (by kernel_rfl)
theorem inf14 : tab.inf 14 = some (2, 24, [.d (.str []), .d (.int .u64 0)]) := tab_inf (by kernel_rfl)
theorem inf21 : tab.inf 21 = some (1, 4, [.d (.int .i32 0)]) := tab_inf (by kernel_rfl)
theorem inf22 : tab.inf 22 = some (1, 24, [.own 4 [] none]) := tab_inf (by kernel_rfl)
theorem inf23 : tab.inf 23 = some (1, 24, [.own 8 [] none]) := tab_inf (by kernel_rfl)
theorem inf26 : tab.inf 26 = some (4, 40, [.d (.int .i64 0), .d (.int .i64 0), .d (.int .i64 0), .d (.str [])]) := tab_inf (by kernel_rfl)
theorem inf27 : tab.inf 27 = some (4, 40, [.d (.int .i64 0), .d (.int .i64 0), .d (.int .i64 0), .d (.str [])]) := tab_inf (by kernel_rfl)
theorem inf29 : tab.inf 29 = some (1, 8, [.d (.int .i64 0)]) := tab_inf (by kernel_rfl)
theorem inf33 : tab.inf 33 = some (3, 32, [.d (.int .i64 0), .d (.int .i64 0), .d (.str [])]) := tab_inf (by kernel_rfl)
theorem inf34 : tab.inf 34 = some (3, 32, [.d (.int .i64 0), .d (.int .i64 0), .d (.str [])]) := tab_inf (by kernel_rfl)
theorem inf35 : tab.inf 35 = some (8, 88, [.d (.str []), .d (.int .i64 0), .d (.int .i64 0), .d (.int .i64 0), .d (.str []), .d (.int .i64 0), .d (.int .i64 0), .d (.str [])]) := tab_inf (by kernel_rfl)
theorem inf36 : tab.inf 36 = some (8, 88, [.d (.str []), .d (.int .i64 0), .d (.int .i64 0), .d (.int .i64 0), .d (.str []), .d (.int .i64 0), .d (.int .i64 0), .d (.str [])]) := tab_inf (by kernel_rfl)
theorem inf41 : tab.inf 41 = some (3, 24, [.d (.int .i64 0), .d (.int .i64 0), .d (.int .i64 0)]) := tab_inf (by kernel_rfl)
theorem inf42 : tab.inf 42 = some (3, 24, [.d (.int .i64 0), .d (.int .i64 0), .d (.int .i64 0)]) := tab_inf (by kernel_rfl)
theorem inf45 : tab.inf 45 = some (10, 96, [.d (.int .i64 0), .d (.int .i64 0), .d (.int .i64 0), .d (.int .i64 0), .d (.int .i64 0), .d (.str []), .d (.int .i64 0), .d (.int .i64 0), .d (.str []), .d (.int .i64 0)]) := tab_inf (by kernel_rfl)
theorem inf46 : tab.inf 46 = some (10, 96, [.d (.int .i64 0), .d (.int .i64 0), .d (.int .i64 0), .d (.int .i64 0), .d (.int .i64 0), .d (.str []), .d (.int .i64 0), .d (.int .i64 0), .d (.str []), .d (.int .i64 0)]) := tab_inf (by kernel_rfl)
theorem inf53 : tab.inf 53 = some (1, 24, [.own 10 [] none]) := tab_inf (by kernel_rfl)
theorem inf65 : tab.inf 65 = some (1, 24, [.own 2 [] none]) := tab_inf (by kernel_rfl)
theorem inf70 : tab.inf 70 = some (2, 16, [.d (.int .i64 0), .d (.int .i64 0)]) := tab_inf (by kernel_rfl)
theorem inf71 : tab.inf 71 = some (2, 16, [.d (.int .i64 0), .d (.int .i64 0)]) := tab_inf (by kernel_rfl)
theorem inf75 : tab.inf 75 = some (1, 24, [.own 6 [] none]) := tab_inf (by kernel_rfl)
theorem inf76 : tab.inf 76 = some (6, 80, [.d (.int .i64 0), .d (.int .i64 0), .d (.int .i64 0), .d (.str []), .d (.str []), .own 6 [] none]) := tab_inf (by kernel_rfl)
theorem inf77 : tab.inf 77 = some (6, 80, [.d (.int .i64 0), .d (.int .i64 0), .d (.int .i64 0), .d (.str []), .d (.str []), .own 6 [] none]) := tab_inf (by kernel_rfl)
theorem inf79 : tab.inf 79 = some (1, 24, [.own 9 [] none]) := tab_inf (by kernel_rfl)
theorem inf89 : tab.inf 89 = some (1, 24, [.own 6 [] none]) := tab_inf (by kernel_rfl)
theorem inf92 : tab.inf 92 = some (1, 24, [.own 1 [] none]) := tab_inf (by kernel_rfl)
theorem inf93 : tab.inf 93 = some (6, 64, [.d (.int .i64 0), .d (.int .i64 0), .d (.str []), .d (.int .i64 0), .d (.int .i64 0), .d (.str [])]) := tab_inf (by kernel_rfl)
theorem inf94 : tab.inf 94 = some (6, 64, [.d (.int .i64 0), .d (.int .i64 0), .d (.str []), .d (.int .i64 0), .d (.int .i64 0), .d (.str [])]) := tab_inf (by kernel_rfl)
theorem inf102 : tab.inf 102 = some (2, 48, [.own 8 [] none, .own 8 [] none]) := tab_inf (by kernel_rfl)
theorem inf104 : tab.inf 104 = some (1, 24, [.own 1 [] none]) := tab_inf (by kernel_rfl)
theorem inf118 : tab.inf 118 = some (2, 32, [.own 4 [] none, .d (.int .i64 0)]) := tab_inf (by kernel_rfl)
theorem inf119 : tab.inf 119 = some (2, 32, [.own 4 [] none, .d (.int .i64 0)]) := tab_inf (by kernel_rfl)
theorem inf121 : tab.inf 121 = some (9, 112, [.d (.str []), .d (.int .i64 0), .d (.int .i64 0), .d (.int .i64 0), .d (.int .i64 0), .d (.int .i64 0), .d (.str []), .d (.str []), .own 6 [] none]) := tab_inf (by kernel_rfl)
theorem inf122 : tab.inf 122 = some (9, 112, [.d (.str []), .d (.int .i64 0), .d (.int .i64 0), .d (.int .i64 0), .d (.int .i64 0), .d (.int .i64 0), .d (.str []), .d (.str []), .own 6 [] none]) := tab_inf (by kernel_rfl)
theorem inf123 : tab.inf 123 = some (1, 24, [.own 1 [] none]) := tab_inf (by kernel_rfl)
theorem inf129 : tab.inf 129 = some (1, 24, [.own 1 [] none]) := tab_inf (by kernel_rfl)
theorem inf140 : tab.inf 140 = some (1, 8, [.d (.int .u64 0)]) := tab_inf (by kernel_rfl)
theorem inf144 : tab.inf 144 = some (1, 24, [.own 1 [] none]) := tab_inf (by kernel_rfl)
theorem inf148 : tab.inf 148 = some (13, 208, [.d (.str []), .d (.str []), .d (.str []), .d (.str []), .d (.str []), .d (.str []), .d (.str []), .d (.str []), .d (.str []), .d (.str []), .d (.str []), .d (.str []), .d (.str [])]) := tab_inf (by kernel_rfl)
theorem inf153 : tab.inf 153 = some (3, 32, [.d (.str []), .d (.int .i64 0), .d (.int .i64 0)]) := tab_inf (by kernel_rfl)
theorem inf154 : tab.inf 154 = some (3, 32, [.d (.str []), .d (.int .i64 0), .d (.int .i64 0)]) := tab_inf (by kernel_rfl)
theorem inf155 : tab.inf 155 = some (57, 608, [.d (.str []), .d (.int .i64 0), .d (.int .i64 0), .d (.str []), .d (.int .i64 0), .d (.int .i64 0), .d (.str []), .d (.int .i64 0), .d (.int .i64 0), .d (.str []), .d (.int .i64 0), .d (.int .i64 0), .d (.str []), .d (.int .i64 0), .d (.int .i64 0), .d (.str []), .d (.int .i64 0), .d (.int .i64 0), .d (.str []), .d (.int .i64 0), .d (.int .i64 0), .d (.str []), .d (.int .i64 0), .d (.int .i64 0), .d (.str []), .d (.int .i64 0), .d (.int .i64 0), .d (.str []), .d (.int .i64 0), .d (.int .i64 0), .d (.str []), .d (.int .i64 0), .d (.int .i64 0), .d (.str []), .d (.int .i64 0), .d (.int .i64 0), .d (.str []), .d (.int .i64 0), .d (.int .i64 0), .d (.str []), .d (.int .i64 0), .d (.int .i64 0), .d (.str []), .d (.int .i64 0), .d (.int .i64 0), .d (.str []), .d (.int .i64 0), .d (.int .i64 0), .d (.str []), .d (.int .i64 0), .d (.int .i64 0), .d (.str []), .d (.int .i64 0), .d (.int .i64 0), .d (.str []), .d (.int .i64 0), .d (.int .i64 0)]) := tab_inf (by kernel_rfl)
theorem inf166 : tab.inf 166 = some (1, 4, [.d (.int .u32 0)]) := tab_inf (by kernel_rfl)
theorem inf167 : tab.inf 167 = some (1, 1, [.d (.int .u8 0)]) := tab_inf (by kernel_rfl)
theorem inf168 : tab.inf 168 = some (1, 1, [.d (.int .u8 0)]) := tab_inf (by kernel_rfl)
theorem inf170 : tab.inf 170 = some (1, 4, [.d (.int .i32 0)]) := tab_inf (by kernel_rfl)
theorem inf171 : tab.inf 171 = some (1, 4, [.d (.int .i32 0)]) := tab_inf (by kernel_rfl)
end Go.Proofs.Ythnlmhibbmogeaa.Am
