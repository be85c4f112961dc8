/- The evaluator's table for this program: functions, types, and what is kept at a loop's head. Printed by gentab.py. -/
import Derived.Test.YtghjhlngaigdiaaAmLim
import Derived.Test.YtghjhlngaigdiaaProg
set_option linter.unusedVariables false
set_option linter.unusedSimpArgs false
namespace Go.Proofs.Ytghjhlngaigdiaa.Am
open Go Go.RowKit

def look {α : Type} : List (Nat × α) → Nat → Option α
  | [], _ => none
  | (i, x) :: r, k => if i = k then some x else look r k
def look2 {α : Type} : List (Nat × Nat × α) → Nat → Nat → Option α
  | [], _, _ => none
  | (i, j, x) :: r, k, m => if i = k ∧ j = m then some x else look2 r k m

def goodF : List Nat := [3, 4, 5, 6, 7, 8, 9, 10, 11, 12, 13, 14, 15, 16, 17, 18, 19, 20, 21, 22, 23, 24, 25, 26, 27, 28, 29, 30, 31, 32, 33, 34, 35, 36, 37, 38, 39, 40, 41, 42, 43, 44, 45, 46, 47, 48, 49, 50, 51, 52, 53, 54, 55, 56, 57, 58, 59, 61, 62, 63, 64, 65, 66, 67, 68, 69, 70, 71, 72, 73, 74, 75, 78]
def infs : List (Nat × Nat × Nat × List AV) := [(1, 1, 8, [.d .nilf]),
  (2, 1, 8, [.d (.int .i64 0)]),
  (3, 1, 8, [.d (.int .i64 0)]),
  (4, 1, 1, [.d (.bool false)]),
  (5, 1, 1, [.d (.int .u8 0)]),
  (6, 1, 1, [.d (.int .u8 0)]),
  (7, 4, 24, [.d (.int .i64 0), .d (.int .i64 0), .d (.bool false), .d (.int .u8 0)]),
  (8, 4, 24, [.d (.int .i64 0), .d (.int .i64 0), .d (.bool false), .d (.int .u8 0)]),
  (9, 1, 16, [.d (.str [])]),
  (10, 1, 16, [.d (.str [])]),
  (11, 1, 16, [.d (.str [])]),
  (12, 1, 8, [.d (.int .u64 0)]),
  (13, 2, 24, [.d (.str []), .d (.int .u64 0)]),
  (14, 2, 24, [.d (.str []), .d (.int .u64 0)]),
  (21, 1, 4, [.d (.int .i32 0)]),
  (22, 1, 24, [.own 4 [] none]),
  (23, 1, 24, [.own 2 [] none]),
  (25, 1, 8, [.d .nilf]),
  (26, 2, 16, [.d (.int .i64 0), .d (.int .i64 0)]),
  (27, 2, 16, [.d (.int .i64 0), .d (.int .i64 0)]),
  (28, 1, 8, [.d (.int .i64 0)]),
  (29, 1, 8, [.d .nilf]),
  (30, 1, 8, [.d .nilf]),
  (32, 1, 8, [.d .nilf]),
  (33, 1, 8, [.d .nilf]),
  (34, 1, 8, [.d .nilf]),
  (35, 1, 8, [.d .nilf]),
  (36, 1, 8, [.d .nilf]),
  (38, 1, 8, [.d .nilf]),
  (39, 1, 8, [.d .nilf]),
  (40, 1, 8, [.d .nilf]),
  (41, 1, 8, [.d .nilf]),
  (42, 1, 8, [.d .nilf]),
  (43, 1, 24, [.own 8 [] none]),
  (44, 1, 8, [.d .nilf]),
  (45, 1, 8, [.d .nilf]),
  (46, 4, 40, [.d (.int .i64 0), .d (.int .i64 0), .d (.int .i64 0), .d (.str [])]),
  (47, 4, 40, [.d (.int .i64 0), .d (.int .i64 0), .d (.int .i64 0), .d (.str [])]),
  (49, 1, 8, [.d .nilf]),
  (50, 1, 8, [.d .nilf]),
  (51, 3, 32, [.d (.int .i64 0), .d (.int .i64 0), .d (.str [])]),
  (52, 3, 32, [.d (.int .i64 0), .d (.int .i64 0), .d (.str [])]),
  (53, 8, 88, [.d (.str []), .d (.int .i64 0), .d (.int .i64 0), .d (.int .i64 0), .d (.str []), .d (.int .i64 0), .d (.int .i64 0), .d (.str [])]),
  (54, 8, 88, [.d (.str []), .d (.int .i64 0), .d (.int .i64 0), .d (.int .i64 0), .d (.str []), .d (.int .i64 0), .d (.int .i64 0), .d (.str [])]),
  (55, 1, 8, [.d .nilf]),
  (56, 1, 8, [.d .nilf]),
  (57, 1, 8, [.d .nilf]),
  (58, 1, 8, [.d .nilf]),
  (60, 1, 8, [.d .nilf]),
  (61, 1, 8, [.d .nilf]),
  (62, 1, 8, [.d .nilf]),
  (63, 1, 24, [.own 6 [] none]),
  (65, 1, 8, [.d .nilf]),
  (66, 1, 24, [.own 1 [] none]),
  (67, 6, 64, [.d (.int .i64 0), .d (.int .i64 0), .d (.str []), .d (.int .i64 0), .d (.int .i64 0), .d (.str [])]),
  (68, 6, 64, [.d (.int .i64 0), .d (.int .i64 0), .d (.str []), .d (.int .i64 0), .d (.int .i64 0), .d (.str [])]),
  (69, 1, 8, [.d .nilf]),
  (70, 1, 8, [.d .nilf]),
  (71, 1, 8, [.d .nilf]),
  (72, 1, 8, [.d .nilf]),
  (73, 1, 8, [.d .nilf]),
  (74, 1, 8, [.d .nilf]),
  (76, 1, 8, [.d .nilf]),
  (77, 1, 8, [.d .nilf]),
  (78, 1, 8, [.d .nilf]),
  (79, 1, 24, [.own 1 [] none]),
  (80, 1, 8, [.d .nilf]),
  (81, 1, 8, [.d .nilf]),
  (83, 1, 8, [.d .nilf]),
  (84, 1, 8, [.d .nilf]),
  (85, 1, 8, [.d .nilf]),
  (86, 2, 48, [.own 8 [] none, .own 8 [] none]),
  (87, 1, 8, [.d .nilf]),
  (88, 1, 24, [.own 1 [] none]),
  (89, 1, 8, [.d .nilf]),
  (90, 1, 8, [.d .nilf]),
  (91, 1, 8, [.d .nilf]),
  (92, 1, 8, [.d .nilf]),
  (94, 1, 8, [.d .nilf]),
  (96, 1, 24, [.own 1 [] none]),
  (99, 1, 8, [.d .nilf]),
  (103, 1, 8, [.d .nilf]),
  (104, 1, 8, [.d .nilf]),
  (105, 1, 8, [.d .nilf]),
  (106, 1, 8, [.d (.int .u64 0)]),
  (107, 1, 8, [.d .nilf]),
  (108, 1, 8, [.d .nilf]),
  (109, 1, 8, [.d .nilf]),
  (110, 1, 8, [.d .nilf]),
  (111, 13, 208, [.d (.str []), .d (.str []), .d (.str []), .d (.str []), .d (.str []), .d (.str []), .d (.str []), .d (.str []), .d (.str []), .d (.str []), .d (.str []), .d (.str []), .d (.str [])]),
  (112, 1, 8, [.d .nilf]),
  (114, 1, 24, [.own 1 [] none]),
  (115, 1, 8, [.d .nilf]),
  (116, 1, 8, [.d .nilf]),
  (117, 1, 8, [.d .nilf]),
  (119, 1, 8, [.d .nilf]),
  (120, 1, 8, [.d .nilf]),
  (121, 1, 8, [.d .nilf]),
  (127, 1, 8, [.d .nilf]),
  (128, 1, 4, [.d (.int .u32 0)]),
  (129, 1, 1, [.d (.int .u8 0)]),
  (130, 1, 1, [.d (.int .u8 0)]),
  (131, 1, 8, [.d .nilf]),
  (132, 1, 4, [.d (.int .i32 0)]),
  (133, 1, 4, [.d (.int .i32 0)])]
def keeps : List (Nat × Nat × List Nat × List Nat) := [(3, 3, [0, 3, 4, 12, 13], [8, 12, 64, 66, 67, 72]),
  (11, 9, [3, 9, 35, 36, 37], [17, 36, 45, 49, 50, 55, 56, 65]),
  (12, 3, [4, 11, 12, 13], [12, 26, 28, 35]),
  (13, 4, [0, 8, 9, 10], [6, 9, 35, 47]),
  (17, 4, [0, 1, 12, 13], [7, 9, 12]),
  (18, 5, [0, 1, 8], [10, 16, 32, 36]),
  (19, 11, [6, 25, 26, 27], [22, 24, 33]),
  (19, 3, [0, 3, 9, 10, 11], [10, 17, 24, 26, 33]),
  (23, 3, [3, 6, 7, 8], [7, 20, 23, 26]),
  (26, 4, [0, 1, 12, 13], [7, 9, 12]),
  (27, 2, [0, 1, 11, 12], [16, 22, 24, 30]),
  (28, 11, [6, 25, 26, 27], [22, 24, 33]),
  (28, 3, [0, 3, 9, 10, 11], [10, 17, 24, 26, 33]),
  (33, 5, [0, 5, 6], [10, 14, 26, 38, 43]),
  (34, 22, [1, 8, 63, 64, 65], [8, 12, 21, 24, 26, 33, 35, 40, 46, 53, 57, 61, 64, 70, 72, 74]),
  (34, 12, [0, 1, 5, 39, 40, 41], [8, 12, 21, 24, 26, 33, 35, 40, 46, 53, 57, 61, 64, 70, 72, 74]),
  (35, 4, [1, 2, 15, 16, 17], [11, 13, 16, 29]),
  (39, 3, [0, 2, 4, 8, 9, 10], [4, 13, 30, 46]),
  (43, 2, [0, 1, 7, 8], [7, 16]),
  (47, 4, [8, 9, 10], [6, 9, 24, 34]),
  (49, 3, [5, 15, 16, 17], [10, 12, 14, 16, 30]),
  (52, 12, [0, 2, 36, 37], [2, 12, 14, 19, 21, 33, 42]),
  (57, 3, [3, 6, 7, 8], [7]),
  (63, 5, [0, 2, 4, 5, 17, 18], [2, 8]),
  (65, 2, [0, 1, 5], [8, 15]),
  (67, 3, [0, 2, 4, 5], [2, 9, 19, 24, 42, 66]),
  (73, 4, [0, 8, 9], [5, 8]),
  (78, 1, [0, 2, 3], [5])]
def drws : List (Nat × Nat × List (List Nat)) := [(3, 5, [[], [], [], [], [], [], [], [], [], [], [], [], [], [], [], [], [], [], [], [], [], [], [], [], [], [], [], [], [], [], [], [], [], [], [], [], [], [], [], [], [], [], [], []]),
  (9, 3, [[], [], [], [], [2], [], [0, 1, 2, 4, 5], []]),
  (9, 8, [[], [], [], [], [], [], [], [], [], [], [], [], [], [], [], [], [], [], [], [], [], [], [], [], [], [], [], [], [], [], [], [], [], [], [], [], [], [], [], [], [], [], [], [], [], [], [], [], [], [], [], [], [], []]),
  (10, 6, [[], [], [], [], [], [], [], [], [], [], [], [], [], [], [], [], [], [], [], [], [], [], [], [], [], [], [], [], [], [], [], [], [], [], [], [], []]),
  (13, 8, [[], [], [], [], [], [], [], []]),
  (13, 10, [[], [], [], [], [], [], [], [], [], [], [], [], []]),
  (14, 5, [[], [], [], [], [3], [], [], [], [], [3, 6], [], []]),
  (17, 6, [[], [], [], [], [], [], [], [], []]),
  (18, 7, [[], [], [], [], [], [], [3], [], [], [], []]),
  (23, 6, [[], [], [], [], [], [], [], [5], [], [], [], [], []]),
  (26, 6, [[], [], [], [], [], [], [], [], []]),
  (32, 6, [[], [], [], [1], [], [], [], [], []]),
  (38, 1, [[], [], [], [], [], [4], [4], [4], [4], [], [], [], []]),
  (39, 5, [[], [], [], [], [], [], [], []]),
  (39, 8, [[], [], [], [], [], [], [], [], [], [], [], [], [], [], [], []]),
  (41, 5, [[], [], [], [], [], [], [], []]),
  (46, 5, [[], [], [], [], [], [], [], []]),
  (51, 11, [[], [], [], [], [], [], [], [], []]),
  (51, 15, [[], [], [], [], [], [], [], [], []]),
  (53, 3, [[], [], [], [], [], [], [4], [4], [4], [4], [], [], []]),
  (55, 1, [[], [], [], [], [], [], [4], [4], [4], [4], [], []]),
  (67, 10, [[], [], [], [], [], [3], [], [], [], []]),
  (70, 0, [[], [], [], [], [], [], [], [], [], [], [4, 8], [4, 8], [4, 8], [4, 8], [], []]),
  (78, 3, [[], [], [], [], [], [], [], [], [], [], [], [], [], [], [], []])]
def lvs : List (Nat × Nat × Nat) := [(3, 0, 1),
  (3, 1, 25),
  (3, 2, 12313),
  (3, 3, 28697),
  (3, 4, 12345),
  (3, 5, 576460752303435801),
  (3, 6, 4),
  (3, 7, 12313),
  (3, 8, 4),
  (4, 0, 3),
  (4, 1, 98),
  (4, 2, 480),
  (4, 3, 1504),
  (4, 4, 7520),
  (4, 5, 23904),
  (4, 6, 16),
  (5, 0, 7),
  (5, 1, 390),
  (5, 2, 390),
  (5, 3, 3974),
  (5, 4, 31622),
  (5, 5, 260864),
  (5, 6, 64),
  (6, 0, 9),
  (6, 1, 104),
  (6, 2, 104),
  (6, 3, 1000),
  (6, 4, 549755814280),
  (6, 5, 16),
  (6, 6, 16),
  (7, 0, 7),
  (7, 1, 134),
  (7, 2, 134217862),
  (7, 3, 64),
  (7, 4, 388),
  (7, 5, 896),
  (7, 6, 3968),
  (7, 7, 15232),
  (7, 8, 63872),
  (7, 9, 243840),
  (7, 10, 64),
  (8, 0, 3),
  (8, 1, 96),
  (8, 2, 480),
  (8, 3, 2016),
  (8, 4, 274877908608),
  (8, 5, 16),
  (8, 6, 2199023257216),
  (8, 7, 16),
  (8, 8, 16),
  (9, 0, 35),
  (9, 1, 162),
  (9, 2, 416),
  (9, 3, 896),
  (9, 4, 4992),
  (9, 5, 29568),
  (9, 6, 95104),
  (9, 7, 1004416),
  (9, 8, 64),
  (10, 0, 3),
  (10, 1, 34),
  (10, 2, 96),
  (10, 3, 480),
  (10, 4, 2016),
  (10, 5, 8160),
  (10, 6, 16),
  (11, 0, 1),
  (11, 1, 40),
  (11, 2, 360),
  (11, 3, 4294967336),
  (11, 4, 4),
  (11, 5, 17179869192),
  (11, 6, 4),
  (11, 7, 520),
  (11, 8, 240518169096),
  (11, 9, 515396076040),
  (11, 10, 240518171144),
  (11, 11, 240518169096),
  (11, 12, 240518169096),
  (11, 13, 21000),
  (11, 14, 144115188075876360),
  (11, 15, 4),
  (11, 16, 4),
  (12, 0, 1),
  (12, 1, 17),
  (12, 2, 14352),
  (12, 3, 30736),
  (12, 4, 14448),
  (12, 5, 538736),
  (12, 6, 14752),
  (12, 7, 549755828352),
  (12, 8, 12),
  (12, 9, 14352),
  (12, 10, 14352),
  (12, 11, 1552),
  (12, 12, 12),
  (13, 0, 1),
  (13, 1, 129),
  (13, 2, 4),
  (13, 3, 1793),
  (13, 4, 3841),
  (13, 5, 1817),
  (13, 6, 34585),
  (13, 7, 4),
  (13, 8, 536872729),
  (13, 9, 4),
  (13, 10, 137438955265),
  (13, 11, 4),
  (13, 12, 1793),
  (13, 13, 4),
  (14, 0, 9),
  (14, 1, 73),
  (14, 2, 16457),
  (14, 3, 48),
  (14, 4, 137),
  (14, 5, 512),
  (14, 6, 1536),
  (14, 7, 68719478272),
  (14, 8, 48),
  (14, 9, 48),
  (15, 0, 3),
  (15, 1, 67),
  (15, 2, 3),
  (15, 3, 16),
  (16, 0, 3),
  (16, 1, 67),
  (16, 2, 2115),
  (16, 3, 48),
  (16, 4, 129),
  (16, 5, 131201),
  (16, 6, 48),
  (16, 7, 48),
  (17, 0, 3),
  (17, 1, 1027),
  (17, 2, 16),
  (17, 3, 12291),
  (17, 4, 28675),
  (17, 5, 12323),
  (17, 6, 16789507),
  (17, 7, 16),
  (17, 8, 12291),
  (17, 9, 16),
  (18, 0, 3),
  (18, 1, 131),
  (18, 2, 4227),
  (18, 3, 112),
  (18, 4, 259),
  (18, 5, 67109123),
  (18, 6, 259),
  (18, 7, 112),
  (19, 0, 1),
  (19, 1, 9),
  (19, 2, 3593),
  (19, 3, 7689),
  (19, 4, 3625),
  (19, 5, 3593),
  (19, 6, 1052169),
  (19, 7, 3593),
  (19, 8, 3593),
  (19, 9, 65),
  (19, 10, 234881088),
  (19, 11, 503316544),
  (19, 12, 234881344),
  (19, 13, 234881088),
  (19, 14, 234881088),
  (19, 15, 4),
  (20, 0, 3),
  (20, 1, 16),
  (21, 0, 6),
  (21, 1, 8),
  (22, 0, 6),
  (22, 1, 8),
  (23, 0, 1),
  (23, 1, 9),
  (23, 2, 456),
  (23, 3, 968),
  (23, 4, 504),
  (23, 5, 16888),
  (23, 6, 456),
  (23, 7, 456),
  (23, 8, 4),
  (24, 0, 1),
  (24, 1, 17),
  (24, 2, 4),
  (24, 3, 4),
  (25, 0, 3),
  (25, 1, 131),
  (25, 2, 32899),
  (25, 3, 48),
  (25, 4, 48),
  (26, 0, 3),
  (26, 1, 1027),
  (26, 2, 16),
  (26, 3, 12291),
  (26, 4, 28675),
  (26, 5, 12323),
  (26, 6, 16789507),
  (26, 7, 16),
  (26, 8, 12291),
  (26, 9, 16),
  (27, 0, 3),
  (27, 1, 6147),
  (27, 2, 14339),
  (27, 3, 6275),
  (27, 4, 6403),
  (27, 5, 268547),
  (27, 6, 48),
  (27, 7, 6147),
  (27, 8, 67108867),
  (27, 9, 48),
  (27, 10, 48),
  (28, 0, 1),
  (28, 1, 9),
  (28, 2, 3593),
  (28, 3, 7689),
  (28, 4, 3625),
  (28, 5, 3593),
  (28, 6, 1052169),
  (28, 7, 3593),
  (28, 8, 3593),
  (28, 9, 65),
  (28, 10, 234881088),
  (28, 11, 503316544),
  (28, 12, 234881344),
  (28, 13, 234881088),
  (28, 14, 234881088),
  (28, 15, 4),
  (29, 0, 25),
  (29, 1, 56),
  (29, 2, 120),
  (29, 3, 2072),
  (29, 4, 16),
  (29, 5, 16),
  (29, 6, 4194328),
  (29, 7, 16),
  (29, 8, 16),
  (30, 0, 19),
  (30, 1, 403),
  (30, 2, 262547),
  (30, 3, 112),
  (30, 4, 16777363),
  (30, 5, 112),
  (30, 6, 656),
  (30, 7, 112),
  (31, 0, 35),
  (31, 1, 803),
  (31, 2, 131875),
  (31, 3, 192),
  (31, 4, 2097187),
  (31, 5, 192),
  (31, 6, 67108899),
  (31, 7, 192),
  (31, 8, 1058),
  (31, 9, 1024),
  (31, 10, 192),
  (32, 0, 3),
  (32, 1, 195),
  (32, 2, 32963),
  (32, 3, 48),
  (32, 4, 524355),
  (32, 5, 48),
  (32, 6, 48),
  (33, 0, 1),
  (33, 1, 2049),
  (33, 2, 28),
  (33, 3, 33),
  (33, 4, 97),
  (33, 5, 32865),
  (33, 6, 524385),
  (33, 7, 97),
  (33, 8, 481),
  (33, 9, 1073742305),
  (33, 10, 28),
  (33, 11, 225),
  (33, 12, 225),
  (33, 13, 97),
  (33, 14, 28),
  (34, 0, 3),
  (34, 1, 4099),
  (34, 2, 12291),
  (34, 3, 16),
  (34, 4, 32771),
  (34, 5, 16),
  (34, 6, 35),
  (34, 7, 4194339),
  (34, 8, 536870947),
  (34, 9, 35),
  (34, 10, 35),
  (34, 11, 3848290697251),
  (34, 12, 8246337208355),
  (34, 13, 3848290697379),
  (34, 14, 566798244118691),
  (34, 15, 3848290697379),
  (34, 16, 3848290697251),
  (34, 17, 3848290697251),
  (34, 18, 291),
  (34, 19, 259),
  (34, 20, 259),
  (34, 21, 64563604257983430914),
  (34, 22, 138350580552821637378),
  (34, 23, 64563604257983431938),
  (34, 24, 64563604257983431938),
  (34, 25, 64563604257983430914),
  (34, 26, 64563604257983430914),
  (34, 27, 16),
  (35, 0, 7),
  (35, 1, 16391),
  (35, 2, 64),
  (35, 3, 229382),
  (35, 4, 491526),
  (35, 5, 229766),
  (35, 6, 230150),
  (35, 7, 1073971206),
  (35, 8, 64),
  (35, 9, 229382),
  (35, 10, 64),
  (36, 0, 12),
  (36, 1, 16),
  (37, 0, 9),
  (37, 1, 16),
  (38, 0, 12),
  (38, 1, 16),
  (39, 0, 21),
  (39, 1, 277),
  (39, 2, 1813),
  (39, 3, 132885),
  (39, 4, 3861),
  (39, 5, 2147487509),
  (39, 6, 1813),
  (39, 7, 1813),
  (39, 8, 192),
  (40, 0, 1),
  (40, 1, 17),
  (40, 2, 4),
  (40, 3, 4),
  (41, 0, 7),
  (41, 1, 7),
  (41, 2, 65543),
  (41, 3, 64),
  (41, 4, 135),
  (41, 5, 129),
  (41, 6, 1),
  (41, 7, 64),
  (42, 0, 3),
  (42, 1, 67),
  (42, 2, 3),
  (42, 3, 3),
  (42, 4, 65539),
  (42, 5, 1),
  (42, 6, 16),
  (43, 0, 3),
  (43, 1, 387),
  (43, 2, 899),
  (43, 3, 419),
  (43, 4, 65955),
  (43, 5, 16),
  (43, 6, 387),
  (43, 7, 16),
  (44, 0, 19),
  (44, 1, 83),
  (44, 2, 1107),
  (44, 3, 48),
  (44, 4, 1048595),
  (44, 5, 48),
  (44, 6, 48),
  (45, 0, 1),
  (45, 1, 17),
  (45, 2, 4),
  (45, 3, 4),
  (46, 0, 7),
  (46, 1, 7),
  (46, 2, 65543),
  (46, 3, 64),
  (46, 4, 135),
  (46, 5, 129),
  (46, 6, 1),
  (46, 7, 64),
  (47, 0, 1),
  (47, 1, 129),
  (47, 2, 4),
  (47, 3, 1792),
  (47, 4, 3840),
  (47, 5, 1808),
  (47, 6, 2098960),
  (47, 7, 4),
  (47, 8, 137438955264),
  (47, 9, 4),
  (47, 10, 1792),
  (47, 11, 4),
  (48, 0, 3),
  (48, 1, 67),
  (48, 2, 3),
  (48, 3, 3),
  (48, 4, 65539),
  (48, 5, 1),
  (48, 6, 16),
  (49, 0, 3),
  (49, 1, 32),
  (49, 2, 229408),
  (49, 3, 491552),
  (49, 4, 229600),
  (49, 5, 229408),
  (49, 6, 229408),
  (49, 7, 16),
  (50, 0, 2),
  (50, 1, 4),
  (51, 0, 7),
  (51, 1, 7),
  (51, 2, 135),
  (51, 3, 65671),
  (51, 4, 64),
  (51, 5, 391),
  (51, 6, 4194695),
  (51, 7, 64),
  (51, 8, 2147484039),
  (51, 9, 647),
  (51, 10, 643),
  (51, 11, 512),
  (51, 12, 64),
  (51, 13, 391),
  (51, 14, 295147905179352826247),
  (51, 15, 7),
  (51, 16, 1),
  (51, 17, 64),
  (51, 18, 131),
  (51, 19, 1),
  (51, 20, 64),
  (52, 0, 5),
  (52, 1, 21),
  (52, 2, 1045),
  (52, 3, 12),
  (52, 4, 131093),
  (52, 5, 37),
  (52, 6, 8388645),
  (52, 7, 12),
  (52, 8, 12),
  (52, 9, 536870917),
  (52, 10, 12),
  (52, 11, 206158430213),
  (52, 12, 481036337157),
  (52, 13, 206158430341),
  (52, 14, 4604204941445),
  (52, 15, 12),
  (52, 16, 206158430213),
  (52, 17, 12),
  (53, 0, 3),
  (53, 1, 131),
  (53, 2, 3),
  (53, 3, 2097155),
  (53, 4, 0),
  (54, 0, 3),
  (54, 1, 3),
  (54, 2, 2),
  (54, 3, 48),
  (55, 0, 1),
  (55, 1, 4),
  (56, 0, 6),
  (56, 1, 8),
  (57, 0, 1),
  (57, 1, 9),
  (57, 2, 456),
  (57, 3, 968),
  (57, 4, 488),
  (57, 5, 16872),
  (57, 6, 4),
  (57, 7, 456),
  (57, 8, 4),
  (58, 0, 3),
  (58, 1, 35),
  (58, 2, 99),
  (58, 3, 2115),
  (58, 4, 4096),
  (58, 5, 16),
  (58, 6, 16),
  (58, 7, 8195),
  (58, 8, 16),
  (58, 9, 65539),
  (58, 10, 16),
  (58, 11, 524288),
  (58, 12, 16),
  (58, 13, 16),
  (59, 0, 2),
  (59, 1, 34),
  (59, 2, 4),
  (59, 3, 98),
  (59, 4, 10),
  (59, 5, 4106),
  (59, 6, 4),
  (59, 7, 16418),
  (59, 8, 8388610),
  (59, 9, 4),
  (59, 10, 16777250),
  (59, 11, 268435458),
  (59, 12, 4),
  (59, 13, 4),
  (59, 14, 4294967330),
  (59, 15, 68719476738),
  (59, 16, 4),
  (59, 17, 137438953474),
  (59, 18, 70368744177666),
  (59, 19, 4),
  (59, 20, 562949953421312),
  (59, 21, 4),
  (59, 22, 4),
  (61, 0, 0),
  (62, 0, 1),
  (62, 1, 4),
  (63, 0, 5),
  (63, 1, 53),
  (63, 2, 32821),
  (63, 3, 12),
  (63, 4, 393269),
  (63, 5, 917557),
  (63, 6, 393333),
  (63, 7, 393269),
  (63, 8, 1074135093),
  (63, 9, 12),
  (63, 10, 393269),
  (63, 11, 12),
  (64, 0, 1),
  (64, 1, 4),
  (65, 0, 3),
  (65, 1, 35),
  (65, 2, 65571),
  (65, 3, 35),
  (65, 4, 16),
  (66, 0, 1),
  (66, 1, 4),
  (67, 0, 5),
  (67, 1, 21),
  (67, 2, 53),
  (67, 3, 1077),
  (67, 4, 53),
  (67, 5, 117),
  (67, 6, 53),
  (67, 7, 1048693),
  (67, 8, 33554485),
  (67, 9, 12),
  (67, 10, 12),
  (67, 11, 34359738485),
  (67, 12, 53),
  (67, 13, 53),
  (67, 14, 147573952589676413045),
  (67, 15, 12),
  (67, 16, 12),
  (68, 0, 3),
  (68, 1, 16),
  (69, 0, 65),
  (69, 1, 0),
  (69, 2, 524288),
  (70, 0, 17),
  (70, 1, 17),
  (70, 2, 0),
  (71, 0, 1),
  (71, 1, 4),
  (72, 0, 1),
  (72, 1, 256),
  (72, 2, 4),
  (72, 3, 4),
  (73, 0, 1),
  (73, 1, 65),
  (73, 2, 4),
  (73, 3, 769),
  (73, 4, 1793),
  (73, 5, 777),
  (73, 6, 2097921),
  (73, 7, 4),
  (73, 8, 769),
  (73, 9, 4),
  (74, 0, 3),
  (74, 1, 1),
  (74, 2, 0),
  (75, 0, 3),
  (75, 1, 16),
  (78, 0, 13),
  (78, 1, 525),
  (78, 2, 13),
  (78, 3, 13)]
def cmpsL : List Nat := [27, 52, 54]
def ress : List (Nat × Nat) := [(48, 0), (42, 0)]
def opnsL : List Nat := [48, 42]
def mutsL : List (Nat × Nat) := [(22, 7), (22, 17), (22, 23), (22, 24), (23, 7), (23, 20), (23, 22), (23, 24), (23, 25), (23, 28), (23, 31), (23, 32), (23, 33), (43, 7), (43, 20), (43, 22), (43, 25), (43, 33), (43, 55), (43, 59), (43, 108), (43, 112)]
def rosL : List (Nat × Nat × String) := [(3, 3, "clock.go:15"), (27, 2, "clock.go:12"), (27, 2, "clock.go:16"), (27, 2, "mid.go:411"), (27, 3, "clock.go:12"), (27, 3, "clock.go:38"), (27, 4, "sort.go:152"), (47, 5, "mid.go:493"), (52, 5, "net.go:52")]
def thaws : List (Nat × Nat × Nat) := [(24, 14, 0), (24, 19, 0), (24, 21, 0), (40, 19, 0), (40, 24, 0), (40, 25, 0), (40, 39, 0), (45, 18, 0), (45, 21, 0), (45, 23, 0), (45, 26, 0), (45, 31, 0)]
def lendsL : List Nat := [45, 40, 24, 26, 17, 13, 47]
def altsL : List Nat := [45, 40, 24]

noncomputable def tab : Tab where
  fn := fun k => if goodF.contains k then Try.prog.funcs[k]? else none
  und := Try.prog.underlying
  inf := look infs
  keep := look2 keeps
  opn := fun f => opnsL.contains f
  res := look ress
  cmp := fun t => cmpsL.contains t
  drw := look2 drws
  lv := look2 lvs
  prim := fun _ => none
  mutA := fun t k => (mutsL.filter fun e => e.1 == t && e.2 == k).length != 0
  thaw := look2 thaws
  lend := fun f => lendsL.contains f
  ro := fun t k p => rosL.any fun e => e.1 == t && e.2.1 == k && e.2.2 == p
  alt := fun f => altsL.contains f

def fnGood (L : Nat → Option (List (List Nat))) : Option Func → Bool
  | some F => !(F.name == "runtime.NumGoroutine") && match F.body with
    | some c => dstsOk F.ntmps c && drawsOk L c
    | none => false
  | none => false
theorem allGood : (goodF.all fun k => fnGood (look2 drws k) Try.prog.funcs[k]?) = true := by kernel_rfl
def crepB : Value → AV → Bool
  | .int k n, .d (.int j m) => k == j && n == m
  | .bool b, .d (.bool c) => b == c
  | .string s, .d (.str l) => s.data.toList == l
  | .slice none 0 0, .own _ [] none => true
  | .nilFunc, .d .nilf => true
  | _, _ => false
theorem crepB_ok {v : Value} {x : AV} (h : crepB v x = true) : CRep v x := by
  unfold crepB at h
  split at h
  · simp only [Bool.and_eq_true, beq_iff_eq] at h
    obtain ⟨rfl, rfl⟩ := h
    exact .int _ _
  · simp only [beq_iff_eq] at h
    subst h
    exact .bool _
  · simp only [beq_iff_eq] at h
    subst h
    exact .str _
  · exact .nilsl _
  · exact .nilf
  · cases h
def crepsB : List Value → List AV → Bool
  | [], [] => true
  | v :: vs, x :: xs => crepB v x && crepsB vs xs
  | _, _ => false
theorem crepsB_ok : ∀ (vs : List Value) (xs : List AV), crepsB vs xs = true → vs.length = xs.length ∧ ∀ (j : Nat) y, xs[j]? = some y → ∃ u, vs[j]? = some u ∧ CRep u y
  | [], [], h => ⟨rfl, fun j y hy => by simp at hy⟩
  | v :: vs, x :: xs, h => by
    simp only [crepsB, Bool.and_eq_true] at h
    obtain ⟨h1, h2⟩ := crepsB_ok vs xs h.2
    refine ⟨by simp [h1], fun j y hy => ?_⟩
    cases j with
    | zero =>
      have : x = y := by simpa using hy
      subst this
      exact ⟨v, rfl, crepB_ok h.1⟩
    | succ j => exact h2 j y (by simpa using hy)
  | [], _ :: _, h => by simp [crepsB] at h
  | _ :: _, [], h => by simp [crepsB] at h
/-- A type's zero value is a struct's where the type is one. -/
def zagB (P : Program) (t : Nat) (v : Value) : Bool := match P.underlying t with
  | some (.struct _) | some (.array _ _) => !leafV v && (match v with | .agg _ => true | _ => false)
  | some _ => leafV v
  | none => true
def infGoodP (P : Program) (e : Nat × Nat × Nat × List AV) : Bool := match P.types[e.1]? with
  | some i => i.size == e.2.1 && i.bytes == e.2.2.1 && match i.zero with
    | some zv => zagB P e.1 zv && zv.cells.size == e.2.1 && crepsB zv.cells.toList e.2.2.2
    | none => false
  | none => false
theorem allInf : (infs.all (infGoodP Try.prog)) = true := by kernel_rfl
theorem look_mem {α : Type} : ∀ (l : List (Nat × α)) (k : Nat) (x : α), look l k = some x → (k, x) ∈ l
  | [], k, x, h => by simp [look] at h
  | (i, y) :: r, k, x, h => by
    simp only [look] at h
    split at h
    · rename_i hi
      injection h with h
      subst hi; subst h
      simp
    · exact List.mem_cons_of_mem _ (look_mem r k x h)

theorem tab_fn {k : Nat} {F : Func} (h1 : goodF.contains k = true) (h2 : Try.prog.funcs[k]? = some F) : tab.fn k = some F := by
  simp only [tab]
  rw [if_pos h1]
  exact h2
theorem tab_und (t : Nat) : tab.und t = Try.prog.underlying t := by simp only [tab]
theorem tab_inf0 (t : Nat) : tab.inf t = look infs t := by simp only [tab]
theorem tab_inf {t : Nat} {d : Option (Nat × Nat × List AV)} (h : look infs t = d) : tab.inf t = d := by
  simp only [tab]
  exact h
theorem tab_keep {f r : Nat} {d : Option (List Nat × List Nat)} (h : look2 keeps f r = d) : tab.keep f r = d := by
  simp only [tab]
  exact h
theorem tab_drw {f r : Nat} {d : Option (List (List Nat))} (h : look2 drws f r = d) : tab.drw f r = d := by
  simp only [tab]
  exact h
theorem tab_lv {f r : Nat} {d : Option Nat} (h : look2 lvs f r = d) : tab.lv f r = d := by
  simp only [tab]
  exact h
theorem tab_opn {f : Nat} {b : Bool} (h : opnsL.contains f = b) : tab.opn f = b := by
  simp only [tab]
  exact h
theorem tab_cmp {t : Nat} {b : Bool} (h : cmpsL.contains t = b) : tab.cmp t = b := by
  simp only [tab]
  exact h
theorem tab_mut {t k : Nat} {b : Bool} (h : ((mutsL.filter fun e => e.1 == t && e.2 == k).length != 0) = b) : tab.mutA t k = b := by
  simp only [tab]
  exact h
theorem tab_ro {t k : Nat} {p : String} {b : Bool} (h : (rosL.any fun e => e.1 == t && e.2.1 == k && e.2.2 == p) = b) : tab.ro t k p = b := by
  simp only [tab]
  exact h
theorem tab_thaw {f k : Nat} {d : Option Nat} (h : look2 thaws f k = d) : tab.thaw f k = d := by
  simp only [tab]
  exact h
theorem tab_lend {f : Nat} {b : Bool} (h : lendsL.contains f = b) : tab.lend f = b := by
  simp only [tab]
  exact h
theorem look2_none {α : Type} : ∀ (l : List (Nat × Nat × α)) (f k : Nat), (l.all fun e => e.1 != f) = true → look2 l f k = none
  | [], _, _, _ => rfl
  | (i, j, x) :: r, f, k, h => by
    simp only [List.all_cons, Bool.and_eq_true, bne_iff_ne] at h
    simp only [look2]
    rw [if_neg (fun e => h.1 e.1)]
    exact look2_none r f k h.2
/-- The call's answer is taken over deep. -/
def Plain (f : Nat) : Prop := tab.res f = none ∧ ∀ k, tab.thaw f k = none
theorem tab_res {f : Nat} (h : ((look ress f).isNone && (thaws.all fun e => e.1 != f)) = true) : Plain f := by
  simp only [Bool.and_eq_true, Option.isNone_iff_eq_none] at h
  exact ⟨by simp only [tab]; exact h.1, fun k => by simp only [tab]; exact look2_none _ _ _ h.2⟩
theorem isAlt_tab {f : Nat} {args : List AV} {H : Heap} (h : altsL.contains f = false) : isAlt tab f args H = false := by
  simp only [isAlt, tab, h, Bool.false_and]
theorem tab_alt {f : Nat} {b : Bool} (h : altsL.contains f = b) : tab.alt f = b := by
  simp only [tab]
  exact h
theorem tab_prim (f : Nat) : tab.prim f = none := by simp only [tab]

theorem info_of {P : Program} {t : Nat} {i : TypeInfo} (h : P.types[t]? = some i) : P.info? t = some i := by
  have : t < P.types.size := (Array.getElem?_eq_some_iff.1 h).1
  show Tables.info? P.toTables t = some i
  unfold Tables.info?
  rw [if_pos this]
  exact h
theorem infGood_ok {P : Program} {t n b : Nat} {z : List AV} (h1 : infGoodP P (t, n, b, z) = true) : ∃ i zv, P.info? t = some i ∧ i.size = n ∧ i.bytes = b ∧ i.zero = some zv ∧ zv.cells.size = n ∧ z.length = n ∧
    ∀ (j : Nat) y, z[j]? = some y → ∃ u, zv.cells[j]? = some u ∧ CRep u y := by
  unfold infGoodP at h1
  simp only at h1
  cases hi : P.types[t]? with
  | none => rw [hi] at h1; simp at h1
  | some i =>
    rw [hi] at h1
    simp only [Bool.and_eq_true, beq_iff_eq] at h1
    obtain ⟨⟨h2, h3⟩, h4⟩ := h1
    cases hz : i.zero with
    | none => rw [hz] at h4; simp at h4
    | some zv =>
      rw [hz] at h4
      simp only [Bool.and_eq_true, beq_iff_eq] at h4
      have h4 : zv.cells.size = n ∧ crepsB zv.cells.toList z = true := ⟨h4.1.2, h4.2⟩
      obtain ⟨h5, h6⟩ := crepsB_ok _ _ h4.2
      refine ⟨i, zv, info_of hi, h2, h3, hz, h4.1, by simp at h5; omega, fun j y hy => ?_⟩
      obtain ⟨u, h7, h8⟩ := h6 j y hy
      exact ⟨u, by simpa using h7, h8⟩
theorem zag_ok {P : Program} {t n b : Nat} {z : List AV} (h1 : infGoodP P (t, n, b, z) = true) {i : TypeInfo} {zv : Value} (hi : P.info? t = some i) (hz : i.zero = some zv) : zagB P t zv = true := by
  unfold infGoodP at h1
  simp only at h1
  cases hj : P.types[t]? with
  | none => rw [hj] at h1; simp at h1
  | some j =>
    have hij : j = i := by
      have := info_of hj
      rw [hi] at this
      injection this with this
      exact this.symm
    subst hij
    rw [hj] at h1
    simp only [Bool.and_eq_true, beq_iff_eq, hz] at h1
    exact h1.2.1.1
theorem inf_ok (t n b : Nat) (z : List AV) (h : look infs t = some (n, b, z)) : ∃ i zv, Try.prog.info? t = some i ∧ i.size = n ∧ i.bytes = b ∧ i.zero = some zv ∧ zv.cells.size = n ∧ z.length = n ∧
    ∀ (j : Nat) y, z[j]? = some y → ∃ u, zv.cells[j]? = some u ∧ CRep u y := by
  exact infGood_ok ((List.all_eq_true (l := infs) (p := infGoodP Try.prog)).1 allInf (t, n, b, z) (look_mem infs t (n, b, z) h))
theorem tab_zag (t n b : Nat) (z : List AV) (i : TypeInfo) (zv : Value) (h : tab.inf t = some (n, b, z)) (hi : Try.prog.info? t = some i) (hz : i.zero = some zv) (q : Bool) (hq : isAgg tab t = some q) :
    (q = true → ∃ cs, zv = .agg cs) ∧ (q = false → leafV zv = true) := by
  have h1 := zag_ok ((List.all_eq_true (l := infs) (p := infGoodP Try.prog)).1 allInf (t, n, b, z) (look_mem infs t (n, b, z) ((tab_inf0 t).symm.trans h))) hi hz
  unfold zagB at h1
  unfold isAgg at hq
  rw [tab_und t] at hq
  cases hd : Try.prog.underlying t with
  | none => rw [hd] at hq; cases hq
  | some d =>
    rw [hd] at h1 hq
    cases d <;> simp only [Option.some.injEq] at hq h1 <;> subst hq <;> refine ⟨fun h => ?_, fun h => ?_⟩ <;> first
      | exact h1
      | (cases h; done)
      | (simp only [Bool.and_eq_true] at h1; cases zv <;> first | exact ⟨_, rfl⟩ | simp at h1)
theorem tab_ok : tab.Ok Try.prog where
  fn := fun f F h => by
    simp only [tab] at h
    split at h
    · rename_i hg
      have h1 := List.all_eq_true.1 allGood f (by simpa using hg)
      rw [h] at h1
      simp only [fnGood, Bool.and_eq_true, Bool.not_eq_true'] at h1
      cases hb : F.body with
      | none => rw [hb] at h1; simp at h1
      | some c =>
        rw [hb] at h1
        simp only [Bool.and_eq_true] at h1
        exact ⟨h, h1.1, c, rfl, h1.2.1⟩
    · cases h
  und := fun t d h => (tab_und t).symm.trans h
  inf := fun t n b z h => inf_ok t n b z ((tab_inf0 t).symm.trans h)
  mix := by kernel_rfl
  zag := tab_zag
  drw := fun f F c h hb => by
    simp only [tab] at h
    split at h
    · rename_i hg
      have h1 := List.all_eq_true.1 allGood f (by simpa using hg)
      rw [h] at h1
      simp only [fnGood, Bool.and_eq_true, hb] at h1
      exact h1.2.2
    · cases h
  cmp := fun t h => by
    have h1 : (cmpsL.all fun t => !Try.prog.stoodInHeld t && !Try.prog.eqGuardType Try.prog.depth t) = true := by kernel_rfl
    have h2 := List.all_eq_true.1 h1 t (by simpa [tab] using h)
    simpa using h2
theorem prim_ok : PrimOk Try.prog tab := fun f p h => by simp [tab] at h

theorem fn3 : tab.fn 3 = some Try.f3 := tab_fn (by kernel_rfl) Try.func3
theorem fn4 : tab.fn 4 = some Try.f4 := tab_fn (by kernel_rfl) Try.func4
theorem fn5 : tab.fn 5 = some Try.f5 := tab_fn (by kernel_rfl) Try.func5
theorem fn6 : tab.fn 6 = some Try.f6 := tab_fn (by kernel_rfl) Try.func6
theorem fn7 : tab.fn 7 = some Try.f7 := tab_fn (by kernel_rfl) Try.func7
theorem fn8 : tab.fn 8 = some Try.f8 := tab_fn (by kernel_rfl) Try.func8
theorem fn9 : tab.fn 9 = some Try.f9 := tab_fn (by kernel_rfl) Try.func9
theorem fn10 : tab.fn 10 = some Try.f10 := tab_fn (by kernel_rfl) Try.func10
theorem fn11 : tab.fn 11 = some Try.f11 := tab_fn (by kernel_rfl) Try.func11
theorem fn12 : tab.fn 12 = some Try.f12 := tab_fn (by kernel_rfl) Try.func12
theorem fn13 : tab.fn 13 = some Try.f13 := tab_fn (by kernel_rfl) Try.func13
theorem fn14 : tab.fn 14 = some Try.f14 := tab_fn (by kernel_rfl) Try.func14
theorem fn15 : tab.fn 15 = some Try.f15 := tab_fn (by kernel_rfl) Try.func15
theorem fn16 : tab.fn 16 = some Try.f16 := tab_fn (by kernel_rfl) Try.func16
theorem fn17 : tab.fn 17 = some Try.f17 := tab_fn (by kernel_rfl) Try.func17
theorem fn18 : tab.fn 18 = some Try.f18 := tab_fn (by kernel_rfl) Try.func18
theorem fn19 : tab.fn 19 = some Try.f19 := tab_fn (by kernel_rfl) Try.func19
theorem fn20 : tab.fn 20 = some Try.f20 := tab_fn (by kernel_rfl) Try.func20
theorem fn21 : tab.fn 21 = some Try.f21 := tab_fn (by kernel_rfl) Try.func21
theorem fn22 : tab.fn 22 = some Try.f22 := tab_fn (by kernel_rfl) Try.func22
theorem fn23 : tab.fn 23 = some Try.f23 := tab_fn (by kernel_rfl) Try.func23
theorem fn24 : tab.fn 24 = some Try.f24 := tab_fn (by kernel_rfl) Try.func24
theorem fn25 : tab.fn 25 = some Try.f25 := tab_fn (by kernel_rfl) Try.func25
theorem fn26 : tab.fn 26 = some Try.f26 := tab_fn (by kernel_rfl) Try.func26
theorem fn27 : tab.fn 27 = some Try.f27 := tab_fn (by kernel_rfl) Try.func27
theorem fn28 : tab.fn 28 = some Try.f28 := tab_fn (by kernel_rfl) Try.func28
theorem fn29 : tab.fn 29 = some Try.f29 := tab_fn (by kernel_rfl) Try.func29
theorem fn30 : tab.fn 30 = some Try.f30 := tab_fn (by kernel_rfl) Try.func30
theorem fn31 : tab.fn 31 = some Try.f31 := tab_fn (by kernel_rfl) Try.func31
theorem fn32 : tab.fn 32 = some Try.f32 := tab_fn (by kernel_rfl) Try.func32
theorem fn33 : tab.fn 33 = some Try.f33 := tab_fn (by kernel_rfl) Try.func33
theorem fn34 : tab.fn 34 = some Try.f34 := tab_fn (by kernel_rfl) Try.func34
theorem fn35 : tab.fn 35 = some Try.f35 := tab_fn (by kernel_rfl) Try.func35
theorem fn36 : tab.fn 36 = some Try.f36 := tab_fn (by kernel_rfl) Try.func36
theorem fn37 : tab.fn 37 = some Try.f37 := tab_fn (by kernel_rfl) Try.func37
theorem fn38 : tab.fn 38 = some Try.f38 := tab_fn (by kernel_rfl) Try.func38
theorem fn39 : tab.fn 39 = some Try.f39 := tab_fn (by kernel_rfl) Try.func39
theorem fn40 : tab.fn 40 = some Try.f40 := tab_fn (by kernel_rfl) Try.func40
theorem fn41 : tab.fn 41 = some Try.f41 := tab_fn (by kernel_rfl) Try.func41
theorem fn42 : tab.fn 42 = some Try.f42 := tab_fn (by kernel_rfl) Try.func42
theorem fn43 : tab.fn 43 = some Try.f43 := tab_fn (by kernel_rfl) Try.func43
theorem fn44 : tab.fn 44 = some Try.f44 := tab_fn (by kernel_rfl) Try.func44
theorem fn45 : tab.fn 45 = some Try.f45 := tab_fn (by kernel_rfl) Try.func45
theorem fn46 : tab.fn 46 = some Try.f46 := tab_fn (by kernel_rfl) Try.func46
theorem fn47 : tab.fn 47 = some Try.f47 := tab_fn (by kernel_rfl) Try.func47
theorem fn48 : tab.fn 48 = some Try.f48 := tab_fn (by kernel_rfl) Try.func48
theorem fn49 : tab.fn 49 = some Try.f49 := tab_fn (by kernel_rfl) Try.func49
theorem fn50 : tab.fn 50 = some Try.f50 := tab_fn (by kernel_rfl) Try.func50
theorem fn51 : tab.fn 51 = some Try.f51 := tab_fn (by kernel_rfl) Try.func51
theorem fn52 : tab.fn 52 = some Try.f52 := tab_fn (by kernel_rfl) Try.func52
theorem fn53 : tab.fn 53 = some Try.f53 := tab_fn (by kernel_rfl) Try.func53
theorem fn54 : tab.fn 54 = some Try.f54 := tab_fn (by kernel_rfl) Try.func54
theorem fn55 : tab.fn 55 = some Try.f55 := tab_fn (by kernel_rfl) Try.func55
theorem fn56 : tab.fn 56 = some Try.f56 := tab_fn (by kernel_rfl) Try.func56
theorem fn57 : tab.fn 57 = some Try.f57 := tab_fn (by kernel_rfl) Try.func57
theorem fn58 : tab.fn 58 = some Try.f58 := tab_fn (by kernel_rfl) Try.func58
theorem fn59 : tab.fn 59 = some Try.f59 := tab_fn (by kernel_rfl) Try.func59
theorem fn61 : tab.fn 61 = some Try.f61 := tab_fn (by kernel_rfl) Try.func61
theorem fn62 : tab.fn 62 = some Try.f62 := tab_fn (by kernel_rfl) Try.func62
theorem fn63 : tab.fn 63 = some Try.f63 := tab_fn (by kernel_rfl) Try.func63
theorem fn64 : tab.fn 64 = some Try.f64 := tab_fn (by kernel_rfl) Try.func64
theorem fn65 : tab.fn 65 = some Try.f65 := tab_fn (by kernel_rfl) Try.func65
theorem fn66 : tab.fn 66 = some Try.f66 := tab_fn (by kernel_rfl) Try.func66
theorem fn67 : tab.fn 67 = some Try.f67 := tab_fn (by kernel_rfl) Try.func67
theorem fn68 : tab.fn 68 = some Try.f68 := tab_fn (by kernel_rfl) Try.func68
theorem fn69 : tab.fn 69 = some Try.f69 := tab_fn (by kernel_rfl) Try.func69
theorem fn70 : tab.fn 70 = some Try.f70 := tab_fn (by kernel_rfl) Try.func70
theorem fn71 : tab.fn 71 = some Try.f71 := tab_fn (by kernel_rfl) Try.func71
theorem fn72 : tab.fn 72 = some Try.f72 := tab_fn (by kernel_rfl) Try.func72
theorem fn73 : tab.fn 73 = some Try.f73 := tab_fn (by kernel_rfl) Try.func73
theorem fn74 : tab.fn 74 = some Try.f74 := tab_fn (by kernel_rfl) Try.func74
theorem fn75 : tab.fn 75 = some Try.f75 := tab_fn (by kernel_rfl) Try.func75
theorem fn78 : tab.fn 78 = some Try.f78 := tab_fn (by kernel_rfl) Try.func78
theorem inf1 : tab.inf 1 = some (1, 8, [.d .nilf]) := tab_inf (by kernel_rfl)
theorem inf2 : tab.inf 2 = some (1, 8, [.d (.int .i64 0)]) := tab_inf (by kernel_rfl)
theorem inf3 : tab.inf 3 = some (1, 8, [.d (.int .i64 0)]) := tab_inf (by kernel_rfl)
theorem inf4 : tab.inf 4 = some (1, 1, [.d (.bool false)]) := tab_inf (by kernel_rfl)
theorem inf5 : tab.inf 5 = some (1, 1, [.d (.int .u8 0)]) := tab_inf (by kernel_rfl)
theorem inf6 : tab.inf 6 = some (1, 1, [.d (.int .u8 0)]) := tab_inf (by kernel_rfl)
theorem inf7 : tab.inf 7 = some (4, 24, [.d (.int .i64 0), .d (.int .i64 0), .d (.bool false), .d (.int .u8 0)]) := tab_inf (by kernel_rfl)
theorem inf8 : tab.inf 8 = some (4, 24, [.d (.int .i64 0), .d (.int .i64 0), .d (.bool false), .d (.int .u8 0)]) := tab_inf (by kernel_rfl)
theorem inf9 : tab.inf 9 = some (1, 16, [.d (.str [])]) := tab_inf (by kernel_rfl)
theorem inf10 : tab.inf 10 = some (1, 16, [.d (.str [])]) := tab_inf (by kernel_rfl)
theorem inf11 : tab.inf 11 = some (1, 16, [.d (.str [])]) := tab_inf (by kernel_rfl)
theorem inf12 : tab.inf 12 = some (1, 8, [.d (.int .u64 0)]) := tab_inf (by kernel_rfl)
theorem inf13 : tab.inf 13 = some (2, 24, [.d (.str []), .d (.int .u64 0)]) := tab_inf (by kernel_rfl)
theorem inf14 : tab.inf 14 = some (2, 24, [.d (.str []), .d (.int .u64 0)]) := tab_inf (by kernel_rfl)
theorem inf21 : tab.inf 21 = some (1, 4, [.d (.int .i32 0)]) := tab_inf (by kernel_rfl)
theorem inf22 : tab.inf 22 = some (1, 24, [.own 4 [] none]) := tab_inf (by kernel_rfl)
theorem inf23 : tab.inf 23 = some (1, 24, [.own 2 [] none]) := tab_inf (by kernel_rfl)
theorem inf25 : tab.inf 25 = some (1, 8, [.d .nilf]) := tab_inf (by kernel_rfl)
theorem inf26 : tab.inf 26 = some (2, 16, [.d (.int .i64 0), .d (.int .i64 0)]) := tab_inf (by kernel_rfl)
theorem inf27 : tab.inf 27 = some (2, 16, [.d (.int .i64 0), .d (.int .i64 0)]) := tab_inf (by kernel_rfl)
theorem inf28 : tab.inf 28 = some (1, 8, [.d (.int .i64 0)]) := tab_inf (by kernel_rfl)
theorem inf29 : tab.inf 29 = some (1, 8, [.d .nilf]) := tab_inf (by kernel_rfl)
theorem inf30 : tab.inf 30 = some (1, 8, [.d .nilf]) := tab_inf (by kernel_rfl)
theorem inf32 : tab.inf 32 = some (1, 8, [.d .nilf]) := tab_inf (by kernel_rfl)
theorem inf33 : tab.inf 33 = some (1, 8, [.d .nilf]) := tab_inf (by kernel_rfl)
theorem inf34 : tab.inf 34 = some (1, 8, [.d .nilf]) := tab_inf (by kernel_rfl)
theorem inf35 : tab.inf 35 = some (1, 8, [.d .nilf]) := tab_inf (by kernel_rfl)
theorem inf36 : tab.inf 36 = some (1, 8, [.d .nilf]) := tab_inf (by kernel_rfl)
theorem inf38 : tab.inf 38 = some (1, 8, [.d .nilf]) := tab_inf (by kernel_rfl)
theorem inf39 : tab.inf 39 = some (1, 8, [.d .nilf]) := tab_inf (by kernel_rfl)
theorem inf40 : tab.inf 40 = some (1, 8, [.d .nilf]) := tab_inf (by kernel_rfl)
theorem inf41 : tab.inf 41 = some (1, 8, [.d .nilf]) := tab_inf (by kernel_rfl)
theorem inf42 : tab.inf 42 = some (1, 8, [.d .nilf]) := tab_inf (by kernel_rfl)
theorem inf43 : tab.inf 43 = some (1, 24, [.own 8 [] none]) := tab_inf (by kernel_rfl)
theorem inf44 : tab.inf 44 = some (1, 8, [.d .nilf]) := tab_inf (by kernel_rfl)
theorem inf45 : tab.inf 45 = some (1, 8, [.d .nilf]) := tab_inf (by kernel_rfl)
theorem inf46 : tab.inf 46 = some (4, 40, [.d (.int .i64 0), .d (.int .i64 0), .d (.int .i64 0), .d (.str [])]) := tab_inf (by kernel_rfl)
theorem inf47 : tab.inf 47 = some (4, 40, [.d (.int .i64 0), .d (.int .i64 0), .d (.int .i64 0), .d (.str [])]) := tab_inf (by kernel_rfl)
theorem inf49 : tab.inf 49 = some (1, 8, [.d .nilf]) := tab_inf (by kernel_rfl)
theorem inf50 : tab.inf 50 = some (1, 8, [.d .nilf]) := tab_inf (by kernel_rfl)
theorem inf51 : tab.inf 51 = some (3, 32, [.d (.int .i64 0), .d (.int .i64 0), .d (.str [])]) := tab_inf (by kernel_rfl)
theorem inf52 : tab.inf 52 = some (3, 32, [.d (.int .i64 0), .d (.int .i64 0), .d (.str [])]) := tab_inf (by kernel_rfl)
theorem inf53 : tab.inf 53 = some (8, 88, [.d (.str []), .d (.int .i64 0), .d (.int .i64 0), .d (.int .i64 0), .d (.str []), .d (.int .i64 0), .d (.int .i64 0), .d (.str [])]) := tab_inf (by kernel_rfl)
theorem inf54 : tab.inf 54 = some (8, 88, [.d (.str []), .d (.int .i64 0), .d (.int .i64 0), .d (.int .i64 0), .d (.str []), .d (.int .i64 0), .d (.int .i64 0), .d (.str [])]) := tab_inf (by kernel_rfl)
theorem inf55 : tab.inf 55 = some (1, 8, [.d .nilf]) := tab_inf (by kernel_rfl)
theorem inf56 : tab.inf 56 = some (1, 8, [.d .nilf]) := tab_inf (by kernel_rfl)
theorem inf57 : tab.inf 57 = some (1, 8, [.d .nilf]) := tab_inf (by kernel_rfl)
theorem inf58 : tab.inf 58 = some (1, 8, [.d .nilf]) := tab_inf (by kernel_rfl)
theorem inf60 : tab.inf 60 = some (1, 8, [.d .nilf]) := tab_inf (by kernel_rfl)
theorem inf61 : tab.inf 61 = some (1, 8, [.d .nilf]) := tab_inf (by kernel_rfl)
theorem inf62 : tab.inf 62 = some (1, 8, [.d .nilf]) := tab_inf (by kernel_rfl)
theorem inf63 : tab.inf 63 = some (1, 24, [.own 6 [] none]) := tab_inf (by kernel_rfl)
theorem inf65 : tab.inf 65 = some (1, 8, [.d .nilf]) := tab_inf (by kernel_rfl)
theorem inf66 : tab.inf 66 = some (1, 24, [.own 1 [] none]) := tab_inf (by kernel_rfl)
theorem inf67 : tab.inf 67 = some (6, 64, [.d (.int .i64 0), .d (.int .i64 0), .d (.str []), .d (.int .i64 0), .d (.int .i64 0), .d (.str [])]) := tab_inf (by kernel_rfl)
theorem inf68 : tab.inf 68 = some (6, 64, [.d (.int .i64 0), .d (.int .i64 0), .d (.str []), .d (.int .i64 0), .d (.int .i64 0), .d (.str [])]) := tab_inf (by kernel_rfl)
theorem inf69 : tab.inf 69 = some (1, 8, [.d .nilf]) := tab_inf (by kernel_rfl)
theorem inf70 : tab.inf 70 = some (1, 8, [.d .nilf]) := tab_inf (by kernel_rfl)
theorem inf71 : tab.inf 71 = some (1, 8, [.d .nilf]) := tab_inf (by kernel_rfl)
theorem inf72 : tab.inf 72 = some (1, 8, [.d .nilf]) := tab_inf (by kernel_rfl)
theorem inf73 : tab.inf 73 = some (1, 8, [.d .nilf]) := tab_inf (by kernel_rfl)
theorem inf74 : tab.inf 74 = some (1, 8, [.d .nilf]) := tab_inf (by kernel_rfl)
theorem inf76 : tab.inf 76 = some (1, 8, [.d .nilf]) := tab_inf (by kernel_rfl)
theorem inf77 : tab.inf 77 = some (1, 8, [.d .nilf]) := tab_inf (by kernel_rfl)
theorem inf78 : tab.inf 78 = some (1, 8, [.d .nilf]) := tab_inf (by kernel_rfl)
theorem inf79 : tab.inf 79 = some (1, 24, [.own 1 [] none]) := tab_inf (by kernel_rfl)
theorem inf80 : tab.inf 80 = some (1, 8, [.d .nilf]) := tab_inf (by kernel_rfl)
theorem inf81 : tab.inf 81 = some (1, 8, [.d .nilf]) := tab_inf (by kernel_rfl)
theorem inf83 : tab.inf 83 = some (1, 8, [.d .nilf]) := tab_inf (by kernel_rfl)
theorem inf84 : tab.inf 84 = some (1, 8, [.d .nilf]) := tab_inf (by kernel_rfl)
theorem inf85 : tab.inf 85 = some (1, 8, [.d .nilf]) := tab_inf (by kernel_rfl)
theorem inf86 : tab.inf 86 = some (2, 48, [.own 8 [] none, .own 8 [] none]) := tab_inf (by kernel_rfl)
theorem inf87 : tab.inf 87 = some (1, 8, [.d .nilf]) := tab_inf (by kernel_rfl)
theorem inf88 : tab.inf 88 = some (1, 24, [.own 1 [] none]) := tab_inf (by kernel_rfl)
theorem inf89 : tab.inf 89 = some (1, 8, [.d .nilf]) := tab_inf (by kernel_rfl)
theorem inf90 : tab.inf 90 = some (1, 8, [.d .nilf]) := tab_inf (by kernel_rfl)
theorem inf91 : tab.inf 91 = some (1, 8, [.d .nilf]) := tab_inf (by kernel_rfl)
theorem inf92 : tab.inf 92 = some (1, 8, [.d .nilf]) := tab_inf (by kernel_rfl)
theorem inf94 : tab.inf 94 = some (1, 8, [.d .nilf]) := tab_inf (by kernel_rfl)
theorem inf96 : tab.inf 96 = some (1, 24, [.own 1 [] none]) := tab_inf (by kernel_rfl)
theorem inf99 : tab.inf 99 = some (1, 8, [.d .nilf]) := tab_inf (by kernel_rfl)
theorem inf103 : tab.inf 103 = some (1, 8, [.d .nilf]) := tab_inf (by kernel_rfl)
theorem inf104 : tab.inf 104 = some (1, 8, [.d .nilf]) := tab_inf (by kernel_rfl)
theorem inf105 : tab.inf 105 = some (1, 8, [.d .nilf]) := tab_inf (by kernel_rfl)
theorem inf106 : tab.inf 106 = some (1, 8, [.d (.int .u64 0)]) := tab_inf (by kernel_rfl)
theorem inf107 : tab.inf 107 = some (1, 8, [.d .nilf]) := tab_inf (by kernel_rfl)
theorem inf108 : tab.inf 108 = some (1, 8, [.d .nilf]) := tab_inf (by kernel_rfl)
theorem inf109 : tab.inf 109 = some (1, 8, [.d .nilf]) := tab_inf (by kernel_rfl)
theorem inf110 : tab.inf 110 = some (1, 8, [.d .nilf]) := tab_inf (by kernel_rfl)
theorem inf111 : tab.inf 111 = some (13, 208, [.d (.str []), .d (.str []), .d (.str []), .d (.str []), .d (.str []), .d (.str []), .d (.str []), .d (.str []), .d (.str []), .d (.str []), .d (.str []), .d (.str []), .d (.str [])]) := tab_inf (by kernel_rfl)
theorem inf112 : tab.inf 112 = some (1, 8, [.d .nilf]) := tab_inf (by kernel_rfl)
theorem inf114 : tab.inf 114 = some (1, 24, [.own 1 [] none]) := tab_inf (by kernel_rfl)
theorem inf115 : tab.inf 115 = some (1, 8, [.d .nilf]) := tab_inf (by kernel_rfl)
theorem inf116 : tab.inf 116 = some (1, 8, [.d .nilf]) := tab_inf (by kernel_rfl)
theorem inf117 : tab.inf 117 = some (1, 8, [.d .nilf]) := tab_inf (by kernel_rfl)
theorem inf119 : tab.inf 119 = some (1, 8, [.d .nilf]) := tab_inf (by kernel_rfl)
theorem inf120 : tab.inf 120 = some (1, 8, [.d .nilf]) := tab_inf (by kernel_rfl)
theorem inf121 : tab.inf 121 = some (1, 8, [.d .nilf]) := tab_inf (by kernel_rfl)
theorem inf127 : tab.inf 127 = some (1, 8, [.d .nilf]) := tab_inf (by kernel_rfl)
theorem inf128 : tab.inf 128 = some (1, 4, [.d (.int .u32 0)]) := tab_inf (by kernel_rfl)
theorem inf129 : tab.inf 129 = some (1, 1, [.d (.int .u8 0)]) := tab_inf (by kernel_rfl)
theorem inf130 : tab.inf 130 = some (1, 1, [.d (.int .u8 0)]) := tab_inf (by kernel_rfl)
theorem inf131 : tab.inf 131 = some (1, 8, [.d .nilf]) := tab_inf (by kernel_rfl)
theorem inf132 : tab.inf 132 = some (1, 4, [.d (.int .i32 0)]) := tab_inf (by kernel_rfl)
theorem inf133 : tab.inf 133 = some (1, 4, [.d (.int .i32 0)]) := tab_inf (by kernel_rfl)
end Go.Proofs.Ytghjhlngaigdiaa.Am
