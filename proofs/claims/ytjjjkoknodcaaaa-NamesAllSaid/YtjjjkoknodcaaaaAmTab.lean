/- The evaluator's table for this program: functions, types, and what is kept at a loop's head. Printed by gentab.py. -/
import Derived.Test.YtjjjkoknodcaaaaAmLim
import Derived.Test.YtjjjkoknodcaaaaProg
import Derived.Test.YtjjjkoknodcaaaaPrm
set_option linter.unusedVariables false
set_option linter.unusedSimpArgs false
namespace Go.Proofs.Ytjjjkoknodcaaaa.Am
open Go Go.RowKit

def look {α : Type} : List (Nat × α) → Nat → Option α
  | [], _ => none
  | (i, x) :: r, k => if i = k then some x else look r k
def look2 {α : Type} : List (Nat × Nat × α) → Nat → Nat → Option α
  | [], _, _ => none
  | (i, j, x) :: r, k, m => if i = k ∧ j = m then some x else look2 r k m

def goodF : List Nat := [3, 4, 5, 6, 7, 8, 9, 10, 11, 12, 13, 14, 15, 16, 17, 18, 19, 20, 21, 22, 23, 24, 25, 26, 27, 28, 29, 30, 31, 32, 33, 34, 35, 36, 37, 38, 39, 40, 41, 42, 43, 44, 47, 48, 49, 50, 51, 52, 53, 54, 55, 56, 57, 58, 59, 60, 61, 62, 63, 64, 65, 66, 67, 71, 72, 73, 74, 75, 76, 77, 78, 79, 80, 81, 82, 83, 87, 88, 89, 90, 91, 92, 93, 94, 95, 106, 107, 108, 109, 110, 111, 112, 113, 114, 115, 121]
def infs : List (Nat × Nat × Nat × List AV) := [(1, 1, 8, [.d .nilf]),
  (2, 1, 8, [.d (.int .i64 0)]),
  (3, 1, 8, [.d (.int .i64 0)]),
  (4, 1, 1, [.d (.bool false)]),
  (5, 1, 1, [.d (.int .u8 0)]),
  (6, 1, 1, [.d (.int .u8 0)]),
  (9, 1, 16, [.d (.str [])]),
  (22, 1, 24, [.own 4 [] none]),
  (24, 3, 32, [.d (.int .i64 0), .d (.int .i64 0), .d (.str [])]),
  (25, 1, 24, [.own 6 [] none]),
  (27, 6, 80, [.d (.int .i64 0), .d (.int .i64 0), .d (.int .i64 0), .d (.str []), .d (.str []), .own 6 [] none]),
  (29, 1, 8, [.d .nilf]),
  (30, 1, 24, [.own 9 [] none]),
  (34, 1, 8, [.d (.int .i64 0)]),
  (39, 1, 8, [.d .nilf]),
  (42, 1, 24, [.own 1 [] none]),
  (49, 9, 112, [.d (.str []), .d (.int .i64 0), .d (.int .i64 0), .d (.int .i64 0), .d (.int .i64 0), .d (.int .i64 0), .d (.str []), .d (.str []), .own 6 [] none]),
  (56, 1, 24, [.own 7 [] none]),
  (65, 7, 80, [.d (.str []), .d (.int .i64 0), .d (.int .i64 0), .d (.str []), .d (.int .i64 0), .d (.int .i64 0), .d (.str [])]),
  (66, 1, 8, [.d .nilf]),
  (67, 1, 24, [.own 1 [] none]),
  (71, 1, 8, [.d .any]),
  (73, 2, 32, [.own 4 [] none, .d (.int .i64 0)]),
  (75, 12, 160, [.d (.int .i64 0), .d (.int .i64 0), .d (.int .i64 0), .d (.str []), .d (.str []), .own 6 [] none, .d (.int .i64 0), .d (.int .i64 0), .d (.int .i64 0), .d (.str []), .d (.str []), .own 6 [] none]),
  (79, 1, 8, [.d .nilf]),
  (80, 1, 8, [.d .nilf]),
  (99, 4, 40, [.d (.int .i64 0), .d (.int .i64 0), .d (.int .i64 0), .d (.str [])]),
  (103, 1, 8, [.d .nilf]),
  (104, 1, 8, [.d .nilf]),
  (106, 1, 8, [.d .nilf]),
  (108, 1, 8, [.d .nilf]),
  (112, 2, 32, [.own 1 [] none, .d (.int .i64 0)]),
  (115, 1, 8, [.d .nilf]),
  (116, 1, 8, [.d .nilf]),
  (121, 1, 24, [.own 3 [] none]),
  (129, 3, 32, [.d (.str []), .d (.int .i64 0), .d (.int .i64 0)]),
  (130, 57, 608, [.d (.str []), .d (.int .i64 0), .d (.int .i64 0), .d (.str []), .d (.int .i64 0), .d (.int .i64 0), .d (.str []), .d (.int .i64 0), .d (.int .i64 0), .d (.str []), .d (.int .i64 0), .d (.int .i64 0), .d (.str []), .d (.int .i64 0), .d (.int .i64 0), .d (.str []), .d (.int .i64 0), .d (.int .i64 0), .d (.str []), .d (.int .i64 0), .d (.int .i64 0), .d (.str []), .d (.int .i64 0), .d (.int .i64 0), .d (.str []), .d (.int .i64 0), .d (.int .i64 0), .d (.str []), .d (.int .i64 0), .d (.int .i64 0), .d (.str []), .d (.int .i64 0), .d (.int .i64 0), .d (.str []), .d (.int .i64 0), .d (.int .i64 0), .d (.str []), .d (.int .i64 0), .d (.int .i64 0), .d (.str []), .d (.int .i64 0), .d (.int .i64 0), .d (.str []), .d (.int .i64 0), .d (.int .i64 0), .d (.str []), .d (.int .i64 0), .d (.int .i64 0), .d (.str []), .d (.int .i64 0), .d (.int .i64 0), .d (.str []), .d (.int .i64 0), .d (.int .i64 0), .d (.str []), .d (.int .i64 0), .d (.int .i64 0)]),
  (136, 1, 8, [.d .nilf]),
  (140, 1, 8, [.d .nilf]),
  (142, 1, 24, [.own 1 [] none])]
def keeps : List (Nat × Nat × List Nat × List Nat) := [(3, 5, [5, 6, 7, 8, 9, 26, 27, 28], [5, 18, 19, 22, 27, 34, 42, 59]),
  (5, 7, [5, 6, 54, 55, 56], [5, 16, 17, 20, 42, 47, 48, 49, 51, 54, 55, 63, 67]),
  (6, 4, [5, 6, 14], [5, 12, 13, 18, 20]),
  (13, 4, [9, 10, 11, 30, 31], [9, 13, 15, 23, 24, 26, 28, 30, 40, 52, 58]),
  (18, 3, [4, 5, 11, 12, 13], [1, 12, 19, 27]),
  (20, 2, [1, 3, 5, 6, 16, 17], [3, 5, 6, 12, 21, 28, 36, 38]),
  (24, 4, [0, 1, 12, 13], [7, 9, 12]),
  (25, 2, [0, 3], [5, 20]),
  (26, 9, [0, 3, 4, 5], [7, 12, 31]),
  (26, 4, [0, 3], [7, 12, 31]),
  (32, 4, [3, 4, 10, 11, 12], [9, 10, 11, 22, 23, 26]),
  (40, 5, [13, 14, 15], [1, 8, 14, 20]),
  (42, 6, [1, 5, 6, 7, 24, 25, 26], [3, 5, 6, 7, 20, 25, 35, 37]),
  (43, 4, [1, 2, 15, 16, 17], [11, 13, 16, 29]),
  (48, 2, [0, 1, 7, 8], [7]),
  (49, 11, [1, 2, 3, 10, 37, 38, 39], [3, 15, 38, 47, 56, 71]),
  (52, 3, [4, 11, 12, 13], [10, 12, 19]),
  (57, 4, [1, 6, 7, 8, 13, 14, 15], [6, 7, 12, 14, 27, 30, 35, 40, 45, 46]),
  (58, 3, [2, 3, 4, 7, 8, 13, 14, 15], [7, 8, 14, 26, 28]),
  (61, 2, [0, 1, 5], [8, 15]),
  (65, 4, [2, 3, 9, 10, 11], [1, 2, 3, 10, 18, 20]),
  (67, 4, [2, 18, 19, 20], [3, 14, 19, 26]),
  (72, 4, [0, 1, 12, 13], [7, 9, 12]),
  (77, 4, [0, 5, 6, 7, 11, 12, 13], [5, 7, 12, 19, 31]),
  (79, 3, [5, 15, 16, 17], [10, 12, 14, 16, 30]),
  (81, 4, [0, 8, 9], [5, 8]),
  (87, 1, [0, 1, 3], [5, 17]),
  (90, 2, [1, 7, 8, 9], [8]),
  (106, 3, [3, 6, 7, 8], [7])]
def drws : List (Nat × Nat × List (List Nat)) := [(4, 9, [[], [], [], [], [], [], [], [], [], [], [], [], [], [], [], [], [], [], [17], [], [], [], [], [], [], [], [], [], []]),
  (5, 9, [[], [], [], [], [], [3], [3], [], []]),
  (6, 6, [[], [0], [], [], []]),
  (7, 3, [[], [0], [], [], [], [], [], []]),
  (7, 4, [[], [], [0], [0], [], [], [], [], [0, 2, 3, 4], [], []]),
  (7, 7, [[], [0], [], [], [], [], [], []]),
  (8, 3, [[], [], [0], [], [], [], [], [0, 2, 3], [], []]),
  (8, 4, [[], [0], [], [], [], [], [], [6], [], [], [], [], [], [], [], [], [], []]),
  (9, 3, [[], [0], [0], [], [], [], [], [], [], [], [0, 1, 2, 4, 6], [], []]),
  (9, 4, [[], [0], [0], [], [], [], [], [], [], [], [0, 1, 2, 4, 6], [], []]),
  (9, 6, [[], [0], [], [], [], [], [], [], [], [0, 1, 3, 5], [], []]),
  (9, 7, [[], [0], [], [], [], [], [], [], [], [0, 1, 3, 5], [], []]),
  (9, 8, [[], [], [], [], [], [], [], [], [], [], [], [], [], [], [], [], [], [], [], [], [], [], [], [], [], [], [], [], [], [], [], [], [], [], [], [34], [], [], [], [], [], [40], [], [], [], []]),
  (10, 4, [[], [], [], [2], [], [], [], [], [], [], [], [], [], [0, 2, 3, 5, 7, 9], [], []]),
  (13, 6, [[], [], [], [], [], [], []]),
  (14, 4, [[], [], [0], [], [], [], [], [0, 2, 3], [], []]),
  (14, 9, [[], [], [0], [], [], [], [], [0, 2, 3], [], []]),
  (14, 10, [[], [], [], [], [], [0, 1], [0], [], [], [], [], [0, 1, 5, 6, 7], [], []]),
  (24, 6, [[], [], [], [], [], [], [], [], []]),
  (25, 4, [[], [], [], [], [], [], [], [], [], []]),
  (26, 6, [[], [], [], [], [], [], [], [], [], []]),
  (26, 11, [[], [], [], [], [], [], [], [], [], []]),
  (30, 4, [[], [], [0], [0], [], [], [], [], []]),
  (32, 6, [[], [], [], [], [], [], [1, 2, 3, 4], [1, 2], [], [], [], []]),
  (42, 8, [[], [], [], [], [], [0, 1], [], [], [], []]),
  (49, 23, [[], [], [], [], [], [], [], [], [], [], [], [], [], [], [], [], [], [], []]),
  (49, 25, [[], [], [], [], [], [], [], [], [], [], [], [], []]),
  (51, 2, [[], [], [0], [], [], [], [0, 4], [], [2, 4], [], [0, 4, 8], [], [2, 4, 6, 8], [], [], [2, 4, 6, 8, 10, 12], [], [], [2, 4, 6, 8, 10, 12, 15], [], [], [2, 4, 6, 8, 10, 12, 15, 18], [], [], [2, 4, 6, 8, 10, 12, 15, 18, 21], [], [], [2, 4, 6, 8, 10, 12, 15, 18, 21, 24], [], [], [2, 4, 6, 8, 10, 12, 15, 18, 21, 24, 27], [], [], [2, 4, 6, 8, 10, 12, 15, 18, 21, 24, 27, 30], [], [], [2, 4, 6, 8, 10, 12, 15, 18, 21, 24, 27, 30, 33], [], []]),
  (55, 3, [[], [], [], [], [], [], [], [], [], [], [], [], [], [], [], [], [1, 2, 3, 5, 6, 7, 9, 10, 11, 12, 14, 15], []]),
  (55, 4, [[], [], [], [], [], [], [], [], [], [], [], [], [], [], []]),
  (58, 5, [[], [], [], [], [], [], [], [0, 1], [], [], [], []]),
  (59, 3, [[], [], [], [0, 1, 2], [3], [3], [], [], []]),
  (65, 6, [[], [], [], [0, 1], [], [], [], []]),
  (72, 6, [[], [], [], [], [], [], [], [], []]),
  (75, 4, [[], [], [], [], [1, 2], []]),
  (77, 8, [[], [], []]),
  (77, 13, [[], [], [], []]),
  (78, 6, [[], [], [], [], [], [], [], [], [], [], [], []]),
  (78, 20, [[], [], [], [], [], [], [], [], [], [], [], []]),
  (78, 22, [[], [], [], [], [], [], [], [], [], [], []]),
  (78, 26, [[], [], [], [], [], [], [], [], [], [], [], [], []]),
  (88, 3, [[], [], [], [], [], [4], [4], [4], [4], [], [], [], [], []]),
  (112, 1, [[], [], [], [], [], [], [], []])]
def lvs : List (Nat × Nat × Nat) := [(3, 0, 3),
  (3, 1, 32),
  (3, 2, 224),
  (3, 3, 992),
  (3, 4, 469763040),
  (3, 5, 1006633952),
  (3, 6, 469765088),
  (3, 7, 469775328),
  (3, 8, 469763040),
  (3, 9, 469763040),
  (3, 10, 16),
  (4, 0, 7),
  (4, 1, 130),
  (4, 2, 384),
  (4, 3, 1920),
  (4, 4, 8064),
  (4, 5, 4398046513024),
  (4, 6, 64),
  (4, 7, 17592186046336),
  (4, 8, 64),
  (4, 9, 64),
  (5, 0, 3),
  (5, 1, 32),
  (5, 2, 224),
  (5, 3, 992),
  (5, 4, 9007199254741088),
  (5, 5, 16),
  (5, 6, 126100789566373984),
  (5, 7, 270215977642229856),
  (5, 8, 126100789566376032),
  (5, 9, 295274005968919199840),
  (5, 10, 16),
  (5, 11, 126100789566373984),
  (5, 12, 16),
  (6, 0, 3),
  (6, 1, 32),
  (6, 2, 96),
  (6, 3, 16480),
  (6, 4, 49248),
  (6, 5, 16608),
  (6, 6, 2113632),
  (6, 7, 16480),
  (6, 8, 16480),
  (6, 9, 16),
  (7, 0, 7),
  (7, 1, 7),
  (7, 2, 134),
  (7, 3, 902),
  (7, 4, 3844),
  (7, 5, 2199023258628),
  (7, 6, 64),
  (7, 7, 14340),
  (7, 8, 64),
  (8, 0, 7),
  (8, 1, 7),
  (8, 2, 134),
  (8, 3, 900),
  (8, 4, 2199023255812),
  (8, 5, 64),
  (8, 6, 64),
  (9, 0, 15),
  (9, 1, 3584),
  (9, 2, 15872),
  (9, 3, 65024),
  (9, 4, 260096),
  (9, 5, 522240),
  (9, 6, 2095104),
  (9, 7, 8122368),
  (9, 8, 256),
  (10, 0, 15),
  (10, 1, 3599),
  (10, 2, 15872),
  (10, 3, 114176),
  (10, 4, 505856),
  (10, 5, 2078720),
  (10, 6, 8355840),
  (10, 7, 649037107316853453566312043937792),
  (10, 8, 256),
  (10, 9, 256),
  (11, 0, 7),
  (11, 1, 388),
  (11, 2, 900),
  (11, 3, 1924),
  (11, 4, 1924),
  (11, 5, 8068),
  (11, 6, 32644),
  (11, 7, 129408),
  (11, 8, 64),
  (12, 0, 15),
  (12, 1, 522),
  (12, 2, 1544),
  (12, 3, 3592),
  (12, 4, 3584),
  (12, 5, 14848),
  (12, 6, 61440),
  (12, 7, 258048),
  (12, 8, 256),
  (13, 0, 15),
  (13, 1, 518),
  (13, 2, 3584),
  (13, 3, 3221229056),
  (13, 4, 7516196352),
  (13, 5, 3221233152),
  (13, 6, 1102732860928),
  (13, 7, 3221229056),
  (13, 8, 3221229056),
  (13, 9, 27136),
  (13, 10, 122880),
  (13, 11, 516096),
  (13, 12, 256),
  (14, 0, 15),
  (14, 1, 518),
  (14, 2, 1538),
  (14, 3, 7682),
  (14, 4, 31234),
  (14, 5, 281474976725506),
  (14, 6, 256),
  (14, 7, 1125899906853378),
  (14, 8, 256),
  (14, 9, 107010),
  (14, 10, 491520),
  (14, 11, 256),
  (15, 0, 71),
  (15, 1, 198),
  (15, 2, 64),
  (16, 0, 3),
  (16, 1, 67),
  (16, 2, 3),
  (16, 3, 16),
  (17, 0, 0),
  (17, 1, 1),
  (18, 0, 2),
  (18, 1, 50),
  (18, 2, 14384),
  (18, 3, 30768),
  (18, 4, 14512),
  (18, 5, 15152),
  (18, 6, 14384),
  (18, 7, 14384),
  (18, 8, 12),
  (19, 0, 2),
  (19, 1, 26),
  (19, 2, 2066),
  (19, 3, 4),
  (19, 4, 8194),
  (19, 5, 4),
  (19, 6, 4),
  (20, 0, 106),
  (20, 1, 196714),
  (20, 2, 458858),
  (20, 3, 197226),
  (20, 4, 197738),
  (20, 5, 8586346),
  (20, 6, 192),
  (20, 7, 196714),
  (20, 8, 2154),
  (20, 9, 1073743978),
  (20, 10, 192),
  (20, 11, 4160),
  (20, 12, 12352),
  (20, 13, 1099511640128),
  (20, 14, 192),
  (20, 15, 192),
  (21, 0, 12),
  (21, 1, 16),
  (22, 0, 20),
  (22, 1, 16),
  (22, 5, 16),
  (23, 0, 2),
  (23, 1, 18),
  (23, 2, 1042),
  (23, 3, 12),
  (23, 4, 34),
  (23, 5, 32),
  (23, 8, 12),
  (24, 0, 3),
  (24, 1, 1027),
  (24, 2, 16),
  (24, 3, 12291),
  (24, 4, 28675),
  (24, 5, 12323),
  (24, 6, 16789507),
  (24, 7, 16),
  (24, 8, 12291),
  (24, 9, 16),
  (25, 0, 1),
  (25, 1, 9),
  (25, 2, 265),
  (25, 3, 9),
  (25, 4, 1048585),
  (25, 5, 4),
  (25, 6, 4),
  (26, 0, 1),
  (26, 1, 257),
  (26, 2, 4),
  (26, 3, 9),
  (26, 4, 8201),
  (26, 5, 9),
  (26, 6, 33554441),
  (26, 7, 25),
  (26, 8, 57),
  (26, 9, 4294967353),
  (26, 10, 57),
  (26, 11, 17592186044473),
  (26, 12, 57),
  (26, 13, 57),
  (26, 14, 9),
  (26, 15, 4),
  (26, 16, 4),
  (27, 0, 1),
  (27, 1, 17),
  (27, 2, 4),
  (27, 3, 4),
  (28, 0, 3),
  (28, 1, 16),
  (29, 0, 14),
  (29, 1, 388),
  (29, 2, 65924),
  (29, 3, 64),
  (29, 4, 1048576),
  (29, 5, 64),
  (29, 6, 64),
  (30, 0, 6),
  (30, 1, 70),
  (30, 2, 1094),
  (30, 3, 48),
  (30, 4, 48),
  (31, 0, 22),
  (31, 1, 86),
  (31, 2, 4182),
  (31, 3, 48),
  (31, 4, 404),
  (31, 5, 2097556),
  (31, 6, 48),
  (31, 7, 48),
  (32, 0, 1),
  (32, 1, 8),
  (32, 2, 24),
  (32, 3, 7192),
  (32, 4, 15384),
  (32, 5, 7256),
  (32, 6, 7192),
  (32, 7, 7192),
  (32, 8, 4),
  (33, 0, 2),
  (33, 1, 4),
  (34, 0, 783),
  (34, 1, 2830),
  (34, 2, 6924),
  (34, 3, 1792),
  (35, 0, 19),
  (35, 1, 16),
  (36, 0, 5),
  (36, 1, 13),
  (36, 2, 44),
  (36, 3, 12),
  (36, 4, 4),
  (37, 0, 5),
  (37, 1, 4),
  (38, 0, 1),
  (38, 1, 17),
  (38, 2, 4),
  (38, 3, 4),
  (39, 0, 466),
  (39, 1, 978),
  (39, 2, 8389586),
  (39, 3, 256),
  (39, 4, 1794),
  (39, 5, 4294969090),
  (39, 6, 256),
  (39, 7, 274877908736),
  (39, 8, 824633722624),
  (39, 9, 3328),
  (39, 10, 17592186047744),
  (39, 11, 256),
  (39, 12, 9024791440788736),
  (39, 13, 256),
  (39, 14, 288230376151715072),
  (39, 15, 256),
  (39, 16, 9223372036854777600),
  (39, 17, 5888),
  (39, 18, 13568),
  (39, 19, 256),
  (39, 20, 1208925819614629174712064),
  (39, 21, 256),
  (39, 22, 77371252455336267181201152),
  (39, 23, 256),
  (39, 24, 256),
  (40, 0, 2),
  (40, 1, 10),
  (40, 2, 1034),
  (40, 3, 4),
  (40, 4, 57344),
  (40, 5, 122880),
  (40, 6, 57376),
  (40, 7, 57408),
  (40, 8, 4251712),
  (40, 9, 4),
  (40, 10, 57344),
  (40, 11, 4),
  (41, 0, 1),
  (41, 1, 1025),
  (41, 2, 4),
  (41, 3, 33554432),
  (41, 4, 4),
  (41, 5, 4),
  (42, 0, 106),
  (42, 1, 262250),
  (42, 2, 64),
  (42, 3, 234),
  (42, 4, 234),
  (42, 5, 117440738),
  (42, 6, 251658466),
  (42, 7, 117441250),
  (42, 8, 117440738),
  (42, 9, 117440738),
  (42, 10, 64),
  (43, 0, 7),
  (43, 1, 16391),
  (43, 2, 64),
  (43, 3, 229382),
  (43, 4, 491526),
  (43, 5, 229766),
  (43, 6, 230150),
  (43, 7, 1073971206),
  (43, 8, 64),
  (43, 9, 229382),
  (43, 10, 64),
  (44, 0, 2),
  (44, 1, 4),
  (47, 0, 3),
  (47, 1, 16),
  (48, 0, 3),
  (48, 1, 387),
  (48, 2, 899),
  (48, 3, 419),
  (48, 4, 65955),
  (48, 5, 16),
  (48, 6, 387),
  (48, 7, 16),
  (49, 0, 14),
  (49, 1, 262158),
  (49, 2, 786446),
  (49, 3, 192),
  (49, 4, 16777230),
  (49, 5, 768),
  (49, 6, 17179869440),
  (49, 7, 192),
  (49, 8, 192),
  (49, 9, 1038),
  (49, 10, 962072675342),
  (49, 11, 2061584303118),
  (49, 12, 962072679438),
  (49, 13, 962072699918),
  (49, 14, 2252761886385166),
  (49, 15, 192),
  (49, 16, 962072675342),
  (49, 17, 962072675342),
  (49, 18, 99336),
  (49, 19, 36893488147419202568),
  (49, 20, 192),
  (49, 21, 37778931862957161710600),
  (49, 22, 192),
  (49, 23, 151115727451828646839304),
  (49, 24, 192),
  (49, 25, 633825300114114700748351602688),
  (49, 26, 192),
  (49, 27, 192),
  (50, 0, 1),
  (50, 1, 9),
  (50, 2, 8),
  (50, 5, 4),
  (51, 0, 0),
  (51, 1, 14),
  (51, 2, 1),
  (52, 0, 1),
  (52, 1, 17),
  (52, 2, 14352),
  (52, 3, 30736),
  (52, 4, 14416),
  (52, 5, 14544),
  (52, 6, 2111696),
  (52, 7, 12),
  (52, 8, 14928),
  (52, 9, 2147498064),
  (52, 10, 14352),
  (52, 11, 14352),
  (52, 12, 12),
  (53, 0, 25),
  (53, 1, 16409),
  (53, 2, 49177),
  (53, 3, 16),
  (53, 4, 540697),
  (53, 5, 112),
  (53, 6, 268435504),
  (53, 7, 16),
  (53, 8, 16),
  (53, 9, 2147500057),
  (53, 10, 2147500057),
  (53, 11, 409),
  (53, 12, 1125899906842777),
  (53, 13, 16),
  (53, 14, 16),
  (53, 15, 288230376151711769),
  (53, 16, 1561),
  (53, 17, 147573952589676413465),
  (53, 18, 16),
  (53, 19, 16),
  (53, 20, 6168),
  (53, 21, 154742504910672534362396696),
  (53, 22, 16),
  (53, 23, 16),
  (54, 0, 25),
  (54, 1, 56),
  (54, 2, 120),
  (54, 3, 2072),
  (54, 4, 16),
  (54, 5, 16),
  (54, 6, 4194328),
  (54, 7, 16),
  (54, 8, 16),
  (55, 0, 5),
  (55, 1, 517),
  (55, 2, 4),
  (55, 3, 13),
  (55, 4, 13),
  (55, 5, 12),
  (55, 6, 4),
  (56, 0, 2),
  (56, 1, 34),
  (56, 2, 4),
  (56, 3, 98),
  (56, 4, 10),
  (56, 5, 4106),
  (56, 6, 4),
  (56, 7, 16418),
  (56, 8, 8388610),
  (56, 9, 4),
  (56, 10, 16777250),
  (56, 11, 268435458),
  (56, 12, 4),
  (56, 13, 4),
  (56, 14, 4294967330),
  (56, 15, 68719476738),
  (56, 16, 4),
  (56, 17, 137438953474),
  (56, 18, 70368744177666),
  (56, 19, 4),
  (56, 20, 562949953421312),
  (56, 21, 4),
  (56, 22, 4),
  (57, 0, 71),
  (57, 1, 198),
  (57, 2, 454),
  (57, 3, 57794),
  (57, 4, 123330),
  (57, 5, 58818),
  (57, 6, 4253122),
  (57, 7, 57794),
  (57, 8, 57794),
  (57, 9, 137438953922),
  (57, 10, 64),
  (57, 11, 64),
  (58, 0, 159),
  (58, 1, 414),
  (58, 2, 57756),
  (58, 3, 123292),
  (58, 4, 58780),
  (58, 5, 57756),
  (58, 6, 57756),
  (58, 7, 128),
  (59, 0, 2),
  (59, 1, 1026),
  (59, 2, 4),
  (59, 3, 524290),
  (59, 4, 4),
  (59, 5, 2097154),
  (59, 6, 1073741824),
  (59, 7, 4),
  (59, 8, 2149580802),
  (59, 9, 9007199254740992),
  (59, 10, 4),
  (59, 11, 18014398509481986),
  (59, 12, 36893488147419103232),
  (59, 13, 4),
  (59, 14, 4),
  (60, 0, 1),
  (60, 1, 4),
  (61, 0, 3),
  (61, 1, 35),
  (61, 2, 65571),
  (61, 3, 35),
  (61, 4, 16),
  (62, 0, 1),
  (62, 1, 4),
  (63, 0, 1),
  (63, 1, 4),
  (64, 0, 1),
  (64, 1, 8),
  (64, 2, 24),
  (64, 3, 24),
  (64, 4, 24),
  (64, 5, 24),
  (64, 6, 24),
  (64, 7, 24),
  (64, 8, 16),
  (64, 9, 4),
  (64, 10, 4),
  (65, 0, 6),
  (65, 1, 14),
  (65, 2, 14),
  (65, 3, 3596),
  (65, 4, 7692),
  (65, 5, 3628),
  (65, 6, 3596),
  (65, 7, 3596),
  (65, 8, 4),
  (66, 0, 6),
  (66, 1, 14),
  (66, 2, 10),
  (66, 3, 0),
  (67, 0, 14),
  (67, 1, 65548),
  (67, 2, 16),
  (67, 3, 1835012),
  (67, 4, 3932164),
  (67, 5, 1835076),
  (67, 6, 136052740),
  (67, 7, 16),
  (67, 8, 1835012),
  (67, 9, 16),
  (71, 0, 1),
  (71, 1, 4),
  (72, 0, 3),
  (72, 1, 1027),
  (72, 2, 16),
  (72, 3, 12291),
  (72, 4, 28675),
  (72, 5, 12323),
  (72, 6, 16789507),
  (72, 7, 16),
  (72, 8, 12291),
  (72, 9, 16),
  (73, 0, 2),
  (73, 1, 4),
  (74, 0, 5),
  (74, 1, 4),
  (75, 0, 25),
  (75, 1, 80),
  (75, 2, 33554512),
  (75, 3, 48),
  (75, 4, 48),
  (76, 0, 25),
  (76, 1, 48),
  (76, 2, 65584),
  (76, 3, 16),
  (76, 4, 16),
  (77, 0, 35),
  (77, 1, 99),
  (77, 2, 227),
  (77, 3, 14561),
  (77, 4, 30945),
  (77, 5, 15073),
  (77, 6, 15585),
  (77, 7, 4209889),
  (77, 8, 48),
  (77, 9, 67124449),
  (77, 10, 15585),
  (77, 11, 14561),
  (77, 12, 14561),
  (77, 13, 48),
  (78, 0, 19),
  (78, 1, 4115),
  (78, 2, 12307),
  (78, 3, 12307),
  (78, 4, 12307),
  (78, 5, 12307),
  (78, 6, 113),
  (78, 7, 536871025),
  (78, 8, 16),
  (78, 9, 16),
  (78, 10, 9223372036854779923),
  (78, 11, 147573952589676412946),
  (78, 12, 16),
  (78, 13, 16),
  (78, 14, 37778931862957161713683),
  (78, 15, 37778931862957161709587),
  (78, 16, 1208925819614629174706195),
  (78, 17, 16),
  (78, 18, 9671406556917033397649426),
  (78, 19, 16),
  (78, 20, 2535301200456458802993406410770),
  (78, 21, 16),
  (78, 22, 16),
  (78, 23, 41538374868278621028243970633760787),
  (78, 24, 16),
  (78, 25, 147),
  (78, 26, 913),
  (78, 27, 10889035741470030830827987437816582767504),
  (78, 28, 912),
  (78, 29, 3088),
  (78, 30, 5575186299632655785383929568162090376498192),
  (78, 31, 16),
  (78, 32, 16),
  (79, 0, 3),
  (79, 1, 32),
  (79, 2, 229408),
  (79, 3, 491552),
  (79, 4, 229600),
  (79, 5, 229408),
  (79, 6, 229408),
  (79, 7, 16),
  (80, 0, 1),
  (80, 1, 256),
  (80, 2, 4),
  (80, 3, 4),
  (81, 0, 1),
  (81, 1, 65),
  (81, 2, 4),
  (81, 3, 769),
  (81, 4, 1793),
  (81, 5, 777),
  (81, 6, 2097921),
  (81, 7, 4),
  (81, 8, 769),
  (81, 9, 4),
  (82, 0, 25),
  (82, 1, 49),
  (82, 2, 1072),
  (82, 3, 48),
  (82, 4, 16),
  (83, 0, 1),
  (83, 1, 1),
  (87, 0, 11),
  (87, 1, 267),
  (87, 2, 11),
  (87, 3, 262155),
  (88, 0, 12),
  (88, 1, 1048588),
  (88, 2, 48),
  (88, 3, 48),
  (89, 0, 5),
  (89, 1, 12),
  (89, 2, 4),
  (89, 3, 4),
  (90, 0, 3),
  (90, 1, 898),
  (90, 2, 1922),
  (90, 3, 962),
  (90, 4, 66434),
  (90, 5, 16),
  (90, 6, 898),
  (90, 7, 16),
  (91, 0, 3),
  (91, 1, 48),
  (92, 0, 3),
  (92, 1, 4099),
  (92, 2, 48),
  (92, 3, 48),
  (93, 0, 3),
  (93, 1, 4099),
  (93, 2, 48),
  (93, 3, 48),
  (94, 0, 3),
  (94, 1, 48),
  (95, 0, 3),
  (95, 1, 48),
  (106, 0, 1),
  (106, 1, 9),
  (106, 2, 456),
  (106, 3, 968),
  (106, 4, 488),
  (106, 5, 16872),
  (106, 6, 4),
  (106, 7, 456),
  (106, 8, 4),
  (107, 0, 3),
  (107, 1, 35),
  (107, 2, 99),
  (107, 3, 2115),
  (107, 4, 4096),
  (107, 5, 16),
  (107, 6, 16),
  (107, 7, 8195),
  (107, 8, 16),
  (107, 9, 65539),
  (107, 10, 16),
  (107, 11, 524288),
  (107, 12, 16),
  (107, 13, 16),
  (108, 0, 3),
  (108, 1, 35),
  (108, 2, 99),
  (108, 3, 2115),
  (108, 4, 4096),
  (108, 5, 16),
  (108, 6, 16),
  (108, 7, 8195),
  (108, 8, 16),
  (108, 9, 65539),
  (108, 10, 16),
  (108, 11, 524288),
  (108, 12, 16),
  (108, 13, 16),
  (109, 0, 7),
  (109, 1, 131079),
  (109, 2, 192),
  (109, 3, 256),
  (109, 4, 768),
  (109, 5, 33555200),
  (109, 6, 192),
  (109, 7, 192),
  (110, 0, 3),
  (110, 1, 274877906947),
  (110, 2, 16),
  (110, 3, 16),
  (111, 0, 3),
  (111, 1, 32),
  (111, 2, 16),
  (112, 0, 3),
  (112, 1, 194),
  (112, 2, 4194498),
  (112, 3, 48),
  (112, 4, 48),
  (113, 0, 3),
  (113, 1, 64),
  (113, 2, 16),
  (114, 0, 3),
  (114, 1, 16),
  (115, 0, 3),
  (115, 1, 16),
  (121, 0, 1),
  (121, 1, 4)]
def cmpsL : List Nat := [24]
def ress : List (Nat × Nat) := []
def opnsL : List Nat := []
def mutsL : List (Nat × Nat) := [(42, 7), (56, 7), (56, 26)]
def rosL : List (Nat × Nat × String) := [(3, 7, "raw.go:91"), (9, 3, "names.go:46"), (27, 1, "expr.go:40"), (27, 1, "expr.go:50"), (27, 1, "expr.go:75"), (27, 1, "expr.go:88"), (27, 1, "names.go:15"), (27, 1, "names.go:34"), (27, 1, "names.go:86"), (27, 2, "eval.go:156"), (27, 2, "names.go:46"), (27, 2, "raw.go:247"), (27, 2, "typing.go:71"), (27, 3, "eval.go:43"), (27, 3, "eval.go:52"), (27, 3, "eval.go:61"), (27, 3, "names.go:18"), (27, 3, "names.go:56"), (27, 3, "names.go:69"), (27, 3, "raw.go:247"), (27, 3, "typing.go:28"), (27, 3, "typing.go:79"), (27, 5, "names.go:56"), (27, 5, "names.go:69"), (30, 6, "raw.go:91"), (106, 2, "names.go:16")]
def thaws : List (Nat × Nat × Nat) := [(32, 26, 0), (32, 28, 0), (38, 27, 0)]
def lendsL : List Nat := [38, 27, 24, 72, 31]
def primsL : List Nat := [22, 50, 51]
noncomputable def primF (f : Nat) : Option (List DV → Option (AV × Heap)) := if f = 22 then some hasP else if f = 50 then some typP else if f = 51 then some rulesP else none
def altsL : List Nat := [38, 27]

noncomputable def tab : Tab where
  fn := fun k => if goodF.contains k then Try.prog.funcs[k]? else none
  und := Try.prog.underlying
  inf := look infs
  keep := look2 keeps
  opn := fun f => opnsL.contains f
  res := look ress
  cmp := fun t => cmpsL.contains t
  drw := look2 drws
  lv := look2 lvs
  prim := primF
  mutA := fun t k => (mutsL.filter fun e => e.1 == t && e.2 == k).length != 0
  thaw := look2 thaws
  lend := fun f => lendsL.contains f
  ro := fun t k p => rosL.any fun e => e.1 == t && e.2.1 == k && e.2.2 == p
  alt := fun f => altsL.contains f

def fnGood (L : Nat → Option (List (List Nat))) : Option Func → Bool
  | some F => !(F.name == "runtime.NumGoroutine") && match F.body with
    | some c => dstsOk F.ntmps c && drawsOk L c
    | none => false
  | none => false
theorem allGood : (goodF.all fun k => fnGood (look2 drws k) Try.prog.funcs[k]?) = true := by kernel_rfl
def crepB : Value → AV → Bool
  | .int k n, .d (.int j m) => k == j && n == m
  | .bool b, .d (.bool c) => b == c
  | .string s, .d (.str l) => s.data.toList == l
  | .slice none 0 0, .own _ [] none => true
  | .nilFunc, .d .nilf => true
  | v, .d .any => leafV v
  | _, _ => false
theorem crepB_ok {v : Value} {x : AV} (h : crepB v x = true) : CRep v x := by
  unfold crepB at h
  split at h
  · simp only [Bool.and_eq_true, beq_iff_eq] at h
    obtain ⟨rfl, rfl⟩ := h
    exact .int _ _
  · simp only [beq_iff_eq] at h
    subst h
    exact .bool _
  · simp only [beq_iff_eq] at h
    subst h
    exact .str _
  · exact .nilsl _
  · exact .nilf
  · exact .anyv _ h
  · cases h
def crepsB : List Value → List AV → Bool
  | [], [] => true
  | v :: vs, x :: xs => crepB v x && crepsB vs xs
  | _, _ => false
theorem crepsB_ok : ∀ (vs : List Value) (xs : List AV), crepsB vs xs = true → vs.length = xs.length ∧ ∀ (j : Nat) y, xs[j]? = some y → ∃ u, vs[j]? = some u ∧ CRep u y
  | [], [], h => ⟨rfl, fun j y hy => by simp at hy⟩
  | v :: vs, x :: xs, h => by
    simp only [crepsB, Bool.and_eq_true] at h
    obtain ⟨h1, h2⟩ := crepsB_ok vs xs h.2
    refine ⟨by simp [h1], fun j y hy => ?_⟩
    cases j with
    | zero =>
      have : x = y := by simpa using hy
      subst this
      exact ⟨v, rfl, crepB_ok h.1⟩
    | succ j => exact h2 j y (by simpa using hy)
  | [], _ :: _, h => by simp [crepsB] at h
  | _ :: _, [], h => by simp [crepsB] at h
/-- A type's zero value is a struct's where the type is one. -/
def zagB (P : Program) (t : Nat) (v : Value) : Bool := match P.underlying t with
  | some (.struct _) | some (.array _ _) => !leafV v && (match v with | .agg _ => true | _ => false)
  | some _ => leafV v
  | none => true
def infGoodP (P : Program) (e : Nat × Nat × Nat × List AV) : Bool := match P.types[e.1]? with
  | some i => i.size == e.2.1 && i.bytes == e.2.2.1 && match i.zero with
    | some zv => zagB P e.1 zv && zv.cells.size == e.2.1 && crepsB zv.cells.toList e.2.2.2
    | none => false
  | none => false
theorem allInf : (infs.all (infGoodP Try.prog)) = true := by kernel_rfl
theorem look_mem {α : Type} : ∀ (l : List (Nat × α)) (k : Nat) (x : α), look l k = some x → (k, x) ∈ l
  | [], k, x, h => by simp [look] at h
  | (i, y) :: r, k, x, h => by
    simp only [look] at h
    split at h
    · rename_i hi
      injection h with h
      subst hi; subst h
      simp
    · exact List.mem_cons_of_mem _ (look_mem r k x h)

theorem tab_fn {k : Nat} {F : Func} (h1 : goodF.contains k = true) (h2 : Try.prog.funcs[k]? = some F) : tab.fn k = some F := by
  simp only [tab]
  rw [if_pos h1]
  exact h2
theorem tab_und (t : Nat) : tab.und t = Try.prog.underlying t := by simp only [tab]
theorem tab_inf0 (t : Nat) : tab.inf t = look infs t := by simp only [tab]
theorem tab_inf {t : Nat} {d : Option (Nat × Nat × List AV)} (h : look infs t = d) : tab.inf t = d := by
  simp only [tab]
  exact h
theorem tab_keep {f r : Nat} {d : Option (List Nat × List Nat)} (h : look2 keeps f r = d) : tab.keep f r = d := by
  simp only [tab]
  exact h
theorem tab_drw {f r : Nat} {d : Option (List (List Nat))} (h : look2 drws f r = d) : tab.drw f r = d := by
  simp only [tab]
  exact h
theorem tab_lv {f r : Nat} {d : Option Nat} (h : look2 lvs f r = d) : tab.lv f r = d := by
  simp only [tab]
  exact h
theorem tab_opn {f : Nat} {b : Bool} (h : opnsL.contains f = b) : tab.opn f = b := by
  simp only [tab]
  exact h
theorem tab_cmp {t : Nat} {b : Bool} (h : cmpsL.contains t = b) : tab.cmp t = b := by
  simp only [tab]
  exact h
theorem tab_mut {t k : Nat} {b : Bool} (h : ((mutsL.filter fun e => e.1 == t && e.2 == k).length != 0) = b) : tab.mutA t k = b := by
  simp only [tab]
  exact h
theorem tab_ro {t k : Nat} {p : String} {b : Bool} (h : (rosL.any fun e => e.1 == t && e.2.1 == k && e.2.2 == p) = b) : tab.ro t k p = b := by
  simp only [tab]
  exact h
theorem tab_thaw {f k : Nat} {d : Option Nat} (h : look2 thaws f k = d) : tab.thaw f k = d := by
  simp only [tab]
  exact h
theorem tab_lend {f : Nat} {b : Bool} (h : lendsL.contains f = b) : tab.lend f = b := by
  simp only [tab]
  exact h
theorem look2_none {α : Type} : ∀ (l : List (Nat × Nat × α)) (f k : Nat), (l.all fun e => e.1 != f) = true → look2 l f k = none
  | [], _, _, _ => rfl
  | (i, j, x) :: r, f, k, h => by
    simp only [List.all_cons, Bool.and_eq_true, bne_iff_ne] at h
    simp only [look2]
    rw [if_neg (fun e => h.1 e.1)]
    exact look2_none r f k h.2
/-- The call's answer is taken over deep. -/
def Plain (f : Nat) : Prop := tab.res f = none ∧ (∀ k, tab.thaw f k = none) ∧ tab.prim f = none
theorem tab_nprim {f : Nat} (h : primsL.contains f = false) : tab.prim f = none := by
  simp only [tab, primF]
  simp [primsL] at h
  simp [h]
theorem tab_res {f : Nat} (h : ((look ress f).isNone && (thaws.all fun e => e.1 != f) && !(primsL.contains f)) = true) : Plain f := by
  simp only [Bool.and_eq_true, Option.isNone_iff_eq_none, Bool.not_eq_true'] at h
  exact ⟨by simp only [tab]; exact h.1.1, fun k => by simp only [tab]; exact look2_none _ _ _ h.1.2, tab_nprim h.2⟩
theorem isAlt_tab {f : Nat} {args : List AV} {H : Heap} (h : altsL.contains f = false) : isAlt tab f args H = false := by
  simp only [isAlt, tab, h, Bool.false_and]
theorem tab_alt {f : Nat} {b : Bool} (h : altsL.contains f = b) : tab.alt f = b := by
  simp only [tab]
  exact h

theorem info_of {P : Program} {t : Nat} {i : TypeInfo} (h : P.types[t]? = some i) : P.info? t = some i := by
  have : t < P.types.size := (Array.getElem?_eq_some_iff.1 h).1
  show Tables.info? P.toTables t = some i
  unfold Tables.info?
  rw [if_pos this]
  exact h
theorem infGood_ok {P : Program} {t n b : Nat} {z : List AV} (h1 : infGoodP P (t, n, b, z) = true) : ∃ i zv, P.info? t = some i ∧ i.size = n ∧ i.bytes = b ∧ i.zero = some zv ∧ zv.cells.size = n ∧ z.length = n ∧
    ∀ (j : Nat) y, z[j]? = some y → ∃ u, zv.cells[j]? = some u ∧ CRep u y := by
  unfold infGoodP at h1
  simp only at h1
  cases hi : P.types[t]? with
  | none => rw [hi] at h1; simp at h1
  | some i =>
    rw [hi] at h1
    simp only [Bool.and_eq_true, beq_iff_eq] at h1
    obtain ⟨⟨h2, h3⟩, h4⟩ := h1
    cases hz : i.zero with
    | none => rw [hz] at h4; simp at h4
    | some zv =>
      rw [hz] at h4
      simp only [Bool.and_eq_true, beq_iff_eq] at h4
      have h4 : zv.cells.size = n ∧ crepsB zv.cells.toList z = true := ⟨h4.1.2, h4.2⟩
      obtain ⟨h5, h6⟩ := crepsB_ok _ _ h4.2
      refine ⟨i, zv, info_of hi, h2, h3, hz, h4.1, by simp at h5; omega, fun j y hy => ?_⟩
      obtain ⟨u, h7, h8⟩ := h6 j y hy
      exact ⟨u, by simpa using h7, h8⟩
theorem zag_ok {P : Program} {t n b : Nat} {z : List AV} (h1 : infGoodP P (t, n, b, z) = true) {i : TypeInfo} {zv : Value} (hi : P.info? t = some i) (hz : i.zero = some zv) : zagB P t zv = true := by
  unfold infGoodP at h1
  simp only at h1
  cases hj : P.types[t]? with
  | none => rw [hj] at h1; simp at h1
  | some j =>
    have hij : j = i := by
      have := info_of hj
      rw [hi] at this
      injection this with this
      exact this.symm
    subst hij
    rw [hj] at h1
    simp only [Bool.and_eq_true, beq_iff_eq, hz] at h1
    exact h1.2.1.1
theorem inf_ok (t n b : Nat) (z : List AV) (h : look infs t = some (n, b, z)) : ∃ i zv, Try.prog.info? t = some i ∧ i.size = n ∧ i.bytes = b ∧ i.zero = some zv ∧ zv.cells.size = n ∧ z.length = n ∧
    ∀ (j : Nat) y, z[j]? = some y → ∃ u, zv.cells[j]? = some u ∧ CRep u y := by
  exact infGood_ok ((List.all_eq_true (l := infs) (p := infGoodP Try.prog)).1 allInf (t, n, b, z) (look_mem infs t (n, b, z) h))
theorem tab_zag (t n b : Nat) (z : List AV) (i : TypeInfo) (zv : Value) (h : tab.inf t = some (n, b, z)) (hi : Try.prog.info? t = some i) (hz : i.zero = some zv) (q : Bool) (hq : isAgg tab t = some q) :
    (q = true → ∃ cs, zv = .agg cs) ∧ (q = false → leafV zv = true) := by
  have h1 := zag_ok ((List.all_eq_true (l := infs) (p := infGoodP Try.prog)).1 allInf (t, n, b, z) (look_mem infs t (n, b, z) ((tab_inf0 t).symm.trans h))) hi hz
  unfold zagB at h1
  unfold isAgg at hq
  rw [tab_und t] at hq
  cases hd : Try.prog.underlying t with
  | none => rw [hd] at hq; cases hq
  | some d =>
    rw [hd] at h1 hq
    cases d <;> simp only [Option.some.injEq] at hq h1 <;> subst hq <;> refine ⟨fun h => ?_, fun h => ?_⟩ <;> first
      | exact h1
      | (cases h; done)
      | (simp only [Bool.and_eq_true] at h1; cases zv <;> first | exact ⟨_, rfl⟩ | simp at h1)
theorem tab_ok : tab.Ok Try.prog where
  fn := fun f F h => by
    simp only [tab] at h
    split at h
    · rename_i hg
      have h1 := List.all_eq_true.1 allGood f (by simpa using hg)
      rw [h] at h1
      simp only [fnGood, Bool.and_eq_true, Bool.not_eq_true'] at h1
      cases hb : F.body with
      | none => rw [hb] at h1; simp at h1
      | some c =>
        rw [hb] at h1
        simp only [Bool.and_eq_true] at h1
        exact ⟨h, h1.1, c, rfl, h1.2.1⟩
    · cases h
  und := fun t d h => (tab_und t).symm.trans h
  inf := fun t n b z h => inf_ok t n b z ((tab_inf0 t).symm.trans h)
  mix := by kernel_rfl
  zag := tab_zag
  drw := fun f F c h hb => by
    simp only [tab] at h
    split at h
    · rename_i hg
      have h1 := List.all_eq_true.1 allGood f (by simpa using hg)
      rw [h] at h1
      simp only [fnGood, Bool.and_eq_true, hb] at h1
      exact h1.2.2
    · cases h
  cmp := fun t h => by
    have h1 : (cmpsL.all fun t => !Try.prog.stoodInHeld t && !Try.prog.eqGuardType Try.prog.depth t) = true := by kernel_rfl
    have h2 := List.all_eq_true.1 h1 t (by simpa [tab] using h)
    simpa using h2

theorem prim_ok : PrimOk Try.prog tab := fun f p h => by
  simp only [tab, primF] at h
  by_cases h22 : f = 22
  · subst h22
    simp at h
    subst h
    exact ⟨⟨Try.f22, by simp only [tab]; exact (if_pos (by kernel_rfl)).trans Try.func22⟩, has_one⟩
  by_cases h50 : f = 50
  · subst h50
    simp at h
    subst h
    exact ⟨⟨Try.f50, by simp only [tab]; exact (if_pos (by kernel_rfl)).trans Try.func50⟩, types_one⟩
  by_cases h51 : f = 51
  · subst h51
    simp at h
    subst h
    exact ⟨⟨Try.f51, by simp only [tab]; exact (if_pos (by kernel_rfl)).trans Try.func51⟩, rules_one⟩
  simp [h22, h50, h51] at h
theorem prim22 : tab.prim 22 = some hasP := by simp [tab, primF]
theorem prim50 : tab.prim 50 = some typP := by simp [tab, primF]
theorem prim51 : tab.prim 51 = some rulesP := by simp [tab, primF]
theorem fn3 : tab.fn 3 = some Try.f3 := tab_fn (by kernel_rfl) Try.func3
theorem fn4 : tab.fn 4 = some Try.f4 := tab_fn (by kernel_rfl) Try.func4
theorem fn5 : tab.fn 5 = some Try.f5 := tab_fn (by kernel_rfl) Try.func5
theorem fn6 : tab.fn 6 = some Try.f6 := tab_fn (by kernel_rfl) Try.func6
theorem fn7 : tab.fn 7 = some Try.f7 := tab_fn (by kernel_rfl) Try.func7
theorem fn8 : tab.fn 8 = some Try.f8 := tab_fn (by kernel_rfl) Try.func8
theorem fn9 : tab.fn 9 = some Try.f9 := tab_fn (by kernel_rfl) Try.func9
theorem fn10 : tab.fn 10 = some Try.f10 := tab_fn (by kernel_rfl) Try.func10
theorem fn11 : tab.fn 11 = some Try.f11 := tab_fn (by kernel_rfl) Try.func11
theorem fn12 : tab.fn 12 = some Try.f12 := tab_fn (by kernel_rfl) Try.func12
theorem fn13 : tab.fn 13 = some Try.f13 := tab_fn (by kernel_rfl) Try.func13
theorem fn14 : tab.fn 14 = some Try.f14 := tab_fn (by kernel_rfl) Try.func14
theorem fn15 : tab.fn 15 = some Try.f15 := tab_fn (by kernel_rfl) Try.func15
theorem fn16 : tab.fn 16 = some Try.f16 := tab_fn (by kernel_rfl) Try.func16
theorem fn17 : tab.fn 17 = some Try.f17 := tab_fn (by kernel_rfl) Try.func17
theorem fn18 : tab.fn 18 = some Try.f18 := tab_fn (by kernel_rfl) Try.func18
theorem fn19 : tab.fn 19 = some Try.f19 := tab_fn (by kernel_rfl) Try.func19
theorem fn20 : tab.fn 20 = some Try.f20 := tab_fn (by kernel_rfl) Try.func20
theorem fn21 : tab.fn 21 = some Try.f21 := tab_fn (by kernel_rfl) Try.func21
theorem fn22 : tab.fn 22 = some Try.f22 := tab_fn (by kernel_rfl) Try.func22
theorem fn23 : tab.fn 23 = some Try.f23 := tab_fn (by kernel_rfl) Try.func23
theorem fn24 : tab.fn 24 = some Try.f24 := tab_fn (by kernel_rfl) Try.func24
theorem fn25 : tab.fn 25 = some Try.f25 := tab_fn (by kernel_rfl) Try.func25
theorem fn26 : tab.fn 26 = some Try.f26 := tab_fn (by kernel_rfl) Try.func26
theorem fn27 : tab.fn 27 = some Try.f27 := tab_fn (by kernel_rfl) Try.func27
theorem fn28 : tab.fn 28 = some Try.f28 := tab_fn (by kernel_rfl) Try.func28
theorem fn29 : tab.fn 29 = some Try.f29 := tab_fn (by kernel_rfl) Try.func29
theorem fn30 : tab.fn 30 = some Try.f30 := tab_fn (by kernel_rfl) Try.func30
theorem fn31 : tab.fn 31 = some Try.f31 := tab_fn (by kernel_rfl) Try.func31
theorem fn32 : tab.fn 32 = some Try.f32 := tab_fn (by kernel_rfl) Try.func32
theorem fn33 : tab.fn 33 = some Try.f33 := tab_fn (by kernel_rfl) Try.func33
theorem fn34 : tab.fn 34 = some Try.f34 := tab_fn (by kernel_rfl) Try.func34
theorem fn35 : tab.fn 35 = some Try.f35 := tab_fn (by kernel_rfl) Try.func35
theorem fn36 : tab.fn 36 = some Try.f36 := tab_fn (by kernel_rfl) Try.func36
theorem fn37 : tab.fn 37 = some Try.f37 := tab_fn (by kernel_rfl) Try.func37
theorem fn38 : tab.fn 38 = some Try.f38 := tab_fn (by kernel_rfl) Try.func38
theorem fn39 : tab.fn 39 = some Try.f39 := tab_fn (by kernel_rfl) Try.func39
theorem fn40 : tab.fn 40 = some Try.f40 := tab_fn (by kernel_rfl) Try.func40
theorem fn41 : tab.fn 41 = some Try.f41 := tab_fn (by kernel_rfl) Try.func41
theorem fn42 : tab.fn 42 = some Try.f42 := tab_fn (by kernel_rfl) Try.func42
theorem fn43 : tab.fn 43 = some Try.f43 := tab_fn (by kernel_rfl) Try.func43
theorem fn44 : tab.fn 44 = some Try.f44 := tab_fn (by kernel_rfl) Try.func44
theorem fn47 : tab.fn 47 = some Try.f47 := tab_fn (by kernel_rfl) Try.func47
theorem fn48 : tab.fn 48 = some Try.f48 := tab_fn (by kernel_rfl) Try.func48
theorem fn49 : tab.fn 49 = some Try.f49 := tab_fn (by kernel_rfl) Try.func49
theorem fn50 : tab.fn 50 = some Try.f50 := tab_fn (by kernel_rfl) Try.func50
theorem fn51 : tab.fn 51 = some Try.f51 := tab_fn (by kernel_rfl) Try.func51
theorem fn52 : tab.fn 52 = some Try.f52 := tab_fn (by kernel_rfl) Try.func52
theorem fn53 : tab.fn 53 = some Try.f53 := tab_fn (by kernel_rfl) Try.func53
theorem fn54 : tab.fn 54 = some Try.f54 := tab_fn (by kernel_rfl) Try.func54
theorem fn55 : tab.fn 55 = some Try.f55 := tab_fn (by kernel_rfl) Try.func55
theorem fn56 : tab.fn 56 = some Try.f56 := tab_fn (by kernel_rfl) Try.func56
theorem fn57 : tab.fn 57 = some Try.f57 := tab_fn (by kernel_rfl) Try.func57
theorem fn58 : tab.fn 58 = some Try.f58 := tab_fn (by kernel_rfl) Try.func58
theorem fn59 : tab.fn 59 = some Try.f59 := tab_fn (by kernel_rfl) Try.func59
theorem fn60 : tab.fn 60 = some Try.f60 := tab_fn (by kernel_rfl) Try.func60
theorem fn61 : tab.fn 61 = some Try.f61 := tab_fn (by kernel_rfl) Try.func61
theorem fn62 : tab.fn 62 = some Try.f62 := tab_fn (by kernel_rfl) Try.func62
theorem fn63 : tab.fn 63 = some Try.f63 := tab_fn (by kernel_rfl) Try.func63
theorem fn64 : tab.fn 64 = some Try.f64 := tab_fn (by kernel_rfl) Try.func64
theorem fn65 : tab.fn 65 = some Try.f65 := tab_fn (by kernel_rfl) Try.func65
theorem fn66 : tab.fn 66 = some Try.f66 := tab_fn (by kernel_rfl) Try.func66
theorem fn67 : tab.fn 67 = some Try.f67 := tab_fn (by kernel_rfl) Try.func67
theorem fn71 : tab.fn 71 = some Try.f71 := tab_fn (by kernel_rfl) Try.func71
theorem fn72 : tab.fn 72 = some Try.f72 := tab_fn (by kernel_rfl) Try.func72
theorem fn73 : tab.fn 73 = some Try.f73 := tab_fn (by kernel_rfl) Try.func73
theorem fn74 : tab.fn 74 = some Try.f74 := tab_fn (by kernel_rfl) Try.func74
theorem fn75 : tab.fn 75 = some Try.f75 := tab_fn (by kernel_rfl) Try.func75
theorem fn76 : tab.fn 76 = some Try.f76 := tab_fn (by kernel_rfl) Try.func76
theorem fn77 : tab.fn 77 = some Try.f77 := tab_fn (by kernel_rfl) Try.func77
theorem fn78 : tab.fn 78 = some Try.f78 := tab_fn (by kernel_rfl) Try.func78
theorem fn79 : tab.fn 79 = some Try.f79 := tab_fn (by kernel_rfl) Try.func79
theorem fn80 : tab.fn 80 = some Try.f80 := tab_fn (by kernel_rfl) Try.func80
theorem fn81 : tab.fn 81 = some Try.f81 := tab_fn (by kernel_rfl) Try.func81
theorem fn82 : tab.fn 82 = some Try.f82 := tab_fn (by kernel_rfl) Try.func82
theorem fn83 : tab.fn 83 = some Try.f83 := tab_fn (by kernel_rfl) Try.func83
theorem fn87 : tab.fn 87 = some Try.f87 := tab_fn (by kernel_rfl) Try.func87
theorem fn88 : tab.fn 88 = some Try.f88 := tab_fn (by kernel_rfl) Try.func88
theorem fn89 : tab.fn 89 = some Try.f89 := tab_fn (by kernel_rfl) Try.func89
theorem fn90 : tab.fn 90 = some Try.f90 := tab_fn (by kernel_rfl) Try.func90
theorem fn91 : tab.fn 91 = some Try.f91 := tab_fn (by kernel_rfl) Try.func91
theorem fn92 : tab.fn 92 = some Try.f92 := tab_fn (by kernel_rfl) Try.func92
theorem fn93 : tab.fn 93 = some Try.f93 := tab_fn (by kernel_rfl) Try.func93
theorem fn94 : tab.fn 94 = some Try.f94 := tab_fn (by kernel_rfl) Try.func94
theorem fn95 : tab.fn 95 = some Try.f95 := tab_fn (by kernel_rfl) Try.func95
theorem fn106 : tab.fn 106 = some Try.f106 := tab_fn (by kernel_rfl) Try.func106
theorem fn107 : tab.fn 107 = some Try.f107 := tab_fn (by kernel_rfl) Try.func107
theorem fn108 : tab.fn 108 = some Try.f108 := tab_fn (by kernel_rfl) Try.func108
theorem fn109 : tab.fn 109 = some Try.f109 := tab_fn (by kernel_rfl) Try.func109
theorem fn110 : tab.fn 110 = some Try.f110 := tab_fn (by kernel_rfl) Try.func110
theorem fn111 : tab.fn 111 = some Try.f111 := tab_fn (by kernel_rfl) Try.func111
theorem fn112 : tab.fn 112 = some Try.f112 := tab_fn (by kernel_rfl) Try.func112
theorem fn113 : tab.fn 113 = some Try.f113 := tab_fn (by kernel_rfl) Try.func113
theorem fn114 : tab.fn 114 = some Try.f114 := tab_fn (by kernel_rfl) Try.func114
theorem fn115 : tab.fn 115 = some Try.f115 := tab_fn (by kernel_rfl) Try.func115
theorem fn121 : tab.fn 121 = some Try.f121 := tab_fn (by kernel_rfl) Try.func121
theorem inf1 : tab.inf 1 = some (1, 8, [.d .nilf]) := tab_inf (by kernel_rfl)
theorem inf2 : tab.inf 2 = some (1, 8, [.d (.int .i64 0)]) := tab_inf (by kernel_rfl)
theorem inf3 : tab.inf 3 = some (1, 8, [.d (.int .i64 0)]) := tab_inf (by kernel_rfl)
theorem inf4 : tab.inf 4 = some (1, 1, [.d (.bool false)]) := tab_inf (by kernel_rfl)
theorem inf5 : tab.inf 5 = some (1, 1, [.d (.int .u8 0)]) := tab_inf (by kernel_rfl)
theorem inf6 : tab.inf 6 = some (1, 1, [.d (.int .u8 0)]) := tab_inf (by kernel_rfl)
theorem inf9 : tab.inf 9 = some (1, 16, [.d (.str [])]) := tab_inf (by kernel_rfl)
theorem inf22 : tab.inf 22 = some (1, 24, [.own 4 [] none]) := tab_inf (by kernel_rfl)
theorem inf24 : tab.inf 24 = some (3, 32, [.d (.int .i64 0), .d (.int .i64 0), .d (.str [])]) := tab_inf (by kernel_rfl)
theorem inf25 : tab.inf 25 = some (1, 24, [.own 6 [] none]) := tab_inf (by kernel_rfl)
theorem inf27 : tab.inf 27 = some (6, 80, [.d (.int .i64 0), .d (.int .i64 0), .d (.int .i64 0), .d (.str []), .d (.str []), .own 6 [] none]) := tab_inf (by kernel_rfl)
theorem inf29 : tab.inf 29 = some (1, 8, [.d .nilf]) := tab_inf (by kernel_rfl)
theorem inf30 : tab.inf 30 = some (1, 24, [.own 9 [] none]) := tab_inf (by kernel_rfl)
theorem inf34 : tab.inf 34 = some (1, 8, [.d (.int .i64 0)]) := tab_inf (by kernel_rfl)
theorem inf39 : tab.inf 39 = some (1, 8, [.d .nilf]) := tab_inf (by kernel_rfl)
theorem inf42 : tab.inf 42 = some (1, 24, [.own 1 [] none]) := tab_inf (by kernel_rfl)
theorem inf49 : tab.inf 49 = some (9, 112, [.d (.str []), .d (.int .i64 0), .d (.int .i64 0), .d (.int .i64 0), .d (.int .i64 0), .d (.int .i64 0), .d (.str []), .d (.str []), .own 6 [] none]) := tab_inf (by kernel_rfl)
theorem inf56 : tab.inf 56 = some (1, 24, [.own 7 [] none]) := tab_inf (by kernel_rfl)
theorem inf65 : tab.inf 65 = some (7, 80, [.d (.str []), .d (.int .i64 0), .d (.int .i64 0), .d (.str []), .d (.int .i64 0), .d (.int .i64 0), .d (.str [])]) := tab_inf (by kernel_rfl)
theorem inf66 : tab.inf 66 = some (1, 8, [.d .nilf]) := tab_inf (by kernel_rfl)
theorem inf67 : tab.inf 67 = some (1, 24, [.own 1 [] none]) := tab_inf (by kernel_rfl)
theorem inf71 : tab.inf 71 = some (1, 8, [.d .any]) := tab_inf (by kernel_rfl)
theorem inf73 : tab.inf 73 = some (2, 32, [.own 4 [] none, .d (.int .i64 0)]) := tab_inf (by kernel_rfl)
theorem inf75 : tab.inf 75 = some (12, 160, [.d (.int .i64 0), .d (.int .i64 0), .d (.int .i64 0), .d (.str []), .d (.str []), .own 6 [] none, .d (.int .i64 0), .d (.int .i64 0), .d (.int .i64 0), .d (.str []), .d (.str []), .own 6 [] none]) := tab_inf (by kernel_rfl)
theorem inf79 : tab.inf 79 = some (1, 8, [.d .nilf]) := tab_inf (by kernel_rfl)
theorem inf80 : tab.inf 80 = some (1, 8, [.d .nilf]) := tab_inf (by kernel_rfl)
theorem inf99 : tab.inf 99 = some (4, 40, [.d (.int .i64 0), .d (.int .i64 0), .d (.int .i64 0), .d (.str [])]) := tab_inf (by kernel_rfl)
theorem inf103 : tab.inf 103 = some (1, 8, [.d .nilf]) := tab_inf (by kernel_rfl)
theorem inf104 : tab.inf 104 = some (1, 8, [.d .nilf]) := tab_inf (by kernel_rfl)
theorem inf106 : tab.inf 106 = some (1, 8, [.d .nilf]) := tab_inf (by kernel_rfl)
theorem inf108 : tab.inf 108 = some (1, 8, [.d .nilf]) := tab_inf (by kernel_rfl)
theorem inf112 : tab.inf 112 = some (2, 32, [.own 1 [] none, .d (.int .i64 0)]) := tab_inf (by kernel_rfl)
theorem inf115 : tab.inf 115 = some (1, 8, [.d .nilf]) := tab_inf (by kernel_rfl)
theorem inf116 : tab.inf 116 = some (1, 8, [.d .nilf]) := tab_inf (by kernel_rfl)
theorem inf121 : tab.inf 121 = some (1, 24, [.own 3 [] none]) := tab_inf (by kernel_rfl)
theorem inf129 : tab.inf 129 = some (3, 32, [.d (.str []), .d (.int .i64 0), .d (.int .i64 0)]) := tab_inf (by kernel_rfl)
theorem inf130 : tab.inf 130 = some (57, 608, [.d (.str []), .d (.int .i64 0), .d (.int .i64 0), .d (.str []), .d (.int .i64 0), .d (.int .i64 0), .d (.str []), .d (.int .i64 0), .d (.int .i64 0), .d (.str []), .d (.int .i64 0), .d (.int .i64 0), .d (.str []), .d (.int .i64 0), .d (.int .i64 0), .d (.str []), .d (.int .i64 0), .d (.int .i64 0), .d (.str []), .d (.int .i64 0), .d (.int .i64 0), .d (.str []), .d (.int .i64 0), .d (.int .i64 0), .d (.str []), .d (.int .i64 0), .d (.int .i64 0), .d (.str []), .d (.int .i64 0), .d (.int .i64 0), .d (.str []), .d (.int .i64 0), .d (.int .i64 0), .d (.str []), .d (.int .i64 0), .d (.int .i64 0), .d (.str []), .d (.int .i64 0), .d (.int .i64 0), .d (.str []), .d (.int .i64 0), .d (.int .i64 0), .d (.str []), .d (.int .i64 0), .d (.int .i64 0), .d (.str []), .d (.int .i64 0), .d (.int .i64 0), .d (.str []), .d (.int .i64 0), .d (.int .i64 0), .d (.str []), .d (.int .i64 0), .d (.int .i64 0), .d (.str []), .d (.int .i64 0), .d (.int .i64 0)]) := tab_inf (by kernel_rfl)
theorem inf136 : tab.inf 136 = some (1, 8, [.d .nilf]) := tab_inf (by kernel_rfl)
theorem inf140 : tab.inf 140 = some (1, 8, [.d .nilf]) := tab_inf (by kernel_rfl)
theorem inf142 : tab.inf 142 = some (1, 24, [.own 1 [] none]) := tab_inf (by kernel_rfl)
end Go.Proofs.Ytjjjkoknodcaaaa.Am
