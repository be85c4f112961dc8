/- The evaluator's table for this program: functions, types, and what is kept at a loop's head. Printed by gentab.py. -/
import Derived.Test.YthmggkidmcgfoaaAmLim
import Derived.Test.YthmggkidmcgfoaaProg
import Derived.Test.YthmggkidmcgfoaaPrm
set_option linter.unusedVariables false
set_option linter.unusedSimpArgs false
namespace Go.Proofs.Ythmggkidmcgfoaa.Am
open Go Go.RowKit

def look {α : Type} : List (Nat × α) → Nat → Option α
  | [], _ => none
  | (i, x) :: r, k => if i = k then some x else look r k
def look2 {α : Type} : List (Nat × Nat × α) → Nat → Nat → Option α
  | [], _, _ => none
  | (i, j, x) :: r, k, m => if i = k ∧ j = m then some x else look2 r k m

def goodF : List Nat := [3, 4, 5, 6, 7, 8, 9, 10, 11, 12, 13, 14, 15, 16, 17, 18, 19, 20, 21, 22, 23, 24, 25, 26, 27, 28, 29, 30, 31, 32, 33, 34, 35, 36, 37, 38, 39, 40, 41, 42, 43, 44, 45, 46, 47, 48, 49, 50, 53, 54, 55, 56, 57, 58, 59, 60, 61, 62, 63, 64, 68, 69, 70, 71, 72, 73, 74, 84]
def infs : List (Nat × Nat × Nat × List AV) := [(1, 1, 8, [.d .nilf]),
  (2, 1, 8, [.d (.int .i64 0)]),
  (3, 1, 8, [.d (.int .i64 0)]),
  (4, 1, 1, [.d (.bool false)]),
  (5, 1, 1, [.d (.int .u8 0)]),
  (9, 1, 16, [.d (.str [])]),
  (22, 1, 24, [.own 4 [] none]),
  (24, 3, 32, [.d (.int .i64 0), .d (.int .i64 0), .d (.str [])]),
  (25, 1, 24, [.own 6 [] none]),
  (27, 6, 80, [.d (.int .i64 0), .d (.int .i64 0), .d (.int .i64 0), .d (.str []), .d (.str []), .own 6 [] none]),
  (29, 1, 8, [.d .nilf]),
  (30, 1, 24, [.own 9 [] none]),
  (32, 1, 8, [.d (.int .i64 0)]),
  (35, 1, 24, [.own 7 [] none]),
  (38, 7, 80, [.d (.str []), .d (.int .i64 0), .d (.int .i64 0), .d (.str []), .d (.int .i64 0), .d (.int .i64 0), .d (.str [])]),
  (49, 9, 112, [.d (.str []), .d (.int .i64 0), .d (.int .i64 0), .d (.int .i64 0), .d (.int .i64 0), .d (.int .i64 0), .d (.str []), .d (.str []), .own 6 [] none]),
  (51, 1, 8, [.d .any]),
  (53, 2, 32, [.own 4 [] none, .d (.int .i64 0)]),
  (58, 4, 40, [.d (.int .i64 0), .d (.int .i64 0), .d (.int .i64 0), .d (.str [])]),
  (65, 1, 8, [.d .nilf]),
  (66, 1, 8, [.d .nilf]),
  (67, 1, 8, [.d .nilf]),
  (70, 1, 24, [.own 1 [] none]),
  (71, 1, 8, [.d .nilf]),
  (79, 1, 24, [.own 3 [] none]),
  (83, 1, 24, [.own 1 [] none]),
  (86, 1, 8, [.d .nilf]),
  (88, 1, 24, [.own 1 [] none]),
  (95, 1, 8, [.d .nilf]),
  (101, 3, 32, [.d (.str []), .d (.int .i64 0), .d (.int .i64 0)]),
  (102, 57, 608, [.d (.str []), .d (.int .i64 0), .d (.int .i64 0), .d (.str []), .d (.int .i64 0), .d (.int .i64 0), .d (.str []), .d (.int .i64 0), .d (.int .i64 0), .d (.str []), .d (.int .i64 0), .d (.int .i64 0), .d (.str []), .d (.int .i64 0), .d (.int .i64 0), .d (.str []), .d (.int .i64 0), .d (.int .i64 0), .d (.str []), .d (.int .i64 0), .d (.int .i64 0), .d (.str []), .d (.int .i64 0), .d (.int .i64 0), .d (.str []), .d (.int .i64 0), .d (.int .i64 0), .d (.str []), .d (.int .i64 0), .d (.int .i64 0), .d (.str []), .d (.int .i64 0), .d (.int .i64 0), .d (.str []), .d (.int .i64 0), .d (.int .i64 0), .d (.str []), .d (.int .i64 0), .d (.int .i64 0), .d (.str []), .d (.int .i64 0), .d (.int .i64 0), .d (.str []), .d (.int .i64 0), .d (.int .i64 0), .d (.str []), .d (.int .i64 0), .d (.int .i64 0), .d (.str []), .d (.int .i64 0), .d (.int .i64 0), .d (.str []), .d (.int .i64 0), .d (.int .i64 0), .d (.str []), .d (.int .i64 0), .d (.int .i64 0)]),
  (109, 1, 8, [.d .nilf])]
def keeps : List (Nat × Nat × List Nat × List Nat) := [(5, 8, [5, 6, 51, 52, 53], [5, 6, 18, 19, 22, 27, 32, 48, 51, 52, 60, 65]),
  (10, 4, [3, 4, 10, 11, 12], [9, 10, 11, 22, 23, 26]),
  (13, 3, [4, 5, 11, 12, 13], [1, 12, 19, 27]),
  (17, 7, [2, 5, 24, 25, 26], [1, 2, 3, 5, 10, 14, 17, 20, 25, 33, 35]),
  (20, 3, [4, 11, 12, 13], [10, 12, 19]),
  (23, 5, [13, 14, 15], [1, 8, 14, 20]),
  (25, 4, [1, 6, 7, 8, 13, 14, 15], [6, 7, 12, 14, 27, 30, 35, 40, 45, 46]),
  (26, 3, [2, 3, 4, 7, 8, 13, 14, 15], [7, 8, 14, 26, 28]),
  (29, 3, [5, 15, 16, 17], [10, 12, 14, 16, 30]),
  (34, 4, [0, 5, 6, 7, 11, 12, 13], [5, 7, 12, 19, 31]),
  (39, 4, [2, 18, 19, 20], [3, 14, 19, 26]),
  (42, 4, [0, 8, 9], [5, 8]),
  (45, 2, [1, 7, 8, 9], [8]),
  (55, 3, [3, 6, 7, 8], [7]),
  (69, 2, [0, 1, 5], [8, 15])]
def drws : List (Nat × Nat × List (List Nat)) := [(10, 6, [[], [], [], [], [], [], [1, 2, 3, 4], [1, 2], [], [], [], []]),
  (17, 9, [[], [], [], [0, 1], [], [], [], []]),
  (17, 12, [[], [], [], [], [], [], [], [], [], [], [], []]),
  (19, 3, [[], [], [], [], [], [], [], [], [], [], [], [], [], [], [], [], [1, 2, 3, 5, 6, 7, 9, 10, 11, 12, 14, 15], []]),
  (19, 4, [[], [], [], [], [], [], [], [], [], [], [], [], [], [], []]),
  (26, 5, [[], [], [], [], [], [], [], [0, 1], [], [], [], []]),
  (32, 4, [[], [], [], [], [1, 2], []]),
  (34, 8, [[], [], []]),
  (34, 13, [[], [], [], []]),
  (35, 6, [[], [], [], [], [], [], [], [], [], [], [], []]),
  (35, 20, [[], [], [], [], [], [], [], [], [], [], [], []]),
  (35, 22, [[], [], [], [], [], [], [], [], [], [], []]),
  (35, 26, [[], [], [], [], [], [], [], [], [], [], [], [], []]),
  (37, 3, [[], [], [], [0, 1, 2], [3], [3], [], [], []]),
  (43, 3, [[], [], [], [], [], [4], [4], [4], [4], [], [], [], [], []]),
  (61, 1, [[], [], [], [], [], [], [], []])]
def lvs : List (Nat × Nat × Nat) := [(3, 0, 15),
  (3, 1, 522),
  (3, 2, 3594),
  (3, 3, 7688),
  (3, 4, 15872),
  (3, 5, 549755829760),
  (3, 6, 7680),
  (3, 7, 56320),
  (3, 8, 247808),
  (3, 9, 256),
  (4, 0, 3),
  (4, 1, 32),
  (4, 2, 224),
  (4, 3, 992),
  (4, 4, 4032),
  (4, 5, 140737488356416),
  (4, 6, 16),
  (4, 7, 5184),
  (4, 8, 36028797018969152),
  (4, 9, 16),
  (4, 10, 73786976294838211648),
  (4, 11, 16),
  (4, 12, 16),
  (5, 0, 3),
  (5, 1, 32),
  (5, 2, 224),
  (5, 3, 480),
  (5, 4, 1504),
  (5, 5, 1125899906842720),
  (5, 6, 16),
  (5, 7, 15762598695796832),
  (5, 8, 33776997205278816),
  (5, 9, 15762598695805024),
  (5, 10, 147589715188372209760),
  (5, 11, 16),
  (5, 12, 15762598695796832),
  (5, 13, 16),
  (6, 0, 71),
  (6, 1, 198),
  (6, 2, 64),
  (7, 0, 3),
  (7, 1, 67),
  (7, 2, 3),
  (7, 3, 16),
  (8, 0, 0),
  (8, 1, 1),
  (9, 0, 6),
  (9, 1, 22),
  (9, 2, 278),
  (9, 3, 12),
  (9, 4, 12),
  (10, 0, 1),
  (10, 1, 8),
  (10, 2, 24),
  (10, 3, 7192),
  (10, 4, 15384),
  (10, 5, 7256),
  (10, 6, 7192),
  (10, 7, 7192),
  (10, 8, 4),
  (11, 0, 22),
  (11, 1, 86),
  (11, 2, 4182),
  (11, 3, 48),
  (11, 4, 404),
  (11, 5, 2097556),
  (11, 6, 48),
  (11, 7, 48),
  (12, 0, 2),
  (12, 1, 18),
  (12, 2, 274),
  (12, 3, 12),
  (12, 4, 12),
  (13, 0, 2),
  (13, 1, 50),
  (13, 2, 14384),
  (13, 3, 30768),
  (13, 4, 14512),
  (13, 5, 15152),
  (13, 6, 14384),
  (13, 7, 14384),
  (13, 8, 12),
  (14, 0, 2),
  (14, 1, 26),
  (14, 2, 2066),
  (14, 3, 4),
  (14, 4, 8194),
  (14, 5, 4),
  (14, 6, 4),
  (15, 0, 20),
  (15, 1, 16),
  (15, 5, 16),
  (16, 0, 466),
  (16, 1, 978),
  (16, 2, 8389586),
  (16, 3, 256),
  (16, 4, 1794),
  (16, 5, 4294969090),
  (16, 6, 256),
  (16, 7, 274877908736),
  (16, 8, 824633722624),
  (16, 9, 3328),
  (16, 10, 17592186047744),
  (16, 11, 256),
  (16, 12, 9024791440788736),
  (16, 13, 256),
  (16, 14, 288230376151715072),
  (16, 15, 256),
  (16, 16, 9223372036854777600),
  (16, 17, 5888),
  (16, 18, 13568),
  (16, 19, 256),
  (16, 20, 1208925819614629174712064),
  (16, 21, 256),
  (16, 22, 77371252455336267181201152),
  (16, 23, 256),
  (16, 24, 256),
  (17, 0, 6),
  (17, 1, 14),
  (17, 2, 262158),
  (17, 3, 4),
  (17, 4, 38),
  (17, 5, 38),
  (17, 6, 117440548),
  (17, 7, 251658276),
  (17, 8, 117440676),
  (17, 9, 117440548),
  (17, 10, 117440548),
  (17, 11, 144115188075855908),
  (17, 12, 4),
  (17, 13, 4),
  (18, 0, 25),
  (18, 1, 56),
  (18, 2, 120),
  (18, 3, 2072),
  (18, 4, 16),
  (18, 5, 16),
  (18, 6, 4194328),
  (18, 7, 16),
  (18, 8, 16),
  (19, 0, 5),
  (19, 1, 517),
  (19, 2, 4),
  (19, 3, 13),
  (19, 4, 13),
  (19, 5, 12),
  (19, 6, 4),
  (20, 0, 1),
  (20, 1, 17),
  (20, 2, 14352),
  (20, 3, 30736),
  (20, 4, 14416),
  (20, 5, 14544),
  (20, 6, 2111696),
  (20, 7, 12),
  (20, 8, 14928),
  (20, 9, 2147498064),
  (20, 10, 14352),
  (20, 11, 14352),
  (20, 12, 12),
  (21, 0, 25),
  (21, 1, 16409),
  (21, 2, 49177),
  (21, 3, 16),
  (21, 4, 540697),
  (21, 5, 112),
  (21, 6, 268435504),
  (21, 7, 16),
  (21, 8, 16),
  (21, 9, 2147500057),
  (21, 10, 2147500057),
  (21, 11, 409),
  (21, 12, 1125899906842777),
  (21, 13, 16),
  (21, 14, 16),
  (21, 15, 288230376151711769),
  (21, 16, 1561),
  (21, 17, 147573952589676413465),
  (21, 18, 16),
  (21, 19, 16),
  (21, 20, 6168),
  (21, 21, 154742504910672534362396696),
  (21, 22, 16),
  (21, 23, 16),
  (22, 0, 2),
  (22, 1, 8),
  (22, 2, 4),
  (23, 0, 2),
  (23, 1, 10),
  (23, 2, 1034),
  (23, 3, 4),
  (23, 4, 57344),
  (23, 5, 122880),
  (23, 6, 57376),
  (23, 7, 57408),
  (23, 8, 4251712),
  (23, 9, 4),
  (23, 10, 57344),
  (23, 11, 4),
  (24, 0, 2),
  (24, 1, 4),
  (25, 0, 71),
  (25, 1, 198),
  (25, 2, 454),
  (25, 3, 57794),
  (25, 4, 123330),
  (25, 5, 58818),
  (25, 6, 4253122),
  (25, 7, 57794),
  (25, 8, 57794),
  (25, 9, 137438953922),
  (25, 10, 64),
  (25, 11, 64),
  (26, 0, 159),
  (26, 1, 414),
  (26, 2, 57756),
  (26, 3, 123292),
  (26, 4, 58780),
  (26, 5, 57756),
  (26, 6, 57756),
  (26, 7, 128),
  (27, 0, 2),
  (27, 1, 4),
  (28, 0, 6),
  (28, 1, 1030),
  (28, 2, 6),
  (28, 3, 4),
  (28, 4, 4),
  (29, 0, 3),
  (29, 1, 32),
  (29, 2, 229408),
  (29, 3, 491552),
  (29, 4, 229600),
  (29, 5, 229408),
  (29, 6, 229408),
  (29, 7, 16),
  (30, 0, 2),
  (30, 1, 34),
  (30, 2, 4),
  (30, 3, 98),
  (30, 4, 10),
  (30, 5, 4106),
  (30, 6, 4),
  (30, 7, 16418),
  (30, 8, 8388610),
  (30, 9, 4),
  (30, 10, 16777250),
  (30, 11, 268435458),
  (30, 12, 4),
  (30, 13, 4),
  (30, 14, 4294967330),
  (30, 15, 68719476738),
  (30, 16, 4),
  (30, 17, 137438953474),
  (30, 18, 70368744177666),
  (30, 19, 4),
  (30, 20, 562949953421312),
  (30, 21, 4),
  (30, 22, 4),
  (31, 0, 5),
  (31, 1, 4),
  (32, 0, 25),
  (32, 1, 80),
  (32, 2, 33554512),
  (32, 3, 48),
  (32, 4, 48),
  (33, 0, 25),
  (33, 1, 48),
  (33, 2, 65584),
  (33, 3, 16),
  (33, 4, 16),
  (34, 0, 35),
  (34, 1, 99),
  (34, 2, 227),
  (34, 3, 14561),
  (34, 4, 30945),
  (34, 5, 15073),
  (34, 6, 15585),
  (34, 7, 4209889),
  (34, 8, 48),
  (34, 9, 67124449),
  (34, 10, 15585),
  (34, 11, 14561),
  (34, 12, 14561),
  (34, 13, 48),
  (35, 0, 19),
  (35, 1, 4115),
  (35, 2, 12307),
  (35, 3, 12307),
  (35, 4, 12307),
  (35, 5, 12307),
  (35, 6, 113),
  (35, 7, 536871025),
  (35, 8, 16),
  (35, 9, 16),
  (35, 10, 9223372036854779923),
  (35, 11, 147573952589676412946),
  (35, 12, 16),
  (35, 13, 16),
  (35, 14, 37778931862957161713683),
  (35, 15, 37778931862957161709587),
  (35, 16, 1208925819614629174706195),
  (35, 17, 16),
  (35, 18, 9671406556917033397649426),
  (35, 19, 16),
  (35, 20, 2535301200456458802993406410770),
  (35, 21, 16),
  (35, 22, 16),
  (35, 23, 41538374868278621028243970633760787),
  (35, 24, 16),
  (35, 25, 147),
  (35, 26, 913),
  (35, 27, 10889035741470030830827987437816582767504),
  (35, 28, 912),
  (35, 29, 3088),
  (35, 30, 5575186299632655785383929568162090376498192),
  (35, 31, 16),
  (35, 32, 16),
  (36, 0, 2),
  (36, 1, 18),
  (36, 2, 1042),
  (36, 3, 12),
  (36, 4, 34),
  (36, 5, 32),
  (36, 8, 12),
  (37, 0, 2),
  (37, 1, 1026),
  (37, 2, 4),
  (37, 3, 524290),
  (37, 4, 4),
  (37, 5, 2097154),
  (37, 6, 1073741824),
  (37, 7, 4),
  (37, 8, 2149580802),
  (37, 9, 9007199254740992),
  (37, 10, 4),
  (37, 11, 18014398509481986),
  (37, 12, 36893488147419103232),
  (37, 13, 4),
  (37, 14, 4),
  (38, 0, 6),
  (38, 1, 14),
  (38, 2, 10),
  (38, 3, 0),
  (39, 0, 14),
  (39, 1, 65548),
  (39, 2, 16),
  (39, 3, 1835012),
  (39, 4, 3932164),
  (39, 5, 1835076),
  (39, 6, 136052740),
  (39, 7, 16),
  (39, 8, 1835012),
  (39, 9, 16),
  (40, 0, 25),
  (40, 1, 49),
  (40, 2, 1072),
  (40, 3, 48),
  (40, 4, 16),
  (41, 0, 1),
  (41, 1, 256),
  (41, 2, 4),
  (41, 3, 4),
  (42, 0, 1),
  (42, 1, 65),
  (42, 2, 4),
  (42, 3, 769),
  (42, 4, 1793),
  (42, 5, 777),
  (42, 6, 2097921),
  (42, 7, 4),
  (42, 8, 769),
  (42, 9, 4),
  (43, 0, 12),
  (43, 1, 1048588),
  (43, 2, 48),
  (43, 3, 48),
  (44, 0, 5),
  (44, 1, 12),
  (44, 2, 4),
  (44, 3, 4),
  (45, 0, 3),
  (45, 1, 898),
  (45, 2, 1922),
  (45, 3, 962),
  (45, 4, 66434),
  (45, 5, 16),
  (45, 6, 898),
  (45, 7, 16),
  (46, 0, 3),
  (46, 1, 48),
  (47, 0, 3),
  (47, 1, 4099),
  (47, 2, 48),
  (47, 3, 48),
  (48, 0, 3),
  (48, 1, 4099),
  (48, 2, 48),
  (48, 3, 48),
  (49, 0, 3),
  (49, 1, 48),
  (50, 0, 3),
  (50, 1, 48),
  (53, 0, 1),
  (53, 1, 1),
  (54, 0, 1),
  (54, 1, 1025),
  (54, 2, 4),
  (54, 3, 33554432),
  (54, 4, 4),
  (54, 5, 4),
  (55, 0, 1),
  (55, 1, 9),
  (55, 2, 456),
  (55, 3, 968),
  (55, 4, 488),
  (55, 5, 16872),
  (55, 6, 4),
  (55, 7, 456),
  (55, 8, 4),
  (56, 0, 3),
  (56, 1, 35),
  (56, 2, 99),
  (56, 3, 2115),
  (56, 4, 4096),
  (56, 5, 16),
  (56, 6, 16),
  (56, 7, 8195),
  (56, 8, 16),
  (56, 9, 65539),
  (56, 10, 16),
  (56, 11, 524288),
  (56, 12, 16),
  (56, 13, 16),
  (57, 0, 3),
  (57, 1, 35),
  (57, 2, 99),
  (57, 3, 2115),
  (57, 4, 4096),
  (57, 5, 16),
  (57, 6, 16),
  (57, 7, 8195),
  (57, 8, 16),
  (57, 9, 65539),
  (57, 10, 16),
  (57, 11, 524288),
  (57, 12, 16),
  (57, 13, 16),
  (58, 0, 7),
  (58, 1, 131079),
  (58, 2, 192),
  (58, 3, 256),
  (58, 4, 768),
  (58, 5, 33555200),
  (58, 6, 192),
  (58, 7, 192),
  (59, 0, 3),
  (59, 1, 274877906947),
  (59, 2, 16),
  (59, 3, 16),
  (60, 0, 3),
  (60, 1, 32),
  (60, 2, 16),
  (61, 0, 3),
  (61, 1, 194),
  (61, 2, 4194498),
  (61, 3, 48),
  (61, 4, 48),
  (62, 0, 3),
  (62, 1, 64),
  (62, 2, 16),
  (63, 0, 3),
  (63, 1, 16),
  (64, 0, 3),
  (64, 1, 16),
  (68, 0, 1),
  (68, 1, 4),
  (69, 0, 3),
  (69, 1, 35),
  (69, 2, 65571),
  (69, 3, 35),
  (69, 4, 16),
  (70, 0, 1),
  (70, 1, 4),
  (71, 0, 1),
  (71, 1, 4),
  (72, 0, 1),
  (72, 1, 8),
  (72, 2, 24),
  (72, 3, 24),
  (72, 4, 24),
  (72, 5, 24),
  (72, 6, 24),
  (72, 7, 24),
  (72, 8, 16),
  (72, 9, 4),
  (72, 10, 4),
  (73, 0, 1),
  (73, 1, 4),
  (74, 0, 1),
  (74, 1, 4),
  (84, 0, 3),
  (84, 1, 16)]
def cmpsL : List Nat := [24]
def ress : List (Nat × Nat) := []
def opnsL : List Nat := []
def mutsL : List (Nat × Nat) := [(35, 26)]
def rosL : List (Nat × Nat × String) := [(3, 7, "raw.go:91"), (9, 3, "names.go:46"), (27, 1, "expr.go:40"), (27, 1, "expr.go:50"), (27, 1, "expr.go:75"), (27, 1, "expr.go:88"), (27, 1, "fold.go:13"), (27, 1, "fold.go:28"), (27, 1, "fold.go:44"), (27, 1, "fold.go:52"), (27, 1, "names.go:15"), (27, 1, "names.go:34"), (27, 2, "eval.go:156"), (27, 2, "names.go:46"), (27, 3, "eval.go:43"), (27, 3, "eval.go:52"), (27, 3, "eval.go:61"), (27, 3, "names.go:18"), (30, 6, "raw.go:91"), (86, 2, "names.go:16")]
def thaws : List (Nat × Nat × Nat) := [(10, 30, 0)]
def lendsL : List Nat := [11]
def primsL : List Nat := [15]
noncomputable def primF (f : Nat) : Option (List DV → Option (AV × Heap)) := if f = 15 then some hasP else none
def altsL : List Nat := []

noncomputable def tab : Tab where
  fn := fun k => if goodF.contains k then Try.prog.funcs[k]? else none
  und := Try.prog.underlying
  inf := look infs
  keep := look2 keeps
  opn := fun f => opnsL.contains f
  res := look ress
  cmp := fun t => cmpsL.contains t
  drw := look2 drws
  lv := look2 lvs
  prim := primF
  mutA := fun t k => (mutsL.filter fun e => e.1 == t && e.2 == k).length != 0
  thaw := look2 thaws
  lend := fun f => lendsL.contains f
  ro := fun t k p => rosL.any fun e => e.1 == t && e.2.1 == k && e.2.2 == p
  alt := fun f => altsL.contains f

def fnGood (L : Nat → Option (List (List Nat))) : Option Func → Bool
  | some F => !(F.name == "runtime.NumGoroutine") && match F.body with
    | some c => dstsOk F.ntmps c && drawsOk L c
    | none => false
  | none => false
theorem allGood : (goodF.all fun k => fnGood (look2 drws k) Try.prog.funcs[k]?) = true := by kernel_rfl
def crepB : Value → AV → Bool
  | .int k n, .d (.int j m) => k == j && n == m
  | .bool b, .d (.bool c) => b == c
  | .string s, .d (.str l) => s.data.toList == l
  | .slice none 0 0, .own _ [] none => true
  | .nilFunc, .d .nilf => true
  | v, .d .any => leafV v
  | _, _ => false
theorem crepB_ok {v : Value} {x : AV} (h : crepB v x = true) : CRep v x := by
  unfold crepB at h
  split at h
  · simp only [Bool.and_eq_true, beq_iff_eq] at h
    obtain ⟨rfl, rfl⟩ := h
    exact .int _ _
  · simp only [beq_iff_eq] at h
    subst h
    exact .bool _
  · simp only [beq_iff_eq] at h
    subst h
    exact .str _
  · exact .nilsl _
  · exact .nilf
  · exact .anyv _ h
  · cases h
def crepsB : List Value → List AV → Bool
  | [], [] => true
  | v :: vs, x :: xs => crepB v x && crepsB vs xs
  | _, _ => false
theorem crepsB_ok : ∀ (vs : List Value) (xs : List AV), crepsB vs xs = true → vs.length = xs.length ∧ ∀ (j : Nat) y, xs[j]? = some y → ∃ u, vs[j]? = some u ∧ CRep u y
  | [], [], h => ⟨rfl, fun j y hy => by simp at hy⟩
  | v :: vs, x :: xs, h => by
    simp only [crepsB, Bool.and_eq_true] at h
    obtain ⟨h1, h2⟩ := crepsB_ok vs xs h.2
    refine ⟨by simp [h1], fun j y hy => ?_⟩
    cases j with
    | zero =>
      have : x = y := by simpa using hy
      subst this
      exact ⟨v, rfl, crepB_ok h.1⟩
    | succ j => exact h2 j y (by simpa using hy)
  | [], _ :: _, h => by simp [crepsB] at h
  | _ :: _, [], h => by simp [crepsB] at h
/-- A type's zero value is a struct's where the type is one. -/
def zagB (P : Program) (t : Nat) (v : Value) : Bool := match P.underlying t with
  | some (.struct _) | some (.array _ _) => !leafV v && (match v with | .agg _ => true | _ => false)
  | some _ => leafV v
  | none => true
def infGoodP (P : Program) (e : Nat × Nat × Nat × List AV) : Bool := match P.types[e.1]? with
  | some i => i.size == e.2.1 && i.bytes == e.2.2.1 && match i.zero with
    | some zv => zagB P e.1 zv && zv.cells.size == e.2.1 && crepsB zv.cells.toList e.2.2.2
    | none => false
  | none => false
theorem allInf : (infs.all (infGoodP Try.prog)) = true := by kernel_rfl
theorem look_mem {α : Type} : ∀ (l : List (Nat × α)) (k : Nat) (x : α), look l k = some x → (k, x) ∈ l
  | [], k, x, h => by simp [look] at h
  | (i, y) :: r, k, x, h => by
    simp only [look] at h
    split at h
    · rename_i hi
      injection h with h
      subst hi; subst h
      simp
    · exact List.mem_cons_of_mem _ (look_mem r k x h)

theorem tab_fn {k : Nat} {F : Func} (h1 : goodF.contains k = true) (h2 : Try.prog.funcs[k]? = some F) : tab.fn k = some F := by
  simp only [tab]
  rw [if_pos h1]
  exact h2
theorem tab_und (t : Nat) : tab.und t = Try.prog.underlying t := by simp only [tab]
theorem tab_inf0 (t : Nat) : tab.inf t = look infs t := by simp only [tab]
theorem tab_inf {t : Nat} {d : Option (Nat × Nat × List AV)} (h : look infs t = d) : tab.inf t = d := by
  simp only [tab]
  exact h
theorem tab_keep {f r : Nat} {d : Option (List Nat × List Nat)} (h : look2 keeps f r = d) : tab.keep f r = d := by
  simp only [tab]
  exact h
theorem tab_drw {f r : Nat} {d : Option (List (List Nat))} (h : look2 drws f r = d) : tab.drw f r = d := by
  simp only [tab]
  exact h
theorem tab_lv {f r : Nat} {d : Option Nat} (h : look2 lvs f r = d) : tab.lv f r = d := by
  simp only [tab]
  exact h
theorem tab_opn {f : Nat} {b : Bool} (h : opnsL.contains f = b) : tab.opn f = b := by
  simp only [tab]
  exact h
theorem tab_cmp {t : Nat} {b : Bool} (h : cmpsL.contains t = b) : tab.cmp t = b := by
  simp only [tab]
  exact h
theorem tab_mut {t k : Nat} {b : Bool} (h : ((mutsL.filter fun e => e.1 == t && e.2 == k).length != 0) = b) : tab.mutA t k = b := by
  simp only [tab]
  exact h
theorem tab_ro {t k : Nat} {p : String} {b : Bool} (h : (rosL.any fun e => e.1 == t && e.2.1 == k && e.2.2 == p) = b) : tab.ro t k p = b := by
  simp only [tab]
  exact h
theorem tab_thaw {f k : Nat} {d : Option Nat} (h : look2 thaws f k = d) : tab.thaw f k = d := by
  simp only [tab]
  exact h
theorem tab_lend {f : Nat} {b : Bool} (h : lendsL.contains f = b) : tab.lend f = b := by
  simp only [tab]
  exact h
theorem look2_none {α : Type} : ∀ (l : List (Nat × Nat × α)) (f k : Nat), (l.all fun e => e.1 != f) = true → look2 l f k = none
  | [], _, _, _ => rfl
  | (i, j, x) :: r, f, k, h => by
    simp only [List.all_cons, Bool.and_eq_true, bne_iff_ne] at h
    simp only [look2]
    rw [if_neg (fun e => h.1 e.1)]
    exact look2_none r f k h.2
/-- The call's answer is taken over deep. -/
def Plain (f : Nat) : Prop := tab.res f = none ∧ (∀ k, tab.thaw f k = none) ∧ tab.prim f = none
theorem tab_nprim {f : Nat} (h : primsL.contains f = false) : tab.prim f = none := by
  simp only [tab, primF]
  simp [primsL] at h
  simp [h]
theorem tab_res {f : Nat} (h : ((look ress f).isNone && (thaws.all fun e => e.1 != f) && !(primsL.contains f)) = true) : Plain f := by
  simp only [Bool.and_eq_true, Option.isNone_iff_eq_none, Bool.not_eq_true'] at h
  exact ⟨by simp only [tab]; exact h.1.1, fun k => by simp only [tab]; exact look2_none _ _ _ h.1.2, tab_nprim h.2⟩
theorem isAlt_tab {f : Nat} {args : List AV} {H : Heap} (h : altsL.contains f = false) : isAlt tab f args H = false := by
  simp only [isAlt, tab, h, Bool.false_and]
theorem tab_alt {f : Nat} {b : Bool} (h : altsL.contains f = b) : tab.alt f = b := by
  simp only [tab]
  exact h

theorem info_of {P : Program} {t : Nat} {i : TypeInfo} (h : P.types[t]? = some i) : P.info? t = some i := by
  have : t < P.types.size := (Array.getElem?_eq_some_iff.1 h).1
  show Tables.info? P.toTables t = some i
  unfold Tables.info?
  rw [if_pos this]
  exact h
theorem infGood_ok {P : Program} {t n b : Nat} {z : List AV} (h1 : infGoodP P (t, n, b, z) = true) : ∃ i zv, P.info? t = some i ∧ i.size = n ∧ i.bytes = b ∧ i.zero = some zv ∧ zv.cells.size = n ∧ z.length = n ∧
    ∀ (j : Nat) y, z[j]? = some y → ∃ u, zv.cells[j]? = some u ∧ CRep u y := by
  unfold infGoodP at h1
  simp only at h1
  cases hi : P.types[t]? with
  | none => rw [hi] at h1; simp at h1
  | some i =>
    rw [hi] at h1
    simp only [Bool.and_eq_true, beq_iff_eq] at h1
    obtain ⟨⟨h2, h3⟩, h4⟩ := h1
    cases hz : i.zero with
    | none => rw [hz] at h4; simp at h4
    | some zv =>
      rw [hz] at h4
      simp only [Bool.and_eq_true, beq_iff_eq] at h4
      have h4 : zv.cells.size = n ∧ crepsB zv.cells.toList z = true := ⟨h4.1.2, h4.2⟩
      obtain ⟨h5, h6⟩ := crepsB_ok _ _ h4.2
      refine ⟨i, zv, info_of hi, h2, h3, hz, h4.1, by simp at h5; omega, fun j y hy => ?_⟩
      obtain ⟨u, h7, h8⟩ := h6 j y hy
      exact ⟨u, by simpa using h7, h8⟩
theorem zag_ok {P : Program} {t n b : Nat} {z : List AV} (h1 : infGoodP P (t, n, b, z) = true) {i : TypeInfo} {zv : Value} (hi : P.info? t = some i) (hz : i.zero = some zv) : zagB P t zv = true := by
  unfold infGoodP at h1
  simp only at h1
  cases hj : P.types[t]? with
  | none => rw [hj] at h1; simp at h1
  | some j =>
    have hij : j = i := by
      have := info_of hj
      rw [hi] at this
      injection this with this
      exact this.symm
    subst hij
    rw [hj] at h1
    simp only [Bool.and_eq_true, beq_iff_eq, hz] at h1
    exact h1.2.1.1
theorem inf_ok (t n b : Nat) (z : List AV) (h : look infs t = some (n, b, z)) : ∃ i zv, Try.prog.info? t = some i ∧ i.size = n ∧ i.bytes = b ∧ i.zero = some zv ∧ zv.cells.size = n ∧ z.length = n ∧
    ∀ (j : Nat) y, z[j]? = some y → ∃ u, zv.cells[j]? = some u ∧ CRep u y := by
  exact infGood_ok ((List.all_eq_true (l := infs) (p := infGoodP Try.prog)).1 allInf (t, n, b, z) (look_mem infs t (n, b, z) h))
theorem tab_zag (t n b : Nat) (z : List AV) (i : TypeInfo) (zv : Value) (h : tab.inf t = some (n, b, z)) (hi : Try.prog.info? t = some i) (hz : i.zero = some zv) (q : Bool) (hq : isAgg tab t = some q) :
    (q = true → ∃ cs, zv = .agg cs) ∧ (q = false → leafV zv = true) := by
  have h1 := zag_ok ((List.all_eq_true (l := infs) (p := infGoodP Try.prog)).1 allInf (t, n, b, z) (look_mem infs t (n, b, z) ((tab_inf0 t).symm.trans h))) hi hz
  unfold zagB at h1
  unfold isAgg at hq
  rw [tab_und t] at hq
  cases hd : Try.prog.underlying t with
  | none => rw [hd] at hq; cases hq
  | some d =>
    rw [hd] at h1 hq
    cases d <;> simp only [Option.some.injEq] at hq h1 <;> subst hq <;> refine ⟨fun h => ?_, fun h => ?_⟩ <;> first
      | exact h1
      | (cases h; done)
      | (simp only [Bool.and_eq_true] at h1; cases zv <;> first | exact ⟨_, rfl⟩ | simp at h1)
theorem tab_ok : tab.Ok Try.prog where
  fn := fun f F h => by
    simp only [tab] at h
    split at h
    · rename_i hg
      have h1 := List.all_eq_true.1 allGood f (by simpa using hg)
      rw [h] at h1
      simp only [fnGood, Bool.and_eq_true, Bool.not_eq_true'] at h1
      cases hb : F.body with
      | none => rw [hb] at h1; simp at h1
      | some c =>
        rw [hb] at h1
        simp only [Bool.and_eq_true] at h1
        exact ⟨h, h1.1, c, rfl, h1.2.1⟩
    · cases h
  und := fun t d h => (tab_und t).symm.trans h
  inf := fun t n b z h => inf_ok t n b z ((tab_inf0 t).symm.trans h)
  mix := by kernel_rfl
  zag := tab_zag
  drw := fun f F c h hb => by
    simp only [tab] at h
    split at h
    · rename_i hg
      have h1 := List.all_eq_true.1 allGood f (by simpa using hg)
      rw [h] at h1
      simp only [fnGood, Bool.and_eq_true, hb] at h1
      exact h1.2.2
    · cases h
  cmp := fun t h => by
    have h1 : (cmpsL.all fun t => !Try.prog.stoodInHeld t && !Try.prog.eqGuardType Try.prog.depth t) = true := by kernel_rfl
    have h2 := List.all_eq_true.1 h1 t (by simpa [tab] using h)
    simpa using h2

theorem prim_ok : PrimOk Try.prog tab := fun f p h => by
  simp only [tab, primF] at h
  by_cases h15 : f = 15
  · subst h15
    simp at h
    subst h
    exact ⟨⟨Try.f15, by simp only [tab]; exact (if_pos (by kernel_rfl)).trans Try.func15⟩, has_one⟩
  simp [h15] at h
theorem prim15 : tab.prim 15 = some hasP := by simp [tab, primF]
theorem fn3 : tab.fn 3 = some Try.f3 := tab_fn (by kernel_rfl) Try.func3
theorem fn4 : tab.fn 4 = some Try.f4 := tab_fn (by kernel_rfl) Try.func4
theorem fn5 : tab.fn 5 = some Try.f5 := tab_fn (by kernel_rfl) Try.func5
theorem fn6 : tab.fn 6 = some Try.f6 := tab_fn (by kernel_rfl) Try.func6
theorem fn7 : tab.fn 7 = some Try.f7 := tab_fn (by kernel_rfl) Try.func7
theorem fn8 : tab.fn 8 = some Try.f8 := tab_fn (by kernel_rfl) Try.func8
theorem fn9 : tab.fn 9 = some Try.f9 := tab_fn (by kernel_rfl) Try.func9
theorem fn10 : tab.fn 10 = some Try.f10 := tab_fn (by kernel_rfl) Try.func10
theorem fn11 : tab.fn 11 = some Try.f11 := tab_fn (by kernel_rfl) Try.func11
theorem fn12 : tab.fn 12 = some Try.f12 := tab_fn (by kernel_rfl) Try.func12
theorem fn13 : tab.fn 13 = some Try.f13 := tab_fn (by kernel_rfl) Try.func13
theorem fn14 : tab.fn 14 = some Try.f14 := tab_fn (by kernel_rfl) Try.func14
theorem fn15 : tab.fn 15 = some Try.f15 := tab_fn (by kernel_rfl) Try.func15
theorem fn16 : tab.fn 16 = some Try.f16 := tab_fn (by kernel_rfl) Try.func16
theorem fn17 : tab.fn 17 = some Try.f17 := tab_fn (by kernel_rfl) Try.func17
theorem fn18 : tab.fn 18 = some Try.f18 := tab_fn (by kernel_rfl) Try.func18
theorem fn19 : tab.fn 19 = some Try.f19 := tab_fn (by kernel_rfl) Try.func19
theorem fn20 : tab.fn 20 = some Try.f20 := tab_fn (by kernel_rfl) Try.func20
theorem fn21 : tab.fn 21 = some Try.f21 := tab_fn (by kernel_rfl) Try.func21
theorem fn22 : tab.fn 22 = some Try.f22 := tab_fn (by kernel_rfl) Try.func22
theorem fn23 : tab.fn 23 = some Try.f23 := tab_fn (by kernel_rfl) Try.func23
theorem fn24 : tab.fn 24 = some Try.f24 := tab_fn (by kernel_rfl) Try.func24
theorem fn25 : tab.fn 25 = some Try.f25 := tab_fn (by kernel_rfl) Try.func25
theorem fn26 : tab.fn 26 = some Try.f26 := tab_fn (by kernel_rfl) Try.func26
theorem fn27 : tab.fn 27 = some Try.f27 := tab_fn (by kernel_rfl) Try.func27
theorem fn28 : tab.fn 28 = some Try.f28 := tab_fn (by kernel_rfl) Try.func28
theorem fn29 : tab.fn 29 = some Try.f29 := tab_fn (by kernel_rfl) Try.func29
theorem fn30 : tab.fn 30 = some Try.f30 := tab_fn (by kernel_rfl) Try.func30
theorem fn31 : tab.fn 31 = some Try.f31 := tab_fn (by kernel_rfl) Try.func31
theorem fn32 : tab.fn 32 = some Try.f32 := tab_fn (by kernel_rfl) Try.func32
theorem fn33 : tab.fn 33 = some Try.f33 := tab_fn (by kernel_rfl) Try.func33
theorem fn34 : tab.fn 34 = some Try.f34 := tab_fn (by kernel_rfl) Try.func34
theorem fn35 : tab.fn 35 = some Try.f35 := tab_fn (by kernel_rfl) Try.func35
theorem fn36 : tab.fn 36 = some Try.f36 := tab_fn (by kernel_rfl) Try.func36
theorem fn37 : tab.fn 37 = some Try.f37 := tab_fn (by kernel_rfl) Try.func37
theorem fn38 : tab.fn 38 = some Try.f38 := tab_fn (by kernel_rfl) Try.func38
theorem fn39 : tab.fn 39 = some Try.f39 := tab_fn (by kernel_rfl) Try.func39
theorem fn40 : tab.fn 40 = some Try.f40 := tab_fn (by kernel_rfl) Try.func40
theorem fn41 : tab.fn 41 = some Try.f41 := tab_fn (by kernel_rfl) Try.func41
theorem fn42 : tab.fn 42 = some Try.f42 := tab_fn (by kernel_rfl) Try.func42
theorem fn43 : tab.fn 43 = some Try.f43 := tab_fn (by kernel_rfl) Try.func43
theorem fn44 : tab.fn 44 = some Try.f44 := tab_fn (by kernel_rfl) Try.func44
theorem fn45 : tab.fn 45 = some Try.f45 := tab_fn (by kernel_rfl) Try.func45
theorem fn46 : tab.fn 46 = some Try.f46 := tab_fn (by kernel_rfl) Try.func46
theorem fn47 : tab.fn 47 = some Try.f47 := tab_fn (by kernel_rfl) Try.func47
theorem fn48 : tab.fn 48 = some Try.f48 := tab_fn (by kernel_rfl) Try.func48
theorem fn49 : tab.fn 49 = some Try.f49 := tab_fn (by kernel_rfl) Try.func49
theorem fn50 : tab.fn 50 = some Try.f50 := tab_fn (by kernel_rfl) Try.func50
theorem fn53 : tab.fn 53 = some Try.f53 := tab_fn (by kernel_rfl) Try.func53
theorem fn54 : tab.fn 54 = some Try.f54 := tab_fn (by kernel_rfl) Try.func54
theorem fn55 : tab.fn 55 = some Try.f55 := tab_fn (by kernel_rfl) Try.func55
theorem fn56 : tab.fn 56 = some Try.f56 := tab_fn (by kernel_rfl) Try.func56
theorem fn57 : tab.fn 57 = some Try.f57 := tab_fn (by kernel_rfl) Try.func57
theorem fn58 : tab.fn 58 = some Try.f58 := tab_fn (by kernel_rfl) Try.func58
theorem fn59 : tab.fn 59 = some Try.f59 := tab_fn (by kernel_rfl) Try.func59
theorem fn60 : tab.fn 60 = some Try.f60 := tab_fn (by kernel_rfl) Try.func60
theorem fn61 : tab.fn 61 = some Try.f61 := tab_fn (by kernel_rfl) Try.func61
theorem fn62 : tab.fn 62 = some Try.f62 := tab_fn (by kernel_rfl) Try.func62
theorem fn63 : tab.fn 63 = some Try.f63 := tab_fn (by kernel_rfl) Try.func63
theorem fn64 : tab.fn 64 = some Try.f64 := tab_fn (by kernel_rfl) Try.func64
theorem fn68 : tab.fn 68 = some Try.f68 := tab_fn (by kernel_rfl) Try.func68
theorem fn69 : tab.fn 69 = some Try.f69 := tab_fn (by kernel_rfl) Try.func69
theorem fn70 : tab.fn 70 = some Try.f70 := tab_fn (by kernel_rfl) Try.func70
theorem fn71 : tab.fn 71 = some Try.f71 := tab_fn (by kernel_rfl) Try.func71
theorem fn72 : tab.fn 72 = some Try.f72 := tab_fn (by kernel_rfl) Try.func72
theorem fn73 : tab.fn 73 = some Try.f73 := tab_fn (by kernel_rfl) Try.func73
theorem fn74 : tab.fn 74 = some Try.f74 := tab_fn (by kernel_rfl) Try.func74
theorem fn84 : tab.fn 84 = some Try.f84 := tab_fn (by kernel_rfl) Try.func84
theorem inf1 : tab.inf 1 = some (1, 8, [.d .nilf]) := tab_inf (by kernel_rfl)
theorem inf2 : tab.inf 2 = some (1, 8, [.d (.int .i64 0)]) := tab_inf (by kernel_rfl)
theorem inf3 : tab.inf 3 = some (1, 8, [.d (.int .i64 0)]) := tab_inf (by kernel_rfl)
theorem inf4 : tab.inf 4 = some (1, 1, [.d (.bool false)]) := tab_inf (by kernel_rfl)
theorem inf5 : tab.inf 5 = some (1, 1, [.d (.int .u8 0)]) := tab_inf (by kernel_rfl)
theorem inf9 : tab.inf 9 = some (1, 16, [.d (.str [])]) := tab_inf (by kernel_rfl)
theorem inf22 : tab.inf 22 = some (1, 24, [.own 4 [] none]) := tab_inf (by kernel_rfl)
theorem inf24 : tab.inf 24 = some (3, 32, [.d (.int .i64 0), .d (.int .i64 0), .d (.str [])]) := tab_inf (by kernel_rfl)
theorem inf25 : tab.inf 25 = some (1, 24, [.own 6 [] none]) := tab_inf (by kernel_rfl)
theorem inf27 : tab.inf 27 = some (6, 80, [.d (.int .i64 0), .d (.int .i64 0), .d (.int .i64 0), .d (.str []), .d (.str []), .own 6 [] none]) := tab_inf (by kernel_rfl)
theorem inf29 : tab.inf 29 = some (1, 8, [.d .nilf]) := tab_inf (by kernel_rfl)
theorem inf30 : tab.inf 30 = some (1, 24, [.own 9 [] none]) := tab_inf (by kernel_rfl)
theorem inf32 : tab.inf 32 = some (1, 8, [.d (.int .i64 0)]) := tab_inf (by kernel_rfl)
theorem inf35 : tab.inf 35 = some (1, 24, [.own 7 [] none]) := tab_inf (by kernel_rfl)
theorem inf38 : tab.inf 38 = some (7, 80, [.d (.str []), .d (.int .i64 0), .d (.int .i64 0), .d (.str []), .d (.int .i64 0), .d (.int .i64 0), .d (.str [])]) := tab_inf (by kernel_rfl)
theorem inf49 : tab.inf 49 = some (9, 112, [.d (.str []), .d (.int .i64 0), .d (.int .i64 0), .d (.int .i64 0), .d (.int .i64 0), .d (.int .i64 0), .d (.str []), .d (.str []), .own 6 [] none]) := tab_inf (by kernel_rfl)
theorem inf51 : tab.inf 51 = some (1, 8, [.d .any]) := tab_inf (by kernel_rfl)
theorem inf53 : tab.inf 53 = some (2, 32, [.own 4 [] none, .d (.int .i64 0)]) := tab_inf (by kernel_rfl)
theorem inf58 : tab.inf 58 = some (4, 40, [.d (.int .i64 0), .d (.int .i64 0), .d (.int .i64 0), .d (.str [])]) := tab_inf (by kernel_rfl)
theorem inf65 : tab.inf 65 = some (1, 8, [.d .nilf]) := tab_inf (by kernel_rfl)
theorem inf66 : tab.inf 66 = some (1, 8, [.d .nilf]) := tab_inf (by kernel_rfl)
theorem inf67 : tab.inf 67 = some (1, 8, [.d .nilf]) := tab_inf (by kernel_rfl)
theorem inf70 : tab.inf 70 = some (1, 24, [.own 1 [] none]) := tab_inf (by kernel_rfl)
theorem inf71 : tab.inf 71 = some (1, 8, [.d .nilf]) := tab_inf (by kernel_rfl)
theorem inf79 : tab.inf 79 = some (1, 24, [.own 3 [] none]) := tab_inf (by kernel_rfl)
theorem inf83 : tab.inf 83 = some (1, 24, [.own 1 [] none]) := tab_inf (by kernel_rfl)
theorem inf86 : tab.inf 86 = some (1, 8, [.d .nilf]) := tab_inf (by kernel_rfl)
theorem inf88 : tab.inf 88 = some (1, 24, [.own 1 [] none]) := tab_inf (by kernel_rfl)
theorem inf95 : tab.inf 95 = some (1, 8, [.d .nilf]) := tab_inf (by kernel_rfl)
theorem inf101 : tab.inf 101 = some (3, 32, [.d (.str []), .d (.int .i64 0), .d (.int .i64 0)]) := tab_inf (by kernel_rfl)
theorem inf102 : tab.inf 102 = some (57, 608, [.d (.str []), .d (.int .i64 0), .d (.int .i64 0), .d (.str []), .d (.int .i64 0), .d (.int .i64 0), .d (.str []), .d (.int .i64 0), .d (.int .i64 0), .d (.str []), .d (.int .i64 0), .d (.int .i64 0), .d (.str []), .d (.int .i64 0), .d (.int .i64 0), .d (.str []), .d (.int .i64 0), .d (.int .i64 0), .d (.str []), .d (.int .i64 0), .d (.int .i64 0), .d (.str []), .d (.int .i64 0), .d (.int .i64 0), .d (.str []), .d (.int .i64 0), .d (.int .i64 0), .d (.str []), .d (.int .i64 0), .d (.int .i64 0), .d (.str []), .d (.int .i64 0), .d (.int .i64 0), .d (.str []), .d (.int .i64 0), .d (.int .i64 0), .d (.str []), .d (.int .i64 0), .d (.int .i64 0), .d (.str []), .d (.int .i64 0), .d (.int .i64 0), .d (.str []), .d (.int .i64 0), .d (.int .i64 0), .d (.str []), .d (.int .i64 0), .d (.int .i64 0), .d (.str []), .d (.int .i64 0), .d (.int .i64 0), .d (.str []), .d (.int .i64 0), .d (.int .i64 0), .d (.str []), .d (.int .i64 0), .d (.int .i64 0)]) := tab_inf (by kernel_rfl)
theorem inf109 : tab.inf 109 = some (1, 8, [.d .nilf]) := tab_inf (by kernel_rfl)
end Go.Proofs.Ythmggkidmcgfoaa.Am
