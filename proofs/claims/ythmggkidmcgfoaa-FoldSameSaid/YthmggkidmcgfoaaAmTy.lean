/- The table's entries, one by one. Printed by genty.py. -/
import Derived.Test.YthmggkidmcgfoaaAmRule
set_option linter.unusedVariables false
set_option linter.unusedSimpArgs false
namespace Go.Proofs.Ythmggkidmcgfoaa.Am
open Go Go.RowKit
set_option maxRecDepth 100000
theorem und1 : tab.und 1 = some (.func #[] #[] false) := (tab_und 1).trans Try.underlying1
theorem sz1 : size tab 1 = some 1 := by simp only [size, inf1, Option.map]
theorem ag1 : isAgg tab 1 = some false := by simp only [isAgg, und1]
theorem und2 : tab.und 2 = some (.int .i64) := (tab_und 2).trans Try.underlying2
theorem sz2 : size tab 2 = some 1 := by simp only [size, inf2, Option.map]
theorem ag2 : isAgg tab 2 = some false := by simp only [isAgg, und2]
theorem und3 : tab.und 3 = some (.int .i64) := (tab_und 3).trans Try.underlying3
theorem sz3 : size tab 3 = some 1 := by simp only [size, inf3, Option.map]
theorem ag3 : isAgg tab 3 = some false := by simp only [isAgg, und3]
theorem und4 : tab.und 4 = some (.bool) := (tab_und 4).trans Try.underlying4
theorem sz4 : size tab 4 = some 1 := by simp only [size, inf4, Option.map]
theorem ag4 : isAgg tab 4 = some false := by simp only [isAgg, und4]
theorem und5 : tab.und 5 = some (.int .u8) := (tab_und 5).trans Try.underlying5
theorem sz5 : size tab 5 = some 1 := by simp only [size, inf5, Option.map]
theorem ag5 : isAgg tab 5 = some false := by simp only [isAgg, und5]
theorem und9 : tab.und 9 = some (.string) := (tab_und 9).trans Try.underlying9
theorem sz9 : size tab 9 = some 1 := by simp only [size, inf9, Option.map]
theorem ag9 : isAgg tab 9 = some false := by simp only [isAgg, und9]
theorem und22 : tab.und 22 = some (.slice 58) := (tab_und 22).trans Try.underlying22
theorem sz22 : size tab 22 = some 1 := by simp only [size, inf22, Option.map]
theorem ag22 : isAgg tab 22 = some false := by simp only [isAgg, und22]
theorem pT22 {i : Nat} : partType tab 22 i = 58 := by simp only [partType, und22]
theorem und24 : tab.und 24 = some (.struct #[{ name := "Kind", type := 3, offset := 0, embedded := false, tag := "", pkgPath := "", byteOffset := 0 }, { name := "N", type := 3, offset := 1, embedded := false, tag := "", pkgPath := "", byteOffset := 8 }, { name := "S", type := 9, offset := 2, embedded := false, tag := "", pkgPath := "", byteOffset := 16 }]) := (tab_und 24).trans Try.underlying24
theorem sz24 : size tab 24 = some 3 := by simp only [size, inf24, Option.map]
theorem ag24 : isAgg tab 24 = some true := by simp only [isAgg, und24]
theorem fo24 : fieldsOf tab 24 = some [{ name := "Kind", type := 3, offset := 0, embedded := false, tag := "", pkgPath := "", byteOffset := 0 }, { name := "N", type := 3, offset := 1, embedded := false, tag := "", pkgPath := "", byteOffset := 8 }, { name := "S", type := 9, offset := 2, embedded := false, tag := "", pkgPath := "", byteOffset := 16 }] := by simp only [fieldsOf, und24]
theorem pl24 : placesL tab [{ name := "Kind", type := 3, offset := 0, embedded := false, tag := "", pkgPath := "", byteOffset := 0 }, { name := "N", type := 3, offset := 1, embedded := false, tag := "", pkgPath := "", byteOffset := 8 }, { name := "S", type := 9, offset := 2, embedded := false, tag := "", pkgPath := "", byteOffset := 16 }] = some [(0, 1), (1, 1), (2, 1)] := by simp only [placesL, sz3, sz9]
theorem bA24 {z : List AV} {ps : List (Nat × AV)} : buildA tab 24 z ps = fillA (fun i => [(0, 1), (1, 1), (2, 1)][i]?) z ps := bA_struct und24 pl24
theorem pT24_0 : partType tab 24 0 = 3 := by simp only [partType, und24]; rfl
theorem pT24_1 : partType tab 24 1 = 3 := by simp only [partType, und24]; rfl
theorem pT24_2 : partType tab 24 2 = 9 := by simp only [partType, und24]; rfl
theorem und25 : tab.und 25 = some (.slice 27) := (tab_und 25).trans Try.underlying25
theorem sz25 : size tab 25 = some 1 := by simp only [size, inf25, Option.map]
theorem ag25 : isAgg tab 25 = some false := by simp only [isAgg, und25]
theorem pT25 {i : Nat} : partType tab 25 i = 27 := by simp only [partType, und25]
theorem und27 : tab.und 27 = some (.struct #[{ name := "Op", type := 3, offset := 0, embedded := false, tag := "", pkgPath := "", byteOffset := 0 }, { name := "V", type := 24, offset := 1, embedded := false, tag := "", pkgPath := "", byteOffset := 8 }, { name := "Name", type := 9, offset := 4, embedded := false, tag := "", pkgPath := "", byteOffset := 40 }, { name := "Args", type := 25, offset := 5, embedded := false, tag := "", pkgPath := "", byteOffset := 56 }]) := (tab_und 27).trans Try.underlying27
theorem sz27 : size tab 27 = some 6 := by simp only [size, inf27, Option.map]
theorem ag27 : isAgg tab 27 = some true := by simp only [isAgg, und27]
theorem fo27 : fieldsOf tab 27 = some [{ name := "Op", type := 3, offset := 0, embedded := false, tag := "", pkgPath := "", byteOffset := 0 }, { name := "V", type := 24, offset := 1, embedded := false, tag := "", pkgPath := "", byteOffset := 8 }, { name := "Name", type := 9, offset := 4, embedded := false, tag := "", pkgPath := "", byteOffset := 40 }, { name := "Args", type := 25, offset := 5, embedded := false, tag := "", pkgPath := "", byteOffset := 56 }] := by simp only [fieldsOf, und27]
theorem pl27 : placesL tab [{ name := "Op", type := 3, offset := 0, embedded := false, tag := "", pkgPath := "", byteOffset := 0 }, { name := "V", type := 24, offset := 1, embedded := false, tag := "", pkgPath := "", byteOffset := 8 }, { name := "Name", type := 9, offset := 4, embedded := false, tag := "", pkgPath := "", byteOffset := 40 }, { name := "Args", type := 25, offset := 5, embedded := false, tag := "", pkgPath := "", byteOffset := 56 }] = some [(0, 1), (1, 3), (4, 1), (5, 1)] := by simp only [placesL, sz24, sz25, sz3, sz9]
theorem bA27 {z : List AV} {ps : List (Nat × AV)} : buildA tab 27 z ps = fillA (fun i => [(0, 1), (1, 3), (4, 1), (5, 1)][i]?) z ps := bA_struct und27 pl27
theorem pT27_0 : partType tab 27 0 = 3 := by simp only [partType, und27]; rfl
theorem pT27_1 : partType tab 27 1 = 24 := by simp only [partType, und27]; rfl
theorem pT27_2 : partType tab 27 2 = 9 := by simp only [partType, und27]; rfl
theorem pT27_3 : partType tab 27 3 = 25 := by simp only [partType, und27]; rfl
theorem und29 : tab.und 29 = some (.func #[3, 3] #[3] false) := (tab_und 29).trans Try.underlying29
theorem sz29 : size tab 29 = some 1 := by simp only [size, inf29, Option.map]
theorem ag29 : isAgg tab 29 = some false := by simp only [isAgg, und29]
theorem und30 : tab.und 30 = some (.slice 49) := (tab_und 30).trans Try.underlying30
theorem sz30 : size tab 30 = some 1 := by simp only [size, inf30, Option.map]
theorem ag30 : isAgg tab 30 = some false := by simp only [isAgg, und30]
theorem pT30 {i : Nat} : partType tab 30 i = 49 := by simp only [partType, und30]
theorem und32 : tab.und 32 = some (.int .i64) := (tab_und 32).trans Try.underlying32
theorem sz32 : size tab 32 = some 1 := by simp only [size, inf32, Option.map]
theorem ag32 : isAgg tab 32 = some false := by simp only [isAgg, und32]
theorem und35 : tab.und 35 = some (.slice 38) := (tab_und 35).trans Try.underlying35
theorem sz35 : size tab 35 = some 1 := by simp only [size, inf35, Option.map]
theorem ag35 : isAgg tab 35 = some false := by simp only [isAgg, und35]
theorem pT35 {i : Nat} : partType tab 35 i = 38 := by simp only [partType, und35]
theorem und38 : tab.und 38 = some (.struct #[{ name := "Name", type := 9, offset := 0, embedded := false, tag := "", pkgPath := "", byteOffset := 0 }, { name := "Key", type := 24, offset := 1, embedded := false, tag := "", pkgPath := "", byteOffset := 16 }, { name := "Has", type := 24, offset := 4, embedded := false, tag := "", pkgPath := "", byteOffset := 48 }]) := (tab_und 38).trans Try.underlying38
theorem sz38 : size tab 38 = some 7 := by simp only [size, inf38, Option.map]
theorem ag38 : isAgg tab 38 = some true := by simp only [isAgg, und38]
theorem fo38 : fieldsOf tab 38 = some [{ name := "Name", type := 9, offset := 0, embedded := false, tag := "", pkgPath := "", byteOffset := 0 }, { name := "Key", type := 24, offset := 1, embedded := false, tag := "", pkgPath := "", byteOffset := 16 }, { name := "Has", type := 24, offset := 4, embedded := false, tag := "", pkgPath := "", byteOffset := 48 }] := by simp only [fieldsOf, und38]
theorem pl38 : placesL tab [{ name := "Name", type := 9, offset := 0, embedded := false, tag := "", pkgPath := "", byteOffset := 0 }, { name := "Key", type := 24, offset := 1, embedded := false, tag := "", pkgPath := "", byteOffset := 16 }, { name := "Has", type := 24, offset := 4, embedded := false, tag := "", pkgPath := "", byteOffset := 48 }] = some [(0, 1), (1, 3), (4, 3)] := by simp only [placesL, sz24, sz9]
theorem bA38 {z : List AV} {ps : List (Nat × AV)} : buildA tab 38 z ps = fillA (fun i => [(0, 1), (1, 3), (4, 3)][i]?) z ps := bA_struct und38 pl38
theorem pT38_0 : partType tab 38 0 = 9 := by simp only [partType, und38]; rfl
theorem pT38_1 : partType tab 38 1 = 24 := by simp only [partType, und38]; rfl
theorem pT38_2 : partType tab 38 2 = 24 := by simp only [partType, und38]; rfl
theorem und49 : tab.und 49 = some (.struct #[{ name := "Name", type := 9, offset := 0, embedded := false, tag := "", pkgPath := "", byteOffset := 0 }, { name := "Kind", type := 3, offset := 1, embedded := false, tag := "", pkgPath := "", byteOffset := 16 }, { name := "Type", type := 3, offset := 2, embedded := false, tag := "", pkgPath := "", byteOffset := 24 }, { name := "Source", type := 27, offset := 3, embedded := false, tag := "", pkgPath := "", byteOffset := 32 }]) := (tab_und 49).trans Try.underlying49
theorem sz49 : size tab 49 = some 9 := by simp only [size, inf49, Option.map]
theorem ag49 : isAgg tab 49 = some true := by simp only [isAgg, und49]
theorem fo49 : fieldsOf tab 49 = some [{ name := "Name", type := 9, offset := 0, embedded := false, tag := "", pkgPath := "", byteOffset := 0 }, { name := "Kind", type := 3, offset := 1, embedded := false, tag := "", pkgPath := "", byteOffset := 16 }, { name := "Type", type := 3, offset := 2, embedded := false, tag := "", pkgPath := "", byteOffset := 24 }, { name := "Source", type := 27, offset := 3, embedded := false, tag := "", pkgPath := "", byteOffset := 32 }] := by simp only [fieldsOf, und49]
theorem pl49 : placesL tab [{ name := "Name", type := 9, offset := 0, embedded := false, tag := "", pkgPath := "", byteOffset := 0 }, { name := "Kind", type := 3, offset := 1, embedded := false, tag := "", pkgPath := "", byteOffset := 16 }, { name := "Type", type := 3, offset := 2, embedded := false, tag := "", pkgPath := "", byteOffset := 24 }, { name := "Source", type := 27, offset := 3, embedded := false, tag := "", pkgPath := "", byteOffset := 32 }] = some [(0, 1), (1, 1), (2, 1), (3, 6)] := by simp only [placesL, sz27, sz3, sz9]
theorem bA49 {z : List AV} {ps : List (Nat × AV)} : buildA tab 49 z ps = fillA (fun i => [(0, 1), (1, 1), (2, 1), (3, 6)][i]?) z ps := bA_struct und49 pl49
theorem pT49_0 : partType tab 49 0 = 9 := by simp only [partType, und49]; rfl
theorem pT49_1 : partType tab 49 1 = 3 := by simp only [partType, und49]; rfl
theorem pT49_2 : partType tab 49 2 = 3 := by simp only [partType, und49]; rfl
theorem pT49_3 : partType tab 49 3 = 27 := by simp only [partType, und49]; rfl
theorem und51 : tab.und 51 = some (.pointer 53) := (tab_und 51).trans Try.underlying51
theorem sz51 : size tab 51 = some 1 := by simp only [size, inf51, Option.map]
theorem ag51 : isAgg tab 51 = some false := by simp only [isAgg, und51]
theorem und53 : tab.und 53 = some (.struct #[{ name := "l", type := 22, offset := 0, embedded := false, tag := "", pkgPath := "lychway/lychwaykeep", byteOffset := 0 }, { name := "at", type := 3, offset := 1, embedded := false, tag := "", pkgPath := "lychway/lychwaykeep", byteOffset := 24 }]) := (tab_und 53).trans Try.underlying53
theorem sz53 : size tab 53 = some 2 := by simp only [size, inf53, Option.map]
theorem ag53 : isAgg tab 53 = some true := by simp only [isAgg, und53]
theorem fo53 : fieldsOf tab 53 = some [{ name := "l", type := 22, offset := 0, embedded := false, tag := "", pkgPath := "lychway/lychwaykeep", byteOffset := 0 }, { name := "at", type := 3, offset := 1, embedded := false, tag := "", pkgPath := "lychway/lychwaykeep", byteOffset := 24 }] := by simp only [fieldsOf, und53]
theorem pl53 : placesL tab [{ name := "l", type := 22, offset := 0, embedded := false, tag := "", pkgPath := "lychway/lychwaykeep", byteOffset := 0 }, { name := "at", type := 3, offset := 1, embedded := false, tag := "", pkgPath := "lychway/lychwaykeep", byteOffset := 24 }] = some [(0, 1), (1, 1)] := by simp only [placesL, sz22, sz3]
theorem bA53 {z : List AV} {ps : List (Nat × AV)} : buildA tab 53 z ps = fillA (fun i => [(0, 1), (1, 1)][i]?) z ps := bA_struct und53 pl53
theorem pT53_0 : partType tab 53 0 = 22 := by simp only [partType, und53]; rfl
theorem pT53_1 : partType tab 53 1 = 3 := by simp only [partType, und53]; rfl
theorem und58 : tab.und 58 = some (.struct #[{ name := "Kind", type := 3, offset := 0, embedded := false, tag := "", pkgPath := "", byteOffset := 0 }, { name := "A", type := 3, offset := 1, embedded := false, tag := "", pkgPath := "", byteOffset := 8 }, { name := "B", type := 3, offset := 2, embedded := false, tag := "", pkgPath := "", byteOffset := 16 }, { name := "Text", type := 9, offset := 3, embedded := false, tag := "", pkgPath := "", byteOffset := 24 }]) := (tab_und 58).trans Try.underlying58
theorem sz58 : size tab 58 = some 4 := by simp only [size, inf58, Option.map]
theorem ag58 : isAgg tab 58 = some true := by simp only [isAgg, und58]
theorem fo58 : fieldsOf tab 58 = some [{ name := "Kind", type := 3, offset := 0, embedded := false, tag := "", pkgPath := "", byteOffset := 0 }, { name := "A", type := 3, offset := 1, embedded := false, tag := "", pkgPath := "", byteOffset := 8 }, { name := "B", type := 3, offset := 2, embedded := false, tag := "", pkgPath := "", byteOffset := 16 }, { name := "Text", type := 9, offset := 3, embedded := false, tag := "", pkgPath := "", byteOffset := 24 }] := by simp only [fieldsOf, und58]
theorem pl58 : placesL tab [{ name := "Kind", type := 3, offset := 0, embedded := false, tag := "", pkgPath := "", byteOffset := 0 }, { name := "A", type := 3, offset := 1, embedded := false, tag := "", pkgPath := "", byteOffset := 8 }, { name := "B", type := 3, offset := 2, embedded := false, tag := "", pkgPath := "", byteOffset := 16 }, { name := "Text", type := 9, offset := 3, embedded := false, tag := "", pkgPath := "", byteOffset := 24 }] = some [(0, 1), (1, 1), (2, 1), (3, 1)] := by simp only [placesL, sz3, sz9]
theorem bA58 {z : List AV} {ps : List (Nat × AV)} : buildA tab 58 z ps = fillA (fun i => [(0, 1), (1, 1), (2, 1), (3, 1)][i]?) z ps := bA_struct und58 pl58
theorem pT58_0 : partType tab 58 0 = 3 := by simp only [partType, und58]; rfl
theorem pT58_1 : partType tab 58 1 = 3 := by simp only [partType, und58]; rfl
theorem pT58_2 : partType tab 58 2 = 3 := by simp only [partType, und58]; rfl
theorem pT58_3 : partType tab 58 3 = 9 := by simp only [partType, und58]; rfl
theorem und65 : tab.und 65 = some (.func #[27] #[4] false) := (tab_und 65).trans Try.underlying65
theorem sz65 : size tab 65 = some 1 := by simp only [size, inf65, Option.map]
theorem ag65 : isAgg tab 65 = some false := by simp only [isAgg, und65]
theorem und66 : tab.und 66 = some (.func #[86] #[] false) := (tab_und 66).trans Try.underlying66
theorem sz66 : size tab 66 = some 1 := by simp only [size, inf66, Option.map]
theorem ag66 : isAgg tab 66 = some false := by simp only [isAgg, und66]
theorem und67 : tab.und 67 = some (.func #[86] #[] false) := (tab_und 67).trans Try.underlying67
theorem sz67 : size tab 67 = some 1 := by simp only [size, inf67, Option.map]
theorem ag67 : isAgg tab 67 = some false := by simp only [isAgg, und67]
theorem und70 : tab.und 70 = some (.slice 3) := (tab_und 70).trans Try.underlying70
theorem sz70 : size tab 70 = some 1 := by simp only [size, inf70, Option.map]
theorem ag70 : isAgg tab 70 = some false := by simp only [isAgg, und70]
theorem pT70 {i : Nat} : partType tab 70 i = 3 := by simp only [partType, und70]
theorem und71 : tab.und 71 = some (.func #[3, 70] #[27] true) := (tab_und 71).trans Try.underlying71
theorem sz71 : size tab 71 = some 1 := by simp only [size, inf71, Option.map]
theorem ag71 : isAgg tab 71 = some false := by simp only [isAgg, und71]
theorem und79 : tab.und 79 = some (.slice 24) := (tab_und 79).trans Try.underlying79
theorem sz79 : size tab 79 = some 1 := by simp only [size, inf79, Option.map]
theorem ag79 : isAgg tab 79 = some false := by simp only [isAgg, und79]
theorem pT79 {i : Nat} : partType tab 79 i = 24 := by simp only [partType, und79]
theorem und83 : tab.und 83 = some (.slice 9) := (tab_und 83).trans Try.underlying83
theorem sz83 : size tab 83 = some 1 := by simp only [size, inf83, Option.map]
theorem ag83 : isAgg tab 83 = some false := by simp only [isAgg, und83]
theorem pT83 {i : Nat} : partType tab 83 i = 9 := by simp only [partType, und83]
theorem und86 : tab.und 86 = some (.func #[9] #[4] false) := (tab_und 86).trans Try.underlying86
theorem sz86 : size tab 86 = some 1 := by simp only [size, inf86, Option.map]
theorem ag86 : isAgg tab 86 = some false := by simp only [isAgg, und86]
theorem und88 : tab.und 88 = some (.slice 5) := (tab_und 88).trans Try.underlying88
theorem sz88 : size tab 88 = some 1 := by simp only [size, inf88, Option.map]
theorem ag88 : isAgg tab 88 = some false := by simp only [isAgg, und88]
theorem pT88 {i : Nat} : partType tab 88 i = 5 := by simp only [partType, und88]
theorem und95 : tab.und 95 = some (.func #[3, 3] #[3, 32] false) := (tab_und 95).trans Try.underlying95
theorem sz95 : size tab 95 = some 1 := by simp only [size, inf95, Option.map]
theorem ag95 : isAgg tab 95 = some false := by simp only [isAgg, und95]
theorem und101 : tab.und 101 = some (.struct #[{ name := "sign", type := 9, offset := 0, embedded := false, tag := "", pkgPath := "lychway/expr", byteOffset := 0 }, { name := "level", type := 3, offset := 1, embedded := false, tag := "", pkgPath := "lychway/expr", byteOffset := 16 }, { name := "args", type := 3, offset := 2, embedded := false, tag := "", pkgPath := "lychway/expr", byteOffset := 24 }]) := (tab_und 101).trans Try.underlying101
theorem sz101 : size tab 101 = some 3 := by simp only [size, inf101, Option.map]
theorem ag101 : isAgg tab 101 = some true := by simp only [isAgg, und101]
theorem fo101 : fieldsOf tab 101 = some [{ name := "sign", type := 9, offset := 0, embedded := false, tag := "", pkgPath := "lychway/expr", byteOffset := 0 }, { name := "level", type := 3, offset := 1, embedded := false, tag := "", pkgPath := "lychway/expr", byteOffset := 16 }, { name := "args", type := 3, offset := 2, embedded := false, tag := "", pkgPath := "lychway/expr", byteOffset := 24 }] := by simp only [fieldsOf, und101]
theorem pl101 : placesL tab [{ name := "sign", type := 9, offset := 0, embedded := false, tag := "", pkgPath := "lychway/expr", byteOffset := 0 }, { name := "level", type := 3, offset := 1, embedded := false, tag := "", pkgPath := "lychway/expr", byteOffset := 16 }, { name := "args", type := 3, offset := 2, embedded := false, tag := "", pkgPath := "lychway/expr", byteOffset := 24 }] = some [(0, 1), (1, 1), (2, 1)] := by simp only [placesL, sz3, sz9]
theorem bA101 {z : List AV} {ps : List (Nat × AV)} : buildA tab 101 z ps = fillA (fun i => [(0, 1), (1, 1), (2, 1)][i]?) z ps := bA_struct und101 pl101
theorem pT101_0 : partType tab 101 0 = 9 := by simp only [partType, und101]; rfl
theorem pT101_1 : partType tab 101 1 = 3 := by simp only [partType, und101]; rfl
theorem pT101_2 : partType tab 101 2 = 3 := by simp only [partType, und101]; rfl
theorem und102 : tab.und 102 = some (.array 19 101) := (tab_und 102).trans Try.underlying102
theorem sz102 : size tab 102 = some 57 := by simp only [size, inf102, Option.map]
theorem ag102 : isAgg tab 102 = some true := by simp only [isAgg, und102]
theorem bA102 {z : List AV} {ps : List (Nat × AV)} : buildA tab 102 z ps = fillA (fun i => some (i * 3, 3)) z ps := by simp only [buildA, und102, sz101]
theorem pT102 {i : Nat} : partType tab 102 i = 101 := by simp only [partType, und102]
theorem und109 : tab.und 109 = some (.func #[5] #[4] false) := (tab_und 109).trans Try.underlying109
theorem sz109 : size tab 109 = some 1 := by simp only [size, inf109, Option.map]
theorem ag109 : isAgg tab 109 = some false := by simp only [isAgg, und109]
theorem und60 : tab.und 60 = some (.map 9 24) := (tab_und 60).trans Try.underlying60
theorem und63 : tab.und 63 = some (.map 9 24) := (tab_und 63).trans Try.underlying63
theorem und96 : tab.und 96 = some (.map 3 95) := (tab_und 96).trans Try.underlying96
theorem und97 : tab.und 97 = some (.map 9 4) := (tab_und 97).trans Try.underlying97
theorem lv2 : leaves tab 8 2 = some [.int .i64] := by (simp [leaves, leavesF, sized, tab_cmp, cmpsL, tab, und2, sz2]; try rfl)
theorem lv3 : leaves tab 8 3 = some [.int .i64] := by (simp [leaves, leavesF, sized, tab_cmp, cmpsL, tab, und3, sz3]; try rfl)
theorem lv4 : leaves tab 8 4 = some [.bool] := by (simp [leaves, leavesF, sized, tab_cmp, cmpsL, tab, und4, sz4]; try rfl)
theorem lv5 : leaves tab 8 5 = some [.int .u8] := by (simp [leaves, leavesF, sized, tab_cmp, cmpsL, tab, und5, sz5]; try rfl)
theorem lv9 : leaves tab 8 9 = some [.string] := by (simp [leaves, leavesF, sized, tab_cmp, cmpsL, tab, und9, sz9]; try rfl)
theorem lv24 : leaves tab 8 24 = some [.int .i64, .int .i64, .string] := by (simp [leaves, leavesF, sized, tab_cmp, cmpsL, tab, und3, sz3, und9, sz9, und24, sz24]; try rfl)
theorem lv32 : leaves tab 8 32 = some [.int .i64] := by (simp [leaves, leavesF, sized, tab_cmp, cmpsL, tab, und32, sz32]; try rfl)
theorem kp5_8 : tab.keep 5 8 = some ([5, 6, 51, 52, 53], [5, 6, 18, 19, 22, 27, 32, 48, 51, 52, 60, 65]) := tab_keep (by kernel_rfl)
theorem kp10_4 : tab.keep 10 4 = some ([3, 4, 10, 11, 12], [9, 10, 11, 22, 23, 26]) := tab_keep (by kernel_rfl)
theorem kp13_3 : tab.keep 13 3 = some ([4, 5, 11, 12, 13], [1, 12, 19, 27]) := tab_keep (by kernel_rfl)
theorem kp17_7 : tab.keep 17 7 = some ([2, 5, 24, 25, 26], [1, 2, 3, 5, 10, 14, 17, 20, 25, 33, 35]) := tab_keep (by kernel_rfl)
theorem kp20_3 : tab.keep 20 3 = some ([4, 11, 12, 13], [10, 12, 19]) := tab_keep (by kernel_rfl)
theorem kp23_5 : tab.keep 23 5 = some ([13, 14, 15], [1, 8, 14, 20]) := tab_keep (by kernel_rfl)
theorem kp25_4 : tab.keep 25 4 = some ([1, 6, 7, 8, 13, 14, 15], [6, 7, 12, 14, 27, 30, 35, 40, 45, 46]) := tab_keep (by kernel_rfl)
theorem kp26_3 : tab.keep 26 3 = some ([2, 3, 4, 7, 8, 13, 14, 15], [7, 8, 14, 26, 28]) := tab_keep (by kernel_rfl)
theorem kp29_3 : tab.keep 29 3 = some ([5, 15, 16, 17], [10, 12, 14, 16, 30]) := tab_keep (by kernel_rfl)
theorem kp34_4 : tab.keep 34 4 = some ([0, 5, 6, 7, 11, 12, 13], [5, 7, 12, 19, 31]) := tab_keep (by kernel_rfl)
theorem kp39_4 : tab.keep 39 4 = some ([2, 18, 19, 20], [3, 14, 19, 26]) := tab_keep (by kernel_rfl)
theorem kp42_4 : tab.keep 42 4 = some ([0, 8, 9], [5, 8]) := tab_keep (by kernel_rfl)
theorem kp45_2 : tab.keep 45 2 = some ([1, 7, 8, 9], [8]) := tab_keep (by kernel_rfl)
theorem kp55_3 : tab.keep 55 3 = some ([3, 6, 7, 8], [7]) := tab_keep (by kernel_rfl)
theorem kp69_2 : tab.keep 69 2 = some ([0, 1, 5], [8, 15]) := tab_keep (by kernel_rfl)
theorem dr10_6 : tab.drw 10 6 = some [[], [], [], [], [], [], [1, 2, 3, 4], [1, 2], [], [], [], []] := tab_drw (by kernel_rfl)
theorem dr17_9 : tab.drw 17 9 = some [[], [], [], [0, 1], [], [], [], []] := tab_drw (by kernel_rfl)
theorem dr17_12 : tab.drw 17 12 = some [[], [], [], [], [], [], [], [], [], [], [], []] := tab_drw (by kernel_rfl)
theorem dr19_3 : tab.drw 19 3 = some [[], [], [], [], [], [], [], [], [], [], [], [], [], [], [], [], [1, 2, 3, 5, 6, 7, 9, 10, 11, 12, 14, 15], []] := tab_drw (by kernel_rfl)
theorem dr19_4 : tab.drw 19 4 = some [[], [], [], [], [], [], [], [], [], [], [], [], [], [], []] := tab_drw (by kernel_rfl)
theorem dr26_5 : tab.drw 26 5 = some [[], [], [], [], [], [], [], [0, 1], [], [], [], []] := tab_drw (by kernel_rfl)
theorem dr32_4 : tab.drw 32 4 = some [[], [], [], [], [1, 2], []] := tab_drw (by kernel_rfl)
theorem dr34_8 : tab.drw 34 8 = some [[], [], []] := tab_drw (by kernel_rfl)
theorem dr34_13 : tab.drw 34 13 = some [[], [], [], []] := tab_drw (by kernel_rfl)
theorem dr35_6 : tab.drw 35 6 = some [[], [], [], [], [], [], [], [], [], [], [], []] := tab_drw (by kernel_rfl)
theorem dr35_20 : tab.drw 35 20 = some [[], [], [], [], [], [], [], [], [], [], [], []] := tab_drw (by kernel_rfl)
theorem dr35_22 : tab.drw 35 22 = some [[], [], [], [], [], [], [], [], [], [], []] := tab_drw (by kernel_rfl)
theorem dr35_26 : tab.drw 35 26 = some [[], [], [], [], [], [], [], [], [], [], [], [], []] := tab_drw (by kernel_rfl)
theorem dr37_3 : tab.drw 37 3 = some [[], [], [], [0, 1, 2], [3], [3], [], [], []] := tab_drw (by kernel_rfl)
theorem dr43_3 : tab.drw 43 3 = some [[], [], [], [], [], [4], [4], [4], [4], [], [], [], [], []] := tab_drw (by kernel_rfl)
theorem dr61_1 : tab.drw 61 1 = some [[], [], [], [], [], [], [], []] := tab_drw (by kernel_rfl)
theorem lv3_0 : tab.lv 3 0 = some 15 := tab_lv (by kernel_rfl)
theorem lv3_1 : tab.lv 3 1 = some 522 := tab_lv (by kernel_rfl)
theorem lv3_2 : tab.lv 3 2 = some 3594 := tab_lv (by kernel_rfl)
theorem lv3_3 : tab.lv 3 3 = some 7688 := tab_lv (by kernel_rfl)
theorem lv3_4 : tab.lv 3 4 = some 15872 := tab_lv (by kernel_rfl)
theorem lv3_5 : tab.lv 3 5 = some 549755829760 := tab_lv (by kernel_rfl)
theorem lv3_6 : tab.lv 3 6 = some 7680 := tab_lv (by kernel_rfl)
theorem lv3_7 : tab.lv 3 7 = some 56320 := tab_lv (by kernel_rfl)
theorem lv3_8 : tab.lv 3 8 = some 247808 := tab_lv (by kernel_rfl)
theorem lv3_9 : tab.lv 3 9 = some 256 := tab_lv (by kernel_rfl)
theorem lv4_0 : tab.lv 4 0 = some 3 := tab_lv (by kernel_rfl)
theorem lv4_1 : tab.lv 4 1 = some 32 := tab_lv (by kernel_rfl)
theorem lv4_2 : tab.lv 4 2 = some 224 := tab_lv (by kernel_rfl)
theorem lv4_3 : tab.lv 4 3 = some 992 := tab_lv (by kernel_rfl)
theorem lv4_4 : tab.lv 4 4 = some 4032 := tab_lv (by kernel_rfl)
theorem lv4_5 : tab.lv 4 5 = some 140737488356416 := tab_lv (by kernel_rfl)
theorem lv4_6 : tab.lv 4 6 = some 16 := tab_lv (by kernel_rfl)
theorem lv4_7 : tab.lv 4 7 = some 5184 := tab_lv (by kernel_rfl)
theorem lv4_8 : tab.lv 4 8 = some 36028797018969152 := tab_lv (by kernel_rfl)
theorem lv4_9 : tab.lv 4 9 = some 16 := tab_lv (by kernel_rfl)
theorem lv4_10 : tab.lv 4 10 = some 73786976294838211648 := tab_lv (by kernel_rfl)
theorem lv4_11 : tab.lv 4 11 = some 16 := tab_lv (by kernel_rfl)
theorem lv4_12 : tab.lv 4 12 = some 16 := tab_lv (by kernel_rfl)
theorem lv5_0 : tab.lv 5 0 = some 3 := tab_lv (by kernel_rfl)
theorem lv5_1 : tab.lv 5 1 = some 32 := tab_lv (by kernel_rfl)
theorem lv5_2 : tab.lv 5 2 = some 224 := tab_lv (by kernel_rfl)
theorem lv5_3 : tab.lv 5 3 = some 480 := tab_lv (by kernel_rfl)
theorem lv5_4 : tab.lv 5 4 = some 1504 := tab_lv (by kernel_rfl)
theorem lv5_5 : tab.lv 5 5 = some 1125899906842720 := tab_lv (by kernel_rfl)
theorem lv5_6 : tab.lv 5 6 = some 16 := tab_lv (by kernel_rfl)
theorem lv5_7 : tab.lv 5 7 = some 15762598695796832 := tab_lv (by kernel_rfl)
theorem lv5_8 : tab.lv 5 8 = some 33776997205278816 := tab_lv (by kernel_rfl)
theorem lv5_9 : tab.lv 5 9 = some 15762598695805024 := tab_lv (by kernel_rfl)
theorem lv5_10 : tab.lv 5 10 = some 147589715188372209760 := tab_lv (by kernel_rfl)
theorem lv5_11 : tab.lv 5 11 = some 16 := tab_lv (by kernel_rfl)
theorem lv5_12 : tab.lv 5 12 = some 15762598695796832 := tab_lv (by kernel_rfl)
theorem lv5_13 : tab.lv 5 13 = some 16 := tab_lv (by kernel_rfl)
theorem lv6_0 : tab.lv 6 0 = some 71 := tab_lv (by kernel_rfl)
theorem lv6_1 : tab.lv 6 1 = some 198 := tab_lv (by kernel_rfl)
theorem lv6_2 : tab.lv 6 2 = some 64 := tab_lv (by kernel_rfl)
theorem lv7_0 : tab.lv 7 0 = some 3 := tab_lv (by kernel_rfl)
theorem lv7_1 : tab.lv 7 1 = some 67 := tab_lv (by kernel_rfl)
theorem lv7_2 : tab.lv 7 2 = some 3 := tab_lv (by kernel_rfl)
theorem lv7_3 : tab.lv 7 3 = some 16 := tab_lv (by kernel_rfl)
theorem lv8_0 : tab.lv 8 0 = some 0 := tab_lv (by kernel_rfl)
theorem lv8_1 : tab.lv 8 1 = some 1 := tab_lv (by kernel_rfl)
theorem lv9_0 : tab.lv 9 0 = some 6 := tab_lv (by kernel_rfl)
theorem lv9_1 : tab.lv 9 1 = some 22 := tab_lv (by kernel_rfl)
theorem lv9_2 : tab.lv 9 2 = some 278 := tab_lv (by kernel_rfl)
theorem lv9_3 : tab.lv 9 3 = some 12 := tab_lv (by kernel_rfl)
theorem lv9_4 : tab.lv 9 4 = some 12 := tab_lv (by kernel_rfl)
theorem lv10_0 : tab.lv 10 0 = some 1 := tab_lv (by kernel_rfl)
theorem lv10_1 : tab.lv 10 1 = some 8 := tab_lv (by kernel_rfl)
theorem lv10_2 : tab.lv 10 2 = some 24 := tab_lv (by kernel_rfl)
theorem lv10_3 : tab.lv 10 3 = some 7192 := tab_lv (by kernel_rfl)
theorem lv10_4 : tab.lv 10 4 = some 15384 := tab_lv (by kernel_rfl)
theorem lv10_5 : tab.lv 10 5 = some 7256 := tab_lv (by kernel_rfl)
theorem lv10_6 : tab.lv 10 6 = some 7192 := tab_lv (by kernel_rfl)
theorem lv10_7 : tab.lv 10 7 = some 7192 := tab_lv (by kernel_rfl)
theorem lv10_8 : tab.lv 10 8 = some 4 := tab_lv (by kernel_rfl)
theorem lv11_0 : tab.lv 11 0 = some 22 := tab_lv (by kernel_rfl)
theorem lv11_1 : tab.lv 11 1 = some 86 := tab_lv (by kernel_rfl)
theorem lv11_2 : tab.lv 11 2 = some 4182 := tab_lv (by kernel_rfl)
theorem lv11_3 : tab.lv 11 3 = some 48 := tab_lv (by kernel_rfl)
theorem lv11_4 : tab.lv 11 4 = some 404 := tab_lv (by kernel_rfl)
theorem lv11_5 : tab.lv 11 5 = some 2097556 := tab_lv (by kernel_rfl)
theorem lv11_6 : tab.lv 11 6 = some 48 := tab_lv (by kernel_rfl)
theorem lv11_7 : tab.lv 11 7 = some 48 := tab_lv (by kernel_rfl)
theorem lv12_0 : tab.lv 12 0 = some 2 := tab_lv (by kernel_rfl)
theorem lv12_1 : tab.lv 12 1 = some 18 := tab_lv (by kernel_rfl)
theorem lv12_2 : tab.lv 12 2 = some 274 := tab_lv (by kernel_rfl)
theorem lv12_3 : tab.lv 12 3 = some 12 := tab_lv (by kernel_rfl)
theorem lv12_4 : tab.lv 12 4 = some 12 := tab_lv (by kernel_rfl)
theorem lv13_0 : tab.lv 13 0 = some 2 := tab_lv (by kernel_rfl)
theorem lv13_1 : tab.lv 13 1 = some 50 := tab_lv (by kernel_rfl)
theorem lv13_2 : tab.lv 13 2 = some 14384 := tab_lv (by kernel_rfl)
theorem lv13_3 : tab.lv 13 3 = some 30768 := tab_lv (by kernel_rfl)
theorem lv13_4 : tab.lv 13 4 = some 14512 := tab_lv (by kernel_rfl)
theorem lv13_5 : tab.lv 13 5 = some 15152 := tab_lv (by kernel_rfl)
theorem lv13_6 : tab.lv 13 6 = some 14384 := tab_lv (by kernel_rfl)
theorem lv13_7 : tab.lv 13 7 = some 14384 := tab_lv (by kernel_rfl)
theorem lv13_8 : tab.lv 13 8 = some 12 := tab_lv (by kernel_rfl)
theorem lv14_0 : tab.lv 14 0 = some 2 := tab_lv (by kernel_rfl)
theorem lv14_1 : tab.lv 14 1 = some 26 := tab_lv (by kernel_rfl)
theorem lv14_2 : tab.lv 14 2 = some 2066 := tab_lv (by kernel_rfl)
theorem lv14_3 : tab.lv 14 3 = some 4 := tab_lv (by kernel_rfl)
theorem lv14_4 : tab.lv 14 4 = some 8194 := tab_lv (by kernel_rfl)
theorem lv14_5 : tab.lv 14 5 = some 4 := tab_lv (by kernel_rfl)
theorem lv14_6 : tab.lv 14 6 = some 4 := tab_lv (by kernel_rfl)
theorem lv15_0 : tab.lv 15 0 = some 20 := tab_lv (by kernel_rfl)
theorem lv15_1 : tab.lv 15 1 = some 16 := tab_lv (by kernel_rfl)
theorem lv15_5 : tab.lv 15 5 = some 16 := tab_lv (by kernel_rfl)
theorem lv16_0 : tab.lv 16 0 = some 466 := tab_lv (by kernel_rfl)
theorem lv16_1 : tab.lv 16 1 = some 978 := tab_lv (by kernel_rfl)
theorem lv16_2 : tab.lv 16 2 = some 8389586 := tab_lv (by kernel_rfl)
theorem lv16_3 : tab.lv 16 3 = some 256 := tab_lv (by kernel_rfl)
theorem lv16_4 : tab.lv 16 4 = some 1794 := tab_lv (by kernel_rfl)
theorem lv16_5 : tab.lv 16 5 = some 4294969090 := tab_lv (by kernel_rfl)
theorem lv16_6 : tab.lv 16 6 = some 256 := tab_lv (by kernel_rfl)
theorem lv16_7 : tab.lv 16 7 = some 274877908736 := tab_lv (by kernel_rfl)
theorem lv16_8 : tab.lv 16 8 = some 824633722624 := tab_lv (by kernel_rfl)
theorem lv16_9 : tab.lv 16 9 = some 3328 := tab_lv (by kernel_rfl)
theorem lv16_10 : tab.lv 16 10 = some 17592186047744 := tab_lv (by kernel_rfl)
theorem lv16_11 : tab.lv 16 11 = some 256 := tab_lv (by kernel_rfl)
theorem lv16_12 : tab.lv 16 12 = some 9024791440788736 := tab_lv (by kernel_rfl)
theorem lv16_13 : tab.lv 16 13 = some 256 := tab_lv (by kernel_rfl)
theorem lv16_14 : tab.lv 16 14 = some 288230376151715072 := tab_lv (by kernel_rfl)
theorem lv16_15 : tab.lv 16 15 = some 256 := tab_lv (by kernel_rfl)
theorem lv16_16 : tab.lv 16 16 = some 9223372036854777600 := tab_lv (by kernel_rfl)
theorem lv16_17 : tab.lv 16 17 = some 5888 := tab_lv (by kernel_rfl)
theorem lv16_18 : tab.lv 16 18 = some 13568 := tab_lv (by kernel_rfl)
theorem lv16_19 : tab.lv 16 19 = some 256 := tab_lv (by kernel_rfl)
theorem lv16_20 : tab.lv 16 20 = some 1208925819614629174712064 := tab_lv (by kernel_rfl)
theorem lv16_21 : tab.lv 16 21 = some 256 := tab_lv (by kernel_rfl)
theorem lv16_22 : tab.lv 16 22 = some 77371252455336267181201152 := tab_lv (by kernel_rfl)
theorem lv16_23 : tab.lv 16 23 = some 256 := tab_lv (by kernel_rfl)
theorem lv16_24 : tab.lv 16 24 = some 256 := tab_lv (by kernel_rfl)
theorem lv17_0 : tab.lv 17 0 = some 6 := tab_lv (by kernel_rfl)
theorem lv17_1 : tab.lv 17 1 = some 14 := tab_lv (by kernel_rfl)
theorem lv17_2 : tab.lv 17 2 = some 262158 := tab_lv (by kernel_rfl)
theorem lv17_3 : tab.lv 17 3 = some 4 := tab_lv (by kernel_rfl)
theorem lv17_4 : tab.lv 17 4 = some 38 := tab_lv (by kernel_rfl)
theorem lv17_5 : tab.lv 17 5 = some 38 := tab_lv (by kernel_rfl)
theorem lv17_6 : tab.lv 17 6 = some 117440548 := tab_lv (by kernel_rfl)
theorem lv17_7 : tab.lv 17 7 = some 251658276 := tab_lv (by kernel_rfl)
theorem lv17_8 : tab.lv 17 8 = some 117440676 := tab_lv (by kernel_rfl)
theorem lv17_9 : tab.lv 17 9 = some 117440548 := tab_lv (by kernel_rfl)
theorem lv17_10 : tab.lv 17 10 = some 117440548 := tab_lv (by kernel_rfl)
theorem lv17_11 : tab.lv 17 11 = some 144115188075855908 := tab_lv (by kernel_rfl)
theorem lv17_12 : tab.lv 17 12 = some 4 := tab_lv (by kernel_rfl)
theorem lv17_13 : tab.lv 17 13 = some 4 := tab_lv (by kernel_rfl)
theorem lv18_0 : tab.lv 18 0 = some 25 := tab_lv (by kernel_rfl)
theorem lv18_1 : tab.lv 18 1 = some 56 := tab_lv (by kernel_rfl)
theorem lv18_2 : tab.lv 18 2 = some 120 := tab_lv (by kernel_rfl)
theorem lv18_3 : tab.lv 18 3 = some 2072 := tab_lv (by kernel_rfl)
theorem lv18_4 : tab.lv 18 4 = some 16 := tab_lv (by kernel_rfl)
theorem lv18_5 : tab.lv 18 5 = some 16 := tab_lv (by kernel_rfl)
theorem lv18_6 : tab.lv 18 6 = some 4194328 := tab_lv (by kernel_rfl)
theorem lv18_7 : tab.lv 18 7 = some 16 := tab_lv (by kernel_rfl)
theorem lv18_8 : tab.lv 18 8 = some 16 := tab_lv (by kernel_rfl)
theorem lv19_0 : tab.lv 19 0 = some 5 := tab_lv (by kernel_rfl)
theorem lv19_1 : tab.lv 19 1 = some 517 := tab_lv (by kernel_rfl)
theorem lv19_2 : tab.lv 19 2 = some 4 := tab_lv (by kernel_rfl)
theorem lv19_3 : tab.lv 19 3 = some 13 := tab_lv (by kernel_rfl)
theorem lv19_4 : tab.lv 19 4 = some 13 := tab_lv (by kernel_rfl)
theorem lv19_5 : tab.lv 19 5 = some 12 := tab_lv (by kernel_rfl)
theorem lv19_6 : tab.lv 19 6 = some 4 := tab_lv (by kernel_rfl)
theorem lv20_0 : tab.lv 20 0 = some 1 := tab_lv (by kernel_rfl)
theorem lv20_1 : tab.lv 20 1 = some 17 := tab_lv (by kernel_rfl)
theorem lv20_2 : tab.lv 20 2 = some 14352 := tab_lv (by kernel_rfl)
theorem lv20_3 : tab.lv 20 3 = some 30736 := tab_lv (by kernel_rfl)
theorem lv20_4 : tab.lv 20 4 = some 14416 := tab_lv (by kernel_rfl)
theorem lv20_5 : tab.lv 20 5 = some 14544 := tab_lv (by kernel_rfl)
theorem lv20_6 : tab.lv 20 6 = some 2111696 := tab_lv (by kernel_rfl)
theorem lv20_7 : tab.lv 20 7 = some 12 := tab_lv (by kernel_rfl)
theorem lv20_8 : tab.lv 20 8 = some 14928 := tab_lv (by kernel_rfl)
theorem lv20_9 : tab.lv 20 9 = some 2147498064 := tab_lv (by kernel_rfl)
theorem lv20_10 : tab.lv 20 10 = some 14352 := tab_lv (by kernel_rfl)
theorem lv20_11 : tab.lv 20 11 = some 14352 := tab_lv (by kernel_rfl)
theorem lv20_12 : tab.lv 20 12 = some 12 := tab_lv (by kernel_rfl)
theorem lv21_0 : tab.lv 21 0 = some 25 := tab_lv (by kernel_rfl)
theorem lv21_1 : tab.lv 21 1 = some 16409 := tab_lv (by kernel_rfl)
theorem lv21_2 : tab.lv 21 2 = some 49177 := tab_lv (by kernel_rfl)
theorem lv21_3 : tab.lv 21 3 = some 16 := tab_lv (by kernel_rfl)
theorem lv21_4 : tab.lv 21 4 = some 540697 := tab_lv (by kernel_rfl)
theorem lv21_5 : tab.lv 21 5 = some 112 := tab_lv (by kernel_rfl)
theorem lv21_6 : tab.lv 21 6 = some 268435504 := tab_lv (by kernel_rfl)
theorem lv21_7 : tab.lv 21 7 = some 16 := tab_lv (by kernel_rfl)
theorem lv21_8 : tab.lv 21 8 = some 16 := tab_lv (by kernel_rfl)
theorem lv21_9 : tab.lv 21 9 = some 2147500057 := tab_lv (by kernel_rfl)
theorem lv21_10 : tab.lv 21 10 = some 2147500057 := tab_lv (by kernel_rfl)
theorem lv21_11 : tab.lv 21 11 = some 409 := tab_lv (by kernel_rfl)
theorem lv21_12 : tab.lv 21 12 = some 1125899906842777 := tab_lv (by kernel_rfl)
theorem lv21_13 : tab.lv 21 13 = some 16 := tab_lv (by kernel_rfl)
theorem lv21_14 : tab.lv 21 14 = some 16 := tab_lv (by kernel_rfl)
theorem lv21_15 : tab.lv 21 15 = some 288230376151711769 := tab_lv (by kernel_rfl)
theorem lv21_16 : tab.lv 21 16 = some 1561 := tab_lv (by kernel_rfl)
theorem lv21_17 : tab.lv 21 17 = some 147573952589676413465 := tab_lv (by kernel_rfl)
theorem lv21_18 : tab.lv 21 18 = some 16 := tab_lv (by kernel_rfl)
theorem lv21_19 : tab.lv 21 19 = some 16 := tab_lv (by kernel_rfl)
theorem lv21_20 : tab.lv 21 20 = some 6168 := tab_lv (by kernel_rfl)
theorem lv21_21 : tab.lv 21 21 = some 154742504910672534362396696 := tab_lv (by kernel_rfl)
theorem lv21_22 : tab.lv 21 22 = some 16 := tab_lv (by kernel_rfl)
theorem lv21_23 : tab.lv 21 23 = some 16 := tab_lv (by kernel_rfl)
theorem lv22_0 : tab.lv 22 0 = some 2 := tab_lv (by kernel_rfl)
theorem lv22_1 : tab.lv 22 1 = some 8 := tab_lv (by kernel_rfl)
theorem lv22_2 : tab.lv 22 2 = some 4 := tab_lv (by kernel_rfl)
theorem lv23_0 : tab.lv 23 0 = some 2 := tab_lv (by kernel_rfl)
theorem lv23_1 : tab.lv 23 1 = some 10 := tab_lv (by kernel_rfl)
theorem lv23_2 : tab.lv 23 2 = some 1034 := tab_lv (by kernel_rfl)
theorem lv23_3 : tab.lv 23 3 = some 4 := tab_lv (by kernel_rfl)
theorem lv23_4 : tab.lv 23 4 = some 57344 := tab_lv (by kernel_rfl)
theorem lv23_5 : tab.lv 23 5 = some 122880 := tab_lv (by kernel_rfl)
theorem lv23_6 : tab.lv 23 6 = some 57376 := tab_lv (by kernel_rfl)
theorem lv23_7 : tab.lv 23 7 = some 57408 := tab_lv (by kernel_rfl)
theorem lv23_8 : tab.lv 23 8 = some 4251712 := tab_lv (by kernel_rfl)
theorem lv23_9 : tab.lv 23 9 = some 4 := tab_lv (by kernel_rfl)
theorem lv23_10 : tab.lv 23 10 = some 57344 := tab_lv (by kernel_rfl)
theorem lv23_11 : tab.lv 23 11 = some 4 := tab_lv (by kernel_rfl)
theorem lv24_0 : tab.lv 24 0 = some 2 := tab_lv (by kernel_rfl)
theorem lv24_1 : tab.lv 24 1 = some 4 := tab_lv (by kernel_rfl)
theorem lv25_0 : tab.lv 25 0 = some 71 := tab_lv (by kernel_rfl)
theorem lv25_1 : tab.lv 25 1 = some 198 := tab_lv (by kernel_rfl)
theorem lv25_2 : tab.lv 25 2 = some 454 := tab_lv (by kernel_rfl)
theorem lv25_3 : tab.lv 25 3 = some 57794 := tab_lv (by kernel_rfl)
theorem lv25_4 : tab.lv 25 4 = some 123330 := tab_lv (by kernel_rfl)
theorem lv25_5 : tab.lv 25 5 = some 58818 := tab_lv (by kernel_rfl)
theorem lv25_6 : tab.lv 25 6 = some 4253122 := tab_lv (by kernel_rfl)
theorem lv25_7 : tab.lv 25 7 = some 57794 := tab_lv (by kernel_rfl)
theorem lv25_8 : tab.lv 25 8 = some 57794 := tab_lv (by kernel_rfl)
theorem lv25_9 : tab.lv 25 9 = some 137438953922 := tab_lv (by kernel_rfl)
theorem lv25_10 : tab.lv 25 10 = some 64 := tab_lv (by kernel_rfl)
theorem lv25_11 : tab.lv 25 11 = some 64 := tab_lv (by kernel_rfl)
theorem lv26_0 : tab.lv 26 0 = some 159 := tab_lv (by kernel_rfl)
theorem lv26_1 : tab.lv 26 1 = some 414 := tab_lv (by kernel_rfl)
theorem lv26_2 : tab.lv 26 2 = some 57756 := tab_lv (by kernel_rfl)
theorem lv26_3 : tab.lv 26 3 = some 123292 := tab_lv (by kernel_rfl)
theorem lv26_4 : tab.lv 26 4 = some 58780 := tab_lv (by kernel_rfl)
theorem lv26_5 : tab.lv 26 5 = some 57756 := tab_lv (by kernel_rfl)
theorem lv26_6 : tab.lv 26 6 = some 57756 := tab_lv (by kernel_rfl)
theorem lv26_7 : tab.lv 26 7 = some 128 := tab_lv (by kernel_rfl)
theorem lv27_0 : tab.lv 27 0 = some 2 := tab_lv (by kernel_rfl)
theorem lv27_1 : tab.lv 27 1 = some 4 := tab_lv (by kernel_rfl)
theorem lv28_0 : tab.lv 28 0 = some 6 := tab_lv (by kernel_rfl)
theorem lv28_1 : tab.lv 28 1 = some 1030 := tab_lv (by kernel_rfl)
theorem lv28_2 : tab.lv 28 2 = some 6 := tab_lv (by kernel_rfl)
theorem lv28_3 : tab.lv 28 3 = some 4 := tab_lv (by kernel_rfl)
theorem lv28_4 : tab.lv 28 4 = some 4 := tab_lv (by kernel_rfl)
theorem lv29_0 : tab.lv 29 0 = some 3 := tab_lv (by kernel_rfl)
theorem lv29_1 : tab.lv 29 1 = some 32 := tab_lv (by kernel_rfl)
theorem lv29_2 : tab.lv 29 2 = some 229408 := tab_lv (by kernel_rfl)
theorem lv29_3 : tab.lv 29 3 = some 491552 := tab_lv (by kernel_rfl)
theorem lv29_4 : tab.lv 29 4 = some 229600 := tab_lv (by kernel_rfl)
theorem lv29_5 : tab.lv 29 5 = some 229408 := tab_lv (by kernel_rfl)
theorem lv29_6 : tab.lv 29 6 = some 229408 := tab_lv (by kernel_rfl)
theorem lv29_7 : tab.lv 29 7 = some 16 := tab_lv (by kernel_rfl)
theorem lv30_0 : tab.lv 30 0 = some 2 := tab_lv (by kernel_rfl)
theorem lv30_1 : tab.lv 30 1 = some 34 := tab_lv (by kernel_rfl)
theorem lv30_2 : tab.lv 30 2 = some 4 := tab_lv (by kernel_rfl)
theorem lv30_3 : tab.lv 30 3 = some 98 := tab_lv (by kernel_rfl)
theorem lv30_4 : tab.lv 30 4 = some 10 := tab_lv (by kernel_rfl)
theorem lv30_5 : tab.lv 30 5 = some 4106 := tab_lv (by kernel_rfl)
theorem lv30_6 : tab.lv 30 6 = some 4 := tab_lv (by kernel_rfl)
theorem lv30_7 : tab.lv 30 7 = some 16418 := tab_lv (by kernel_rfl)
theorem lv30_8 : tab.lv 30 8 = some 8388610 := tab_lv (by kernel_rfl)
theorem lv30_9 : tab.lv 30 9 = some 4 := tab_lv (by kernel_rfl)
theorem lv30_10 : tab.lv 30 10 = some 16777250 := tab_lv (by kernel_rfl)
theorem lv30_11 : tab.lv 30 11 = some 268435458 := tab_lv (by kernel_rfl)
theorem lv30_12 : tab.lv 30 12 = some 4 := tab_lv (by kernel_rfl)
theorem lv30_13 : tab.lv 30 13 = some 4 := tab_lv (by kernel_rfl)
theorem lv30_14 : tab.lv 30 14 = some 4294967330 := tab_lv (by kernel_rfl)
theorem lv30_15 : tab.lv 30 15 = some 68719476738 := tab_lv (by kernel_rfl)
theorem lv30_16 : tab.lv 30 16 = some 4 := tab_lv (by kernel_rfl)
theorem lv30_17 : tab.lv 30 17 = some 137438953474 := tab_lv (by kernel_rfl)
theorem lv30_18 : tab.lv 30 18 = some 70368744177666 := tab_lv (by kernel_rfl)
theorem lv30_19 : tab.lv 30 19 = some 4 := tab_lv (by kernel_rfl)
theorem lv30_20 : tab.lv 30 20 = some 562949953421312 := tab_lv (by kernel_rfl)
theorem lv30_21 : tab.lv 30 21 = some 4 := tab_lv (by kernel_rfl)
theorem lv30_22 : tab.lv 30 22 = some 4 := tab_lv (by kernel_rfl)
theorem lv31_0 : tab.lv 31 0 = some 5 := tab_lv (by kernel_rfl)
theorem lv31_1 : tab.lv 31 1 = some 4 := tab_lv (by kernel_rfl)
theorem lv32_0 : tab.lv 32 0 = some 25 := tab_lv (by kernel_rfl)
theorem lv32_1 : tab.lv 32 1 = some 80 := tab_lv (by kernel_rfl)
theorem lv32_2 : tab.lv 32 2 = some 33554512 := tab_lv (by kernel_rfl)
theorem lv32_3 : tab.lv 32 3 = some 48 := tab_lv (by kernel_rfl)
theorem lv32_4 : tab.lv 32 4 = some 48 := tab_lv (by kernel_rfl)
theorem lv33_0 : tab.lv 33 0 = some 25 := tab_lv (by kernel_rfl)
theorem lv33_1 : tab.lv 33 1 = some 48 := tab_lv (by kernel_rfl)
theorem lv33_2 : tab.lv 33 2 = some 65584 := tab_lv (by kernel_rfl)
theorem lv33_3 : tab.lv 33 3 = some 16 := tab_lv (by kernel_rfl)
theorem lv33_4 : tab.lv 33 4 = some 16 := tab_lv (by kernel_rfl)
theorem lv34_0 : tab.lv 34 0 = some 35 := tab_lv (by kernel_rfl)
theorem lv34_1 : tab.lv 34 1 = some 99 := tab_lv (by kernel_rfl)
theorem lv34_2 : tab.lv 34 2 = some 227 := tab_lv (by kernel_rfl)
theorem lv34_3 : tab.lv 34 3 = some 14561 := tab_lv (by kernel_rfl)
theorem lv34_4 : tab.lv 34 4 = some 30945 := tab_lv (by kernel_rfl)
theorem lv34_5 : tab.lv 34 5 = some 15073 := tab_lv (by kernel_rfl)
theorem lv34_6 : tab.lv 34 6 = some 15585 := tab_lv (by kernel_rfl)
theorem lv34_7 : tab.lv 34 7 = some 4209889 := tab_lv (by kernel_rfl)
theorem lv34_8 : tab.lv 34 8 = some 48 := tab_lv (by kernel_rfl)
theorem lv34_9 : tab.lv 34 9 = some 67124449 := tab_lv (by kernel_rfl)
theorem lv34_10 : tab.lv 34 10 = some 15585 := tab_lv (by kernel_rfl)
theorem lv34_11 : tab.lv 34 11 = some 14561 := tab_lv (by kernel_rfl)
theorem lv34_12 : tab.lv 34 12 = some 14561 := tab_lv (by kernel_rfl)
theorem lv34_13 : tab.lv 34 13 = some 48 := tab_lv (by kernel_rfl)
theorem lv35_0 : tab.lv 35 0 = some 19 := tab_lv (by kernel_rfl)
theorem lv35_1 : tab.lv 35 1 = some 4115 := tab_lv (by kernel_rfl)
theorem lv35_2 : tab.lv 35 2 = some 12307 := tab_lv (by kernel_rfl)
theorem lv35_3 : tab.lv 35 3 = some 12307 := tab_lv (by kernel_rfl)
theorem lv35_4 : tab.lv 35 4 = some 12307 := tab_lv (by kernel_rfl)
theorem lv35_5 : tab.lv 35 5 = some 12307 := tab_lv (by kernel_rfl)
theorem lv35_6 : tab.lv 35 6 = some 113 := tab_lv (by kernel_rfl)
theorem lv35_7 : tab.lv 35 7 = some 536871025 := tab_lv (by kernel_rfl)
theorem lv35_8 : tab.lv 35 8 = some 16 := tab_lv (by kernel_rfl)
theorem lv35_9 : tab.lv 35 9 = some 16 := tab_lv (by kernel_rfl)
theorem lv35_10 : tab.lv 35 10 = some 9223372036854779923 := tab_lv (by kernel_rfl)
theorem lv35_11 : tab.lv 35 11 = some 147573952589676412946 := tab_lv (by kernel_rfl)
theorem lv35_12 : tab.lv 35 12 = some 16 := tab_lv (by kernel_rfl)
theorem lv35_13 : tab.lv 35 13 = some 16 := tab_lv (by kernel_rfl)
theorem lv35_14 : tab.lv 35 14 = some 37778931862957161713683 := tab_lv (by kernel_rfl)
theorem lv35_15 : tab.lv 35 15 = some 37778931862957161709587 := tab_lv (by kernel_rfl)
theorem lv35_16 : tab.lv 35 16 = some 1208925819614629174706195 := tab_lv (by kernel_rfl)
theorem lv35_17 : tab.lv 35 17 = some 16 := tab_lv (by kernel_rfl)
theorem lv35_18 : tab.lv 35 18 = some 9671406556917033397649426 := tab_lv (by kernel_rfl)
theorem lv35_19 : tab.lv 35 19 = some 16 := tab_lv (by kernel_rfl)
theorem lv35_20 : tab.lv 35 20 = some 2535301200456458802993406410770 := tab_lv (by kernel_rfl)
theorem lv35_21 : tab.lv 35 21 = some 16 := tab_lv (by kernel_rfl)
theorem lv35_22 : tab.lv 35 22 = some 16 := tab_lv (by kernel_rfl)
theorem lv35_23 : tab.lv 35 23 = some 41538374868278621028243970633760787 := tab_lv (by kernel_rfl)
theorem lv35_24 : tab.lv 35 24 = some 16 := tab_lv (by kernel_rfl)
theorem lv35_25 : tab.lv 35 25 = some 147 := tab_lv (by kernel_rfl)
theorem lv35_26 : tab.lv 35 26 = some 913 := tab_lv (by kernel_rfl)
theorem lv35_27 : tab.lv 35 27 = some 10889035741470030830827987437816582767504 := tab_lv (by kernel_rfl)
theorem lv35_28 : tab.lv 35 28 = some 912 := tab_lv (by kernel_rfl)
theorem lv35_29 : tab.lv 35 29 = some 3088 := tab_lv (by kernel_rfl)
theorem lv35_30 : tab.lv 35 30 = some 5575186299632655785383929568162090376498192 := tab_lv (by kernel_rfl)
theorem lv35_31 : tab.lv 35 31 = some 16 := tab_lv (by kernel_rfl)
theorem lv35_32 : tab.lv 35 32 = some 16 := tab_lv (by kernel_rfl)
theorem lv36_0 : tab.lv 36 0 = some 2 := tab_lv (by kernel_rfl)
theorem lv36_1 : tab.lv 36 1 = some 18 := tab_lv (by kernel_rfl)
theorem lv36_2 : tab.lv 36 2 = some 1042 := tab_lv (by kernel_rfl)
theorem lv36_3 : tab.lv 36 3 = some 12 := tab_lv (by kernel_rfl)
theorem lv36_4 : tab.lv 36 4 = some 34 := tab_lv (by kernel_rfl)
theorem lv36_5 : tab.lv 36 5 = some 32 := tab_lv (by kernel_rfl)
theorem lv36_8 : tab.lv 36 8 = some 12 := tab_lv (by kernel_rfl)
theorem lv37_0 : tab.lv 37 0 = some 2 := tab_lv (by kernel_rfl)
theorem lv37_1 : tab.lv 37 1 = some 1026 := tab_lv (by kernel_rfl)
theorem lv37_2 : tab.lv 37 2 = some 4 := tab_lv (by kernel_rfl)
theorem lv37_3 : tab.lv 37 3 = some 524290 := tab_lv (by kernel_rfl)
theorem lv37_4 : tab.lv 37 4 = some 4 := tab_lv (by kernel_rfl)
theorem lv37_5 : tab.lv 37 5 = some 2097154 := tab_lv (by kernel_rfl)
theorem lv37_6 : tab.lv 37 6 = some 1073741824 := tab_lv (by kernel_rfl)
theorem lv37_7 : tab.lv 37 7 = some 4 := tab_lv (by kernel_rfl)
theorem lv37_8 : tab.lv 37 8 = some 2149580802 := tab_lv (by kernel_rfl)
theorem lv37_9 : tab.lv 37 9 = some 9007199254740992 := tab_lv (by kernel_rfl)
theorem lv37_10 : tab.lv 37 10 = some 4 := tab_lv (by kernel_rfl)
theorem lv37_11 : tab.lv 37 11 = some 18014398509481986 := tab_lv (by kernel_rfl)
theorem lv37_12 : tab.lv 37 12 = some 36893488147419103232 := tab_lv (by kernel_rfl)
theorem lv37_13 : tab.lv 37 13 = some 4 := tab_lv (by kernel_rfl)
theorem lv37_14 : tab.lv 37 14 = some 4 := tab_lv (by kernel_rfl)
theorem lv38_0 : tab.lv 38 0 = some 6 := tab_lv (by kernel_rfl)
theorem lv38_1 : tab.lv 38 1 = some 14 := tab_lv (by kernel_rfl)
theorem lv38_2 : tab.lv 38 2 = some 10 := tab_lv (by kernel_rfl)
theorem lv38_3 : tab.lv 38 3 = some 0 := tab_lv (by kernel_rfl)
theorem lv39_0 : tab.lv 39 0 = some 14 := tab_lv (by kernel_rfl)
theorem lv39_1 : tab.lv 39 1 = some 65548 := tab_lv (by kernel_rfl)
theorem lv39_2 : tab.lv 39 2 = some 16 := tab_lv (by kernel_rfl)
theorem lv39_3 : tab.lv 39 3 = some 1835012 := tab_lv (by kernel_rfl)
theorem lv39_4 : tab.lv 39 4 = some 3932164 := tab_lv (by kernel_rfl)
theorem lv39_5 : tab.lv 39 5 = some 1835076 := tab_lv (by kernel_rfl)
theorem lv39_6 : tab.lv 39 6 = some 136052740 := tab_lv (by kernel_rfl)
theorem lv39_7 : tab.lv 39 7 = some 16 := tab_lv (by kernel_rfl)
theorem lv39_8 : tab.lv 39 8 = some 1835012 := tab_lv (by kernel_rfl)
theorem lv39_9 : tab.lv 39 9 = some 16 := tab_lv (by kernel_rfl)
theorem lv40_0 : tab.lv 40 0 = some 25 := tab_lv (by kernel_rfl)
theorem lv40_1 : tab.lv 40 1 = some 49 := tab_lv (by kernel_rfl)
theorem lv40_2 : tab.lv 40 2 = some 1072 := tab_lv (by kernel_rfl)
theorem lv40_3 : tab.lv 40 3 = some 48 := tab_lv (by kernel_rfl)
theorem lv40_4 : tab.lv 40 4 = some 16 := tab_lv (by kernel_rfl)
theorem lv41_0 : tab.lv 41 0 = some 1 := tab_lv (by kernel_rfl)
theorem lv41_1 : tab.lv 41 1 = some 256 := tab_lv (by kernel_rfl)
theorem lv41_2 : tab.lv 41 2 = some 4 := tab_lv (by kernel_rfl)
theorem lv41_3 : tab.lv 41 3 = some 4 := tab_lv (by kernel_rfl)
theorem lv42_0 : tab.lv 42 0 = some 1 := tab_lv (by kernel_rfl)
theorem lv42_1 : tab.lv 42 1 = some 65 := tab_lv (by kernel_rfl)
theorem lv42_2 : tab.lv 42 2 = some 4 := tab_lv (by kernel_rfl)
theorem lv42_3 : tab.lv 42 3 = some 769 := tab_lv (by kernel_rfl)
theorem lv42_4 : tab.lv 42 4 = some 1793 := tab_lv (by kernel_rfl)
theorem lv42_5 : tab.lv 42 5 = some 777 := tab_lv (by kernel_rfl)
theorem lv42_6 : tab.lv 42 6 = some 2097921 := tab_lv (by kernel_rfl)
theorem lv42_7 : tab.lv 42 7 = some 4 := tab_lv (by kernel_rfl)
theorem lv42_8 : tab.lv 42 8 = some 769 := tab_lv (by kernel_rfl)
theorem lv42_9 : tab.lv 42 9 = some 4 := tab_lv (by kernel_rfl)
theorem lv43_0 : tab.lv 43 0 = some 12 := tab_lv (by kernel_rfl)
theorem lv43_1 : tab.lv 43 1 = some 1048588 := tab_lv (by kernel_rfl)
theorem lv43_2 : tab.lv 43 2 = some 48 := tab_lv (by kernel_rfl)
theorem lv43_3 : tab.lv 43 3 = some 48 := tab_lv (by kernel_rfl)
theorem lv44_0 : tab.lv 44 0 = some 5 := tab_lv (by kernel_rfl)
theorem lv44_1 : tab.lv 44 1 = some 12 := tab_lv (by kernel_rfl)
theorem lv44_2 : tab.lv 44 2 = some 4 := tab_lv (by kernel_rfl)
theorem lv44_3 : tab.lv 44 3 = some 4 := tab_lv (by kernel_rfl)
theorem lv45_0 : tab.lv 45 0 = some 3 := tab_lv (by kernel_rfl)
theorem lv45_1 : tab.lv 45 1 = some 898 := tab_lv (by kernel_rfl)
theorem lv45_2 : tab.lv 45 2 = some 1922 := tab_lv (by kernel_rfl)
theorem lv45_3 : tab.lv 45 3 = some 962 := tab_lv (by kernel_rfl)
theorem lv45_4 : tab.lv 45 4 = some 66434 := tab_lv (by kernel_rfl)
theorem lv45_5 : tab.lv 45 5 = some 16 := tab_lv (by kernel_rfl)
theorem lv45_6 : tab.lv 45 6 = some 898 := tab_lv (by kernel_rfl)
theorem lv45_7 : tab.lv 45 7 = some 16 := tab_lv (by kernel_rfl)
theorem lv46_0 : tab.lv 46 0 = some 3 := tab_lv (by kernel_rfl)
theorem lv46_1 : tab.lv 46 1 = some 48 := tab_lv (by kernel_rfl)
theorem lv47_0 : tab.lv 47 0 = some 3 := tab_lv (by kernel_rfl)
theorem lv47_1 : tab.lv 47 1 = some 4099 := tab_lv (by kernel_rfl)
theorem lv47_2 : tab.lv 47 2 = some 48 := tab_lv (by kernel_rfl)
theorem lv47_3 : tab.lv 47 3 = some 48 := tab_lv (by kernel_rfl)
theorem lv48_0 : tab.lv 48 0 = some 3 := tab_lv (by kernel_rfl)
theorem lv48_1 : tab.lv 48 1 = some 4099 := tab_lv (by kernel_rfl)
theorem lv48_2 : tab.lv 48 2 = some 48 := tab_lv (by kernel_rfl)
theorem lv48_3 : tab.lv 48 3 = some 48 := tab_lv (by kernel_rfl)
theorem lv49_0 : tab.lv 49 0 = some 3 := tab_lv (by kernel_rfl)
theorem lv49_1 : tab.lv 49 1 = some 48 := tab_lv (by kernel_rfl)
theorem lv50_0 : tab.lv 50 0 = some 3 := tab_lv (by kernel_rfl)
theorem lv50_1 : tab.lv 50 1 = some 48 := tab_lv (by kernel_rfl)
theorem lv53_0 : tab.lv 53 0 = some 1 := tab_lv (by kernel_rfl)
theorem lv53_1 : tab.lv 53 1 = some 1 := tab_lv (by kernel_rfl)
theorem lv54_0 : tab.lv 54 0 = some 1 := tab_lv (by kernel_rfl)
theorem lv54_1 : tab.lv 54 1 = some 1025 := tab_lv (by kernel_rfl)
theorem lv54_2 : tab.lv 54 2 = some 4 := tab_lv (by kernel_rfl)
theorem lv54_3 : tab.lv 54 3 = some 33554432 := tab_lv (by kernel_rfl)
theorem lv54_4 : tab.lv 54 4 = some 4 := tab_lv (by kernel_rfl)
theorem lv54_5 : tab.lv 54 5 = some 4 := tab_lv (by kernel_rfl)
theorem lv55_0 : tab.lv 55 0 = some 1 := tab_lv (by kernel_rfl)
theorem lv55_1 : tab.lv 55 1 = some 9 := tab_lv (by kernel_rfl)
theorem lv55_2 : tab.lv 55 2 = some 456 := tab_lv (by kernel_rfl)
theorem lv55_3 : tab.lv 55 3 = some 968 := tab_lv (by kernel_rfl)
theorem lv55_4 : tab.lv 55 4 = some 488 := tab_lv (by kernel_rfl)
theorem lv55_5 : tab.lv 55 5 = some 16872 := tab_lv (by kernel_rfl)
theorem lv55_6 : tab.lv 55 6 = some 4 := tab_lv (by kernel_rfl)
theorem lv55_7 : tab.lv 55 7 = some 456 := tab_lv (by kernel_rfl)
theorem lv55_8 : tab.lv 55 8 = some 4 := tab_lv (by kernel_rfl)
theorem lv56_0 : tab.lv 56 0 = some 3 := tab_lv (by kernel_rfl)
theorem lv56_1 : tab.lv 56 1 = some 35 := tab_lv (by kernel_rfl)
theorem lv56_2 : tab.lv 56 2 = some 99 := tab_lv (by kernel_rfl)
theorem lv56_3 : tab.lv 56 3 = some 2115 := tab_lv (by kernel_rfl)
theorem lv56_4 : tab.lv 56 4 = some 4096 := tab_lv (by kernel_rfl)
theorem lv56_5 : tab.lv 56 5 = some 16 := tab_lv (by kernel_rfl)
theorem lv56_6 : tab.lv 56 6 = some 16 := tab_lv (by kernel_rfl)
theorem lv56_7 : tab.lv 56 7 = some 8195 := tab_lv (by kernel_rfl)
theorem lv56_8 : tab.lv 56 8 = some 16 := tab_lv (by kernel_rfl)
theorem lv56_9 : tab.lv 56 9 = some 65539 := tab_lv (by kernel_rfl)
theorem lv56_10 : tab.lv 56 10 = some 16 := tab_lv (by kernel_rfl)
theorem lv56_11 : tab.lv 56 11 = some 524288 := tab_lv (by kernel_rfl)
theorem lv56_12 : tab.lv 56 12 = some 16 := tab_lv (by kernel_rfl)
theorem lv56_13 : tab.lv 56 13 = some 16 := tab_lv (by kernel_rfl)
theorem lv57_0 : tab.lv 57 0 = some 3 := tab_lv (by kernel_rfl)
theorem lv57_1 : tab.lv 57 1 = some 35 := tab_lv (by kernel_rfl)
theorem lv57_2 : tab.lv 57 2 = some 99 := tab_lv (by kernel_rfl)
theorem lv57_3 : tab.lv 57 3 = some 2115 := tab_lv (by kernel_rfl)
theorem lv57_4 : tab.lv 57 4 = some 4096 := tab_lv (by kernel_rfl)
theorem lv57_5 : tab.lv 57 5 = some 16 := tab_lv (by kernel_rfl)
theorem lv57_6 : tab.lv 57 6 = some 16 := tab_lv (by kernel_rfl)
theorem lv57_7 : tab.lv 57 7 = some 8195 := tab_lv (by kernel_rfl)
theorem lv57_8 : tab.lv 57 8 = some 16 := tab_lv (by kernel_rfl)
theorem lv57_9 : tab.lv 57 9 = some 65539 := tab_lv (by kernel_rfl)
theorem lv57_10 : tab.lv 57 10 = some 16 := tab_lv (by kernel_rfl)
theorem lv57_11 : tab.lv 57 11 = some 524288 := tab_lv (by kernel_rfl)
theorem lv57_12 : tab.lv 57 12 = some 16 := tab_lv (by kernel_rfl)
theorem lv57_13 : tab.lv 57 13 = some 16 := tab_lv (by kernel_rfl)
theorem lv58_0 : tab.lv 58 0 = some 7 := tab_lv (by kernel_rfl)
theorem lv58_1 : tab.lv 58 1 = some 131079 := tab_lv (by kernel_rfl)
theorem lv58_2 : tab.lv 58 2 = some 192 := tab_lv (by kernel_rfl)
theorem lv58_3 : tab.lv 58 3 = some 256 := tab_lv (by kernel_rfl)
theorem lv58_4 : tab.lv 58 4 = some 768 := tab_lv (by kernel_rfl)
theorem lv58_5 : tab.lv 58 5 = some 33555200 := tab_lv (by kernel_rfl)
theorem lv58_6 : tab.lv 58 6 = some 192 := tab_lv (by kernel_rfl)
theorem lv58_7 : tab.lv 58 7 = some 192 := tab_lv (by kernel_rfl)
theorem lv59_0 : tab.lv 59 0 = some 3 := tab_lv (by kernel_rfl)
theorem lv59_1 : tab.lv 59 1 = some 274877906947 := tab_lv (by kernel_rfl)
theorem lv59_2 : tab.lv 59 2 = some 16 := tab_lv (by kernel_rfl)
theorem lv59_3 : tab.lv 59 3 = some 16 := tab_lv (by kernel_rfl)
theorem lv60_0 : tab.lv 60 0 = some 3 := tab_lv (by kernel_rfl)
theorem lv60_1 : tab.lv 60 1 = some 32 := tab_lv (by kernel_rfl)
theorem lv60_2 : tab.lv 60 2 = some 16 := tab_lv (by kernel_rfl)
theorem lv61_0 : tab.lv 61 0 = some 3 := tab_lv (by kernel_rfl)
theorem lv61_1 : tab.lv 61 1 = some 194 := tab_lv (by kernel_rfl)
theorem lv61_2 : tab.lv 61 2 = some 4194498 := tab_lv (by kernel_rfl)
theorem lv61_3 : tab.lv 61 3 = some 48 := tab_lv (by kernel_rfl)
theorem lv61_4 : tab.lv 61 4 = some 48 := tab_lv (by kernel_rfl)
theorem lv62_0 : tab.lv 62 0 = some 3 := tab_lv (by kernel_rfl)
theorem lv62_1 : tab.lv 62 1 = some 64 := tab_lv (by kernel_rfl)
theorem lv62_2 : tab.lv 62 2 = some 16 := tab_lv (by kernel_rfl)
theorem lv63_0 : tab.lv 63 0 = some 3 := tab_lv (by kernel_rfl)
theorem lv63_1 : tab.lv 63 1 = some 16 := tab_lv (by kernel_rfl)
theorem lv64_0 : tab.lv 64 0 = some 3 := tab_lv (by kernel_rfl)
theorem lv64_1 : tab.lv 64 1 = some 16 := tab_lv (by kernel_rfl)
theorem lv68_0 : tab.lv 68 0 = some 1 := tab_lv (by kernel_rfl)
theorem lv68_1 : tab.lv 68 1 = some 4 := tab_lv (by kernel_rfl)
theorem lv69_0 : tab.lv 69 0 = some 3 := tab_lv (by kernel_rfl)
theorem lv69_1 : tab.lv 69 1 = some 35 := tab_lv (by kernel_rfl)
theorem lv69_2 : tab.lv 69 2 = some 65571 := tab_lv (by kernel_rfl)
theorem lv69_3 : tab.lv 69 3 = some 35 := tab_lv (by kernel_rfl)
theorem lv69_4 : tab.lv 69 4 = some 16 := tab_lv (by kernel_rfl)
theorem lv70_0 : tab.lv 70 0 = some 1 := tab_lv (by kernel_rfl)
theorem lv70_1 : tab.lv 70 1 = some 4 := tab_lv (by kernel_rfl)
theorem lv71_0 : tab.lv 71 0 = some 1 := tab_lv (by kernel_rfl)
theorem lv71_1 : tab.lv 71 1 = some 4 := tab_lv (by kernel_rfl)
theorem lv72_0 : tab.lv 72 0 = some 1 := tab_lv (by kernel_rfl)
theorem lv72_1 : tab.lv 72 1 = some 8 := tab_lv (by kernel_rfl)
theorem lv72_2 : tab.lv 72 2 = some 24 := tab_lv (by kernel_rfl)
theorem lv72_3 : tab.lv 72 3 = some 24 := tab_lv (by kernel_rfl)
theorem lv72_4 : tab.lv 72 4 = some 24 := tab_lv (by kernel_rfl)
theorem lv72_5 : tab.lv 72 5 = some 24 := tab_lv (by kernel_rfl)
theorem lv72_6 : tab.lv 72 6 = some 24 := tab_lv (by kernel_rfl)
theorem lv72_7 : tab.lv 72 7 = some 24 := tab_lv (by kernel_rfl)
theorem lv72_8 : tab.lv 72 8 = some 16 := tab_lv (by kernel_rfl)
theorem lv72_9 : tab.lv 72 9 = some 4 := tab_lv (by kernel_rfl)
theorem lv72_10 : tab.lv 72 10 = some 4 := tab_lv (by kernel_rfl)
theorem lv73_0 : tab.lv 73 0 = some 1 := tab_lv (by kernel_rfl)
theorem lv73_1 : tab.lv 73 1 = some 4 := tab_lv (by kernel_rfl)
theorem lv74_0 : tab.lv 74 0 = some 1 := tab_lv (by kernel_rfl)
theorem lv74_1 : tab.lv 74 1 = some 4 := tab_lv (by kernel_rfl)
theorem lv84_0 : tab.lv 84 0 = some 3 := tab_lv (by kernel_rfl)
theorem lv84_1 : tab.lv 84 1 = some 16 := tab_lv (by kernel_rfl)
theorem mu35_26 : tab.mutA 35 26 = true := tab_mut (by kernel_rfl)
theorem mu25_35 : tab.mutA 25 35 = false := tab_mut (by kernel_rfl)
theorem mu83_27 : tab.mutA 83 27 = false := tab_mut (by kernel_rfl)
theorem mu25_28 : tab.mutA 25 28 = false := tab_mut (by kernel_rfl)
theorem mu9_13 : tab.mutA 9 13 = false := tab_mut (by kernel_rfl)
theorem mu79_31 : tab.mutA 79 31 = false := tab_mut (by kernel_rfl)
theorem ro3_7_raw_go_91 : tab.ro 3 7 "raw.go:91" = true := tab_ro (by kernel_rfl)
theorem ro9_3_names_go_46 : tab.ro 9 3 "names.go:46" = true := tab_ro (by kernel_rfl)
theorem ro24_1_fold_go_19 : tab.ro 24 1 "fold.go:19" = false := tab_ro (by kernel_rfl)
theorem ro24_1_value_go_14 : tab.ro 24 1 "value.go:14" = false := tab_ro (by kernel_rfl)
theorem ro24_1_value_go_68 : tab.ro 24 1 "value.go:68" = false := tab_ro (by kernel_rfl)
theorem ro24_2_value_go_126 : tab.ro 24 2 "value.go:126" = false := tab_ro (by kernel_rfl)
theorem ro24_3_value_go_126 : tab.ro 24 3 "value.go:126" = false := tab_ro (by kernel_rfl)
theorem ro27_1_expr_go_40 : tab.ro 27 1 "expr.go:40" = true := tab_ro (by kernel_rfl)
theorem ro27_1_expr_go_50 : tab.ro 27 1 "expr.go:50" = true := tab_ro (by kernel_rfl)
theorem ro27_1_expr_go_75 : tab.ro 27 1 "expr.go:75" = true := tab_ro (by kernel_rfl)
theorem ro27_1_expr_go_88 : tab.ro 27 1 "expr.go:88" = true := tab_ro (by kernel_rfl)
theorem ro27_1_fold_go_13 : tab.ro 27 1 "fold.go:13" = true := tab_ro (by kernel_rfl)
theorem ro27_1_fold_go_28 : tab.ro 27 1 "fold.go:28" = true := tab_ro (by kernel_rfl)
theorem ro27_1_fold_go_44 : tab.ro 27 1 "fold.go:44" = true := tab_ro (by kernel_rfl)
theorem ro27_1_fold_go_52 : tab.ro 27 1 "fold.go:52" = true := tab_ro (by kernel_rfl)
theorem ro27_1_names_go_15 : tab.ro 27 1 "names.go:15" = true := tab_ro (by kernel_rfl)
theorem ro27_1_names_go_34 : tab.ro 27 1 "names.go:34" = true := tab_ro (by kernel_rfl)
theorem ro27_2_eval_go_156 : tab.ro 27 2 "eval.go:156" = true := tab_ro (by kernel_rfl)
theorem ro27_2_names_go_46 : tab.ro 27 2 "names.go:46" = true := tab_ro (by kernel_rfl)
theorem ro27_3_eval_go_43 : tab.ro 27 3 "eval.go:43" = true := tab_ro (by kernel_rfl)
theorem ro27_3_eval_go_52 : tab.ro 27 3 "eval.go:52" = true := tab_ro (by kernel_rfl)
theorem ro27_3_eval_go_61 : tab.ro 27 3 "eval.go:61" = true := tab_ro (by kernel_rfl)
theorem ro27_3_names_go_18 : tab.ro 27 3 "names.go:18" = true := tab_ro (by kernel_rfl)
theorem ro30_6_raw_go_91 : tab.ro 30 6 "raw.go:91" = true := tab_ro (by kernel_rfl)
theorem ro51_4_raw_go_91 : tab.ro 51 4 "raw.go:91" = false := tab_ro (by kernel_rfl)
theorem ro53_9_low_go_267 : tab.ro 53 9 "low.go:267" = false := tab_ro (by kernel_rfl)
theorem ro53_10_raw_go_132 : tab.ro 53 10 "raw.go:132" = false := tab_ro (by kernel_rfl)
theorem ro58_3_raw_go_53 : tab.ro 58 3 "raw.go:53" = false := tab_ro (by kernel_rfl)
theorem ro58_3_raw_go_67 : tab.ro 58 3 "raw.go:67" = false := tab_ro (by kernel_rfl)
theorem ro86_2_names_go_16 : tab.ro 86 2 "names.go:16" = true := tab_ro (by kernel_rfl)
theorem rs3 : Try.f3.results.toList = [.tmp 8] := rfl
theorem rs4 : Try.f4.results.toList = [.tmp 4] := rfl
theorem rs5 : Try.f5.results.toList = [.tmp 4] := rfl
theorem rs6 : Try.f6.results.toList = [.cell 6 27] := rfl
theorem rs7 : Try.f7.results.toList = [.tmp 4] := rfl
theorem rs8 : Try.f8.results.toList = [.tmp 0] := rfl
theorem rs9 : Try.f9.results.toList = [.cell 2 27, .tmp 3] := rfl
theorem rs10 : Try.f10.results.toList = [.tmp 2] := rfl
theorem rs11 : Try.f11.results.toList = [.cell 4 24, .tmp 5] := rfl
theorem rs12 : Try.f12.results.toList = [.tmp 2, .tmp 3] := rfl
theorem rs13 : Try.f13.results.toList = [.tmp 2, .tmp 3] := rfl
theorem rs14 : Try.f14.results.toList = [.tmp 2] := rfl
theorem rs15 : Try.f15.results.toList = [.cell 4 4] := rfl
theorem rs16 : Try.f16.results.toList = [.cell 8 27] := rfl
theorem rs17 : Try.f17.results.toList = [.cell 2 27] := rfl
theorem rs18 : Try.f18.results.toList = [.cell 4 24] := rfl
theorem rs19 : Try.f19.results.toList = [.cell 2 58] := rfl
theorem rs20 : Try.f20.results.toList = [.tmp 2, .tmp 3] := rfl
theorem rs21 : Try.f21.results.toList = [.cell 4 24] := rfl
theorem rs22 : Try.f22.results.toList = [.tmp 2] := rfl
theorem rs23 : Try.f23.results.toList = [.tmp 2] := rfl
theorem rs24 : Try.f24.results.toList = [.tmp 2] := rfl
theorem rs25 : Try.f25.results.toList = [.cell 6 27] := rfl
theorem rs26 : Try.f26.results.toList = [.cell 7 27] := rfl
theorem rs27 : Try.f27.results.toList = [.tmp 2] := rfl
theorem rs28 : Try.f28.results.toList = [.cell 2 27] := rfl
theorem rs29 : Try.f29.results.toList = [.tmp 4] := rfl
theorem rs30 : Try.f30.results.toList = [.tmp 2] := rfl
theorem rs31 : Try.f31.results.toList = [.cell 2 24] := rfl
theorem rs32 : Try.f32.results.toList = [.cell 4 24, .tmp 5] := rfl
theorem rs33 : Try.f33.results.toList = [.cell 4 24] := rfl
theorem rs34 : Try.f34.results.toList = [.tmp 4, .cell 5 24] := rfl
theorem rs35 : Try.f35.results.toList = [.cell 4 24] := rfl
theorem rs36 : Try.f36.results.toList = [.tmp 2, .tmp 3] := rfl
theorem rs37 : Try.f37.results.toList = [.tmp 2] := rfl
theorem rs38 : Try.f38.results.toList = [] := rfl
theorem rs39 : Try.f39.results.toList = [.tmp 4] := rfl
theorem rs40 : Try.f40.results.toList = [.cell 4 27] := rfl
theorem rs41 : Try.f41.results.toList = [.tmp 2] := rfl
theorem rs42 : Try.f42.results.toList = [.tmp 2] := rfl
theorem rs43 : Try.f43.results.toList = [.tmp 4, .tmp 5] := rfl
theorem rs44 : Try.f44.results.toList = [.cell 2 24] := rfl
theorem rs45 : Try.f45.results.toList = [.tmp 4] := rfl
theorem rs46 : Try.f46.results.toList = [.tmp 4, .tmp 5] := rfl
theorem rs47 : Try.f47.results.toList = [.tmp 4, .tmp 5] := rfl
theorem rs48 : Try.f48.results.toList = [.tmp 4, .tmp 5] := rfl
theorem rs49 : Try.f49.results.toList = [.tmp 4, .tmp 5] := rfl
theorem rs50 : Try.f50.results.toList = [.tmp 4, .tmp 5] := rfl
theorem rs53 : Try.f53.results.toList = [.cell 0 102] := rfl
theorem rs54 : Try.f54.results.toList = [.tmp 2] := rfl
theorem rs55 : Try.f55.results.toList = [.tmp 2] := rfl
theorem rs56 : Try.f56.results.toList = [.tmp 4] := rfl
theorem rs57 : Try.f57.results.toList = [.tmp 4] := rfl
theorem rs58 : Try.f58.results.toList = [.tmp 6, .tmp 7] := rfl
theorem rs59 : Try.f59.results.toList = [.tmp 4] := rfl
theorem rs60 : Try.f60.results.toList = [.tmp 4] := rfl
theorem rs61 : Try.f61.results.toList = [.tmp 4, .tmp 5] := rfl
theorem rs62 : Try.f62.results.toList = [.tmp 4] := rfl
theorem rs63 : Try.f63.results.toList = [.tmp 4] := rfl
theorem rs64 : Try.f64.results.toList = [.tmp 4] := rfl
theorem rs68 : Try.f68.results.toList = [.tmp 2] := rfl
theorem rs69 : Try.f69.results.toList = [.tmp 4] := rfl
theorem rs70 : Try.f70.results.toList = [.tmp 2] := rfl
theorem rs71 : Try.f71.results.toList = [.tmp 2] := rfl
theorem rs72 : Try.f72.results.toList = [.tmp 2] := rfl
theorem rs73 : Try.f73.results.toList = [.tmp 2] := rfl
theorem rs74 : Try.f74.results.toList = [.tmp 2] := rfl
theorem rs84 : Try.f84.results.toList = [.tmp 4] := rfl
end Go.Proofs.Ythmggkidmcgfoaa.Am
