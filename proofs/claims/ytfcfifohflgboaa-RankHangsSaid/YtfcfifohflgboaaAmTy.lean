/- The table's entries, one by one. Printed by genty.py. -/
import Derived.Test.YtfcfifohflgboaaAmRule
set_option linter.unusedVariables false
set_option linter.unusedSimpArgs false
namespace Go.Proofs.Ytfcfifohflgboaa.Am
open Go Go.RowKit
set_option maxRecDepth 100000
theorem und1 : tab.und 1 = some (.func #[] #[] false) := (tab_und 1).trans Try.underlying1
theorem sz1 : size tab 1 = some 1 := by simp only [size, inf1, Option.map]
theorem ag1 : isAgg tab 1 = some false := by simp only [isAgg, und1]
theorem und2 : tab.und 2 = some (.int .i64) := (tab_und 2).trans Try.underlying2
theorem sz2 : size tab 2 = some 1 := by simp only [size, inf2, Option.map]
theorem ag2 : isAgg tab 2 = some false := by simp only [isAgg, und2]
theorem und3 : tab.und 3 = some (.int .i64) := (tab_und 3).trans Try.underlying3
theorem sz3 : size tab 3 = some 1 := by simp only [size, inf3, Option.map]
theorem ag3 : isAgg tab 3 = some false := by simp only [isAgg, und3]
theorem und4 : tab.und 4 = some (.bool) := (tab_und 4).trans Try.underlying4
theorem sz4 : size tab 4 = some 1 := by simp only [size, inf4, Option.map]
theorem ag4 : isAgg tab 4 = some false := by simp only [isAgg, und4]
theorem und5 : tab.und 5 = some (.int .u8) := (tab_und 5).trans Try.underlying5
theorem sz5 : size tab 5 = some 1 := by simp only [size, inf5, Option.map]
theorem ag5 : isAgg tab 5 = some false := by simp only [isAgg, und5]
theorem und9 : tab.und 9 = some (.string) := (tab_und 9).trans Try.underlying9
theorem sz9 : size tab 9 = some 1 := by simp only [size, inf9, Option.map]
theorem ag9 : isAgg tab 9 = some false := by simp only [isAgg, und9]
theorem und10 : tab.und 10 = some (.string) := (tab_und 10).trans Try.underlying10
theorem sz10 : size tab 10 = some 1 := by simp only [size, inf10, Option.map]
theorem ag10 : isAgg tab 10 = some false := by simp only [isAgg, und10]
theorem und22 : tab.und 22 = some (.slice 69) := (tab_und 22).trans Try.underlying22
theorem sz22 : size tab 22 = some 1 := by simp only [size, inf22, Option.map]
theorem ag22 : isAgg tab 22 = some false := by simp only [isAgg, und22]
theorem pT22 {i : Nat} : partType tab 22 i = 69 := by simp only [partType, und22]
theorem und23 : tab.und 23 = some (.slice 48) := (tab_und 23).trans Try.underlying23
theorem sz23 : size tab 23 = some 1 := by simp only [size, inf23, Option.map]
theorem ag23 : isAgg tab 23 = some false := by simp only [isAgg, und23]
theorem pT23 {i : Nat} : partType tab 23 i = 48 := by simp only [partType, und23]
theorem und24 : tab.und 24 = some (.slice 38) := (tab_und 24).trans Try.underlying24
theorem sz24 : size tab 24 = some 1 := by simp only [size, inf24, Option.map]
theorem ag24 : isAgg tab 24 = some false := by simp only [isAgg, und24]
theorem pT24 {i : Nat} : partType tab 24 i = 38 := by simp only [partType, und24]
theorem und26 : tab.und 26 = some (.struct #[{ name := "Fields", type := 23, offset := 0, embedded := false, tag := "", pkgPath := "", byteOffset := 0 }, { name := "Pages", type := 24, offset := 1, embedded := false, tag := "", pkgPath := "", byteOffset := 24 }]) := (tab_und 26).trans Try.underlying26
theorem sz26 : size tab 26 = some 2 := by simp only [size, inf26, Option.map]
theorem ag26 : isAgg tab 26 = some true := by simp only [isAgg, und26]
theorem fo26 : fieldsOf tab 26 = some [{ name := "Fields", type := 23, offset := 0, embedded := false, tag := "", pkgPath := "", byteOffset := 0 }, { name := "Pages", type := 24, offset := 1, embedded := false, tag := "", pkgPath := "", byteOffset := 24 }] := by simp only [fieldsOf, und26]
theorem pl26 : placesL tab [{ name := "Fields", type := 23, offset := 0, embedded := false, tag := "", pkgPath := "", byteOffset := 0 }, { name := "Pages", type := 24, offset := 1, embedded := false, tag := "", pkgPath := "", byteOffset := 24 }] = some [(0, 1), (1, 1)] := by simp only [placesL, sz23, sz24]
theorem bA26 {z : List AV} {ps : List (Nat × AV)} : buildA tab 26 z ps = fillA (fun i => [(0, 1), (1, 1)][i]?) z ps := bA_struct und26 pl26
theorem pT26_0 : partType tab 26 0 = 23 := by simp only [partType, und26]; rfl
theorem pT26_1 : partType tab 26 1 = 24 := by simp only [partType, und26]; rfl
theorem und28 : tab.und 28 = some (.int .i64) := (tab_und 28).trans Try.underlying28
theorem sz28 : size tab 28 = some 1 := by simp only [size, inf28, Option.map]
theorem ag28 : isAgg tab 28 = some false := by simp only [isAgg, und28]
theorem und31 : tab.und 31 = some (.slice 9) := (tab_und 31).trans Try.underlying31
theorem sz31 : size tab 31 = some 1 := by simp only [size, inf31, Option.map]
theorem ag31 : isAgg tab 31 = some false := by simp only [isAgg, und31]
theorem pT31 {i : Nat} : partType tab 31 i = 9 := by simp only [partType, und31]
theorem und33 : tab.und 33 = some (.struct #[{ name := "Kind", type := 3, offset := 0, embedded := false, tag := "", pkgPath := "", byteOffset := 0 }, { name := "N", type := 3, offset := 1, embedded := false, tag := "", pkgPath := "", byteOffset := 8 }, { name := "S", type := 9, offset := 2, embedded := false, tag := "", pkgPath := "", byteOffset := 16 }]) := (tab_und 33).trans Try.underlying33
theorem sz33 : size tab 33 = some 3 := by simp only [size, inf33, Option.map]
theorem ag33 : isAgg tab 33 = some true := by simp only [isAgg, und33]
theorem fo33 : fieldsOf tab 33 = some [{ name := "Kind", type := 3, offset := 0, embedded := false, tag := "", pkgPath := "", byteOffset := 0 }, { name := "N", type := 3, offset := 1, embedded := false, tag := "", pkgPath := "", byteOffset := 8 }, { name := "S", type := 9, offset := 2, embedded := false, tag := "", pkgPath := "", byteOffset := 16 }] := by simp only [fieldsOf, und33]
theorem pl33 : placesL tab [{ name := "Kind", type := 3, offset := 0, embedded := false, tag := "", pkgPath := "", byteOffset := 0 }, { name := "N", type := 3, offset := 1, embedded := false, tag := "", pkgPath := "", byteOffset := 8 }, { name := "S", type := 9, offset := 2, embedded := false, tag := "", pkgPath := "", byteOffset := 16 }] = some [(0, 1), (1, 1), (2, 1)] := by simp only [placesL, sz3, sz9]
theorem bA33 {z : List AV} {ps : List (Nat × AV)} : buildA tab 33 z ps = fillA (fun i => [(0, 1), (1, 1), (2, 1)][i]?) z ps := bA_struct und33 pl33
theorem pT33_0 : partType tab 33 0 = 3 := by simp only [partType, und33]; rfl
theorem pT33_1 : partType tab 33 1 = 3 := by simp only [partType, und33]; rfl
theorem pT33_2 : partType tab 33 2 = 9 := by simp only [partType, und33]; rfl
theorem und34 : tab.und 34 = some (.slice 36) := (tab_und 34).trans Try.underlying34
theorem sz34 : size tab 34 = some 1 := by simp only [size, inf34, Option.map]
theorem ag34 : isAgg tab 34 = some false := by simp only [isAgg, und34]
theorem pT34 {i : Nat} : partType tab 34 i = 36 := by simp only [partType, und34]
theorem und36 : tab.und 36 = some (.struct #[{ name := "Op", type := 3, offset := 0, embedded := false, tag := "", pkgPath := "", byteOffset := 0 }, { name := "V", type := 33, offset := 1, embedded := false, tag := "", pkgPath := "", byteOffset := 8 }, { name := "Name", type := 9, offset := 4, embedded := false, tag := "", pkgPath := "", byteOffset := 40 }, { name := "Args", type := 34, offset := 5, embedded := false, tag := "", pkgPath := "", byteOffset := 56 }]) := (tab_und 36).trans Try.underlying36
theorem sz36 : size tab 36 = some 6 := by simp only [size, inf36, Option.map]
theorem ag36 : isAgg tab 36 = some true := by simp only [isAgg, und36]
theorem fo36 : fieldsOf tab 36 = some [{ name := "Op", type := 3, offset := 0, embedded := false, tag := "", pkgPath := "", byteOffset := 0 }, { name := "V", type := 33, offset := 1, embedded := false, tag := "", pkgPath := "", byteOffset := 8 }, { name := "Name", type := 9, offset := 4, embedded := false, tag := "", pkgPath := "", byteOffset := 40 }, { name := "Args", type := 34, offset := 5, embedded := false, tag := "", pkgPath := "", byteOffset := 56 }] := by simp only [fieldsOf, und36]
theorem pl36 : placesL tab [{ name := "Op", type := 3, offset := 0, embedded := false, tag := "", pkgPath := "", byteOffset := 0 }, { name := "V", type := 33, offset := 1, embedded := false, tag := "", pkgPath := "", byteOffset := 8 }, { name := "Name", type := 9, offset := 4, embedded := false, tag := "", pkgPath := "", byteOffset := 40 }, { name := "Args", type := 34, offset := 5, embedded := false, tag := "", pkgPath := "", byteOffset := 56 }] = some [(0, 1), (1, 3), (4, 1), (5, 1)] := by simp only [placesL, sz3, sz33, sz34, sz9]
theorem bA36 {z : List AV} {ps : List (Nat × AV)} : buildA tab 36 z ps = fillA (fun i => [(0, 1), (1, 3), (4, 1), (5, 1)][i]?) z ps := bA_struct und36 pl36
theorem pT36_0 : partType tab 36 0 = 3 := by simp only [partType, und36]; rfl
theorem pT36_1 : partType tab 36 1 = 33 := by simp only [partType, und36]; rfl
theorem pT36_2 : partType tab 36 2 = 9 := by simp only [partType, und36]; rfl
theorem pT36_3 : partType tab 36 3 = 34 := by simp only [partType, und36]; rfl
theorem und38 : tab.und 38 = some (.struct #[{ name := "Name", type := 9, offset := 0, embedded := false, tag := "", pkgPath := "", byteOffset := 0 }, { name := "Fields", type := 31, offset := 1, embedded := false, tag := "", pkgPath := "", byteOffset := 16 }, { name := "Skip", type := 36, offset := 2, embedded := false, tag := "", pkgPath := "", byteOffset := 40 }]) := (tab_und 38).trans Try.underlying38
theorem sz38 : size tab 38 = some 8 := by simp only [size, inf38, Option.map]
theorem ag38 : isAgg tab 38 = some true := by simp only [isAgg, und38]
theorem fo38 : fieldsOf tab 38 = some [{ name := "Name", type := 9, offset := 0, embedded := false, tag := "", pkgPath := "", byteOffset := 0 }, { name := "Fields", type := 31, offset := 1, embedded := false, tag := "", pkgPath := "", byteOffset := 16 }, { name := "Skip", type := 36, offset := 2, embedded := false, tag := "", pkgPath := "", byteOffset := 40 }] := by simp only [fieldsOf, und38]
theorem pl38 : placesL tab [{ name := "Name", type := 9, offset := 0, embedded := false, tag := "", pkgPath := "", byteOffset := 0 }, { name := "Fields", type := 31, offset := 1, embedded := false, tag := "", pkgPath := "", byteOffset := 16 }, { name := "Skip", type := 36, offset := 2, embedded := false, tag := "", pkgPath := "", byteOffset := 40 }] = some [(0, 1), (1, 1), (2, 6)] := by simp only [placesL, sz31, sz36, sz9]
theorem bA38 {z : List AV} {ps : List (Nat × AV)} : buildA tab 38 z ps = fillA (fun i => [(0, 1), (1, 1), (2, 6)][i]?) z ps := bA_struct und38 pl38
theorem pT38_0 : partType tab 38 0 = 9 := by simp only [partType, und38]; rfl
theorem pT38_1 : partType tab 38 1 = 31 := by simp only [partType, und38]; rfl
theorem pT38_2 : partType tab 38 2 = 36 := by simp only [partType, und38]; rfl
theorem und41 : tab.und 41 = some (.func #[3, 3] #[3] false) := (tab_und 41).trans Try.underlying41
theorem sz41 : size tab 41 = some 1 := by simp only [size, inf41, Option.map]
theorem ag41 : isAgg tab 41 = some false := by simp only [isAgg, und41]
theorem und48 : tab.und 48 = some (.struct #[{ name := "Name", type := 9, offset := 0, embedded := false, tag := "", pkgPath := "", byteOffset := 0 }, { name := "Kind", type := 3, offset := 1, embedded := false, tag := "", pkgPath := "", byteOffset := 16 }, { name := "Type", type := 3, offset := 2, embedded := false, tag := "", pkgPath := "", byteOffset := 24 }, { name := "Source", type := 36, offset := 3, embedded := false, tag := "", pkgPath := "", byteOffset := 32 }]) := (tab_und 48).trans Try.underlying48
theorem sz48 : size tab 48 = some 9 := by simp only [size, inf48, Option.map]
theorem ag48 : isAgg tab 48 = some true := by simp only [isAgg, und48]
theorem fo48 : fieldsOf tab 48 = some [{ name := "Name", type := 9, offset := 0, embedded := false, tag := "", pkgPath := "", byteOffset := 0 }, { name := "Kind", type := 3, offset := 1, embedded := false, tag := "", pkgPath := "", byteOffset := 16 }, { name := "Type", type := 3, offset := 2, embedded := false, tag := "", pkgPath := "", byteOffset := 24 }, { name := "Source", type := 36, offset := 3, embedded := false, tag := "", pkgPath := "", byteOffset := 32 }] := by simp only [fieldsOf, und48]
theorem pl48 : placesL tab [{ name := "Name", type := 9, offset := 0, embedded := false, tag := "", pkgPath := "", byteOffset := 0 }, { name := "Kind", type := 3, offset := 1, embedded := false, tag := "", pkgPath := "", byteOffset := 16 }, { name := "Type", type := 3, offset := 2, embedded := false, tag := "", pkgPath := "", byteOffset := 24 }, { name := "Source", type := 36, offset := 3, embedded := false, tag := "", pkgPath := "", byteOffset := 32 }] = some [(0, 1), (1, 1), (2, 1), (3, 6)] := by simp only [placesL, sz3, sz36, sz9]
theorem bA48 {z : List AV} {ps : List (Nat × AV)} : buildA tab 48 z ps = fillA (fun i => [(0, 1), (1, 1), (2, 1), (3, 6)][i]?) z ps := bA_struct und48 pl48
theorem pT48_0 : partType tab 48 0 = 9 := by simp only [partType, und48]; rfl
theorem pT48_1 : partType tab 48 1 = 3 := by simp only [partType, und48]; rfl
theorem pT48_2 : partType tab 48 2 = 3 := by simp only [partType, und48]; rfl
theorem pT48_3 : partType tab 48 3 = 36 := by simp only [partType, und48]; rfl
theorem und50 : tab.und 50 = some (.slice 3) := (tab_und 50).trans Try.underlying50
theorem sz50 : size tab 50 = some 1 := by simp only [size, inf50, Option.map]
theorem ag50 : isAgg tab 50 = some false := by simp only [isAgg, und50]
theorem pT50 {i : Nat} : partType tab 50 i = 3 := by simp only [partType, und50]
theorem und65 : tab.und 65 = some (.pointer 67) := (tab_und 65).trans Try.underlying65
theorem sz65 : size tab 65 = some 1 := by simp only [size, inf65, Option.map]
theorem ag65 : isAgg tab 65 = some false := by simp only [isAgg, und65]
theorem und67 : tab.und 67 = some (.struct #[{ name := "l", type := 22, offset := 0, embedded := false, tag := "", pkgPath := "lychway/lychwaykeep", byteOffset := 0 }, { name := "at", type := 3, offset := 1, embedded := false, tag := "", pkgPath := "lychway/lychwaykeep", byteOffset := 24 }]) := (tab_und 67).trans Try.underlying67
theorem sz67 : size tab 67 = some 2 := by simp only [size, inf67, Option.map]
theorem ag67 : isAgg tab 67 = some true := by simp only [isAgg, und67]
theorem fo67 : fieldsOf tab 67 = some [{ name := "l", type := 22, offset := 0, embedded := false, tag := "", pkgPath := "lychway/lychwaykeep", byteOffset := 0 }, { name := "at", type := 3, offset := 1, embedded := false, tag := "", pkgPath := "lychway/lychwaykeep", byteOffset := 24 }] := by simp only [fieldsOf, und67]
theorem pl67 : placesL tab [{ name := "l", type := 22, offset := 0, embedded := false, tag := "", pkgPath := "lychway/lychwaykeep", byteOffset := 0 }, { name := "at", type := 3, offset := 1, embedded := false, tag := "", pkgPath := "lychway/lychwaykeep", byteOffset := 24 }] = some [(0, 1), (1, 1)] := by simp only [placesL, sz22, sz3]
theorem bA67 {z : List AV} {ps : List (Nat × AV)} : buildA tab 67 z ps = fillA (fun i => [(0, 1), (1, 1)][i]?) z ps := bA_struct und67 pl67
theorem pT67_0 : partType tab 67 0 = 22 := by simp only [partType, und67]; rfl
theorem pT67_1 : partType tab 67 1 = 3 := by simp only [partType, und67]; rfl
theorem und69 : tab.und 69 = some (.struct #[{ name := "Kind", type := 3, offset := 0, embedded := false, tag := "", pkgPath := "", byteOffset := 0 }, { name := "A", type := 3, offset := 1, embedded := false, tag := "", pkgPath := "", byteOffset := 8 }, { name := "B", type := 3, offset := 2, embedded := false, tag := "", pkgPath := "", byteOffset := 16 }, { name := "Text", type := 9, offset := 3, embedded := false, tag := "", pkgPath := "", byteOffset := 24 }]) := (tab_und 69).trans Try.underlying69
theorem sz69 : size tab 69 = some 4 := by simp only [size, inf69, Option.map]
theorem ag69 : isAgg tab 69 = some true := by simp only [isAgg, und69]
theorem fo69 : fieldsOf tab 69 = some [{ name := "Kind", type := 3, offset := 0, embedded := false, tag := "", pkgPath := "", byteOffset := 0 }, { name := "A", type := 3, offset := 1, embedded := false, tag := "", pkgPath := "", byteOffset := 8 }, { name := "B", type := 3, offset := 2, embedded := false, tag := "", pkgPath := "", byteOffset := 16 }, { name := "Text", type := 9, offset := 3, embedded := false, tag := "", pkgPath := "", byteOffset := 24 }] := by simp only [fieldsOf, und69]
theorem pl69 : placesL tab [{ name := "Kind", type := 3, offset := 0, embedded := false, tag := "", pkgPath := "", byteOffset := 0 }, { name := "A", type := 3, offset := 1, embedded := false, tag := "", pkgPath := "", byteOffset := 8 }, { name := "B", type := 3, offset := 2, embedded := false, tag := "", pkgPath := "", byteOffset := 16 }, { name := "Text", type := 9, offset := 3, embedded := false, tag := "", pkgPath := "", byteOffset := 24 }] = some [(0, 1), (1, 1), (2, 1), (3, 1)] := by simp only [placesL, sz3, sz9]
theorem bA69 {z : List AV} {ps : List (Nat × AV)} : buildA tab 69 z ps = fillA (fun i => [(0, 1), (1, 1), (2, 1), (3, 1)][i]?) z ps := bA_struct und69 pl69
theorem pT69_0 : partType tab 69 0 = 3 := by simp only [partType, und69]; rfl
theorem pT69_1 : partType tab 69 1 = 3 := by simp only [partType, und69]; rfl
theorem pT69_2 : partType tab 69 2 = 3 := by simp only [partType, und69]; rfl
theorem pT69_3 : partType tab 69 3 = 9 := by simp only [partType, und69]; rfl
theorem und73 : tab.und 73 = some (.slice 5) := (tab_und 73).trans Try.underlying73
theorem sz73 : size tab 73 = some 1 := by simp only [size, inf73, Option.map]
theorem ag73 : isAgg tab 73 = some false := by simp only [isAgg, und73]
theorem pT73 {i : Nat} : partType tab 73 i = 5 := by simp only [partType, und73]
theorem und85 : tab.und 85 = some (.slice 50) := (tab_und 85).trans Try.underlying85
theorem sz85 : size tab 85 = some 1 := by simp only [size, inf85, Option.map]
theorem ag85 : isAgg tab 85 = some false := by simp only [isAgg, und85]
theorem pT85 {i : Nat} : partType tab 85 i = 50 := by simp only [partType, und85]
theorem und89 : tab.und 89 = some (.func #[3] #[4] false) := (tab_und 89).trans Try.underlying89
theorem sz89 : size tab 89 = some 1 := by simp only [size, inf89, Option.map]
theorem ag89 : isAgg tab 89 = some false := by simp only [isAgg, und89]
theorem und96 : tab.und 96 = some (.func #[48] #[4] false) := (tab_und 96).trans Try.underlying96
theorem sz96 : size tab 96 = some 1 := by simp only [size, inf96, Option.map]
theorem ag96 : isAgg tab 96 = some false := by simp only [isAgg, und96]
theorem und102 : tab.und 102 = some (.map 3 4) := (tab_und 102).trans Try.underlying102
theorem sz102 : size tab 102 = some 1 := by simp only [size, inf102, Option.map]
theorem ag102 : isAgg tab 102 = some false := by simp only [isAgg, und102]
theorem und104 : tab.und 104 = some (.func #[3, 50] #[36] true) := (tab_und 104).trans Try.underlying104
theorem sz104 : size tab 104 = some 1 := by simp only [size, inf104, Option.map]
theorem ag104 : isAgg tab 104 = some false := by simp only [isAgg, und104]
theorem und105 : tab.und 105 = some (.func #[5] #[4] false) := (tab_und 105).trans Try.underlying105
theorem sz105 : size tab 105 = some 1 := by simp only [size, inf105, Option.map]
theorem ag105 : isAgg tab 105 = some false := by simp only [isAgg, und105]
theorem und119 : tab.und 119 = some (.map 9 3) := (tab_und 119).trans Try.underlying119
theorem sz119 : size tab 119 = some 1 := by simp only [size, inf119, Option.map]
theorem ag119 : isAgg tab 119 = some false := by simp only [isAgg, und119]
theorem und121 : tab.und 121 = some (.map 3 132) := (tab_und 121).trans Try.underlying121
theorem sz121 : size tab 121 = some 1 := by simp only [size, inf121, Option.map]
theorem ag121 : isAgg tab 121 = some false := by simp only [isAgg, und121]
theorem und132 : tab.und 132 = some (.struct #[{ name := "args", type := 50, offset := 0, embedded := false, tag := "", pkgPath := "lychway/typing", byteOffset := 0 }, { name := "own", type := 3, offset := 1, embedded := false, tag := "", pkgPath := "lychway/typing", byteOffset := 24 }]) := (tab_und 132).trans Try.underlying132
theorem sz132 : size tab 132 = some 2 := by simp only [size, inf132, Option.map]
theorem ag132 : isAgg tab 132 = some true := by simp only [isAgg, und132]
theorem fo132 : fieldsOf tab 132 = some [{ name := "args", type := 50, offset := 0, embedded := false, tag := "", pkgPath := "lychway/typing", byteOffset := 0 }, { name := "own", type := 3, offset := 1, embedded := false, tag := "", pkgPath := "lychway/typing", byteOffset := 24 }] := by simp only [fieldsOf, und132]
theorem pl132 : placesL tab [{ name := "args", type := 50, offset := 0, embedded := false, tag := "", pkgPath := "lychway/typing", byteOffset := 0 }, { name := "own", type := 3, offset := 1, embedded := false, tag := "", pkgPath := "lychway/typing", byteOffset := 24 }] = some [(0, 1), (1, 1)] := by simp only [placesL, sz3, sz50]
theorem bA132 {z : List AV} {ps : List (Nat × AV)} : buildA tab 132 z ps = fillA (fun i => [(0, 1), (1, 1)][i]?) z ps := bA_struct und132 pl132
theorem pT132_0 : partType tab 132 0 = 50 := by simp only [partType, und132]; rfl
theorem pT132_1 : partType tab 132 1 = 3 := by simp only [partType, und132]; rfl
theorem und138 : tab.und 138 = some (.struct #[{ name := "sign", type := 9, offset := 0, embedded := false, tag := "", pkgPath := "lychway/expr", byteOffset := 0 }, { name := "level", type := 3, offset := 1, embedded := false, tag := "", pkgPath := "lychway/expr", byteOffset := 16 }, { name := "args", type := 3, offset := 2, embedded := false, tag := "", pkgPath := "lychway/expr", byteOffset := 24 }]) := (tab_und 138).trans Try.underlying138
theorem sz138 : size tab 138 = some 3 := by simp only [size, inf138, Option.map]
theorem ag138 : isAgg tab 138 = some true := by simp only [isAgg, und138]
theorem fo138 : fieldsOf tab 138 = some [{ name := "sign", type := 9, offset := 0, embedded := false, tag := "", pkgPath := "lychway/expr", byteOffset := 0 }, { name := "level", type := 3, offset := 1, embedded := false, tag := "", pkgPath := "lychway/expr", byteOffset := 16 }, { name := "args", type := 3, offset := 2, embedded := false, tag := "", pkgPath := "lychway/expr", byteOffset := 24 }] := by simp only [fieldsOf, und138]
theorem pl138 : placesL tab [{ name := "sign", type := 9, offset := 0, embedded := false, tag := "", pkgPath := "lychway/expr", byteOffset := 0 }, { name := "level", type := 3, offset := 1, embedded := false, tag := "", pkgPath := "lychway/expr", byteOffset := 16 }, { name := "args", type := 3, offset := 2, embedded := false, tag := "", pkgPath := "lychway/expr", byteOffset := 24 }] = some [(0, 1), (1, 1), (2, 1)] := by simp only [placesL, sz3, sz9]
theorem bA138 {z : List AV} {ps : List (Nat × AV)} : buildA tab 138 z ps = fillA (fun i => [(0, 1), (1, 1), (2, 1)][i]?) z ps := bA_struct und138 pl138
theorem pT138_0 : partType tab 138 0 = 9 := by simp only [partType, und138]; rfl
theorem pT138_1 : partType tab 138 1 = 3 := by simp only [partType, und138]; rfl
theorem pT138_2 : partType tab 138 2 = 3 := by simp only [partType, und138]; rfl
theorem und139 : tab.und 139 = some (.array 19 138) := (tab_und 139).trans Try.underlying139
theorem sz139 : size tab 139 = some 57 := by simp only [size, inf139, Option.map]
theorem ag139 : isAgg tab 139 = some true := by simp only [isAgg, und139]
theorem bA139 {z : List AV} {ps : List (Nat × AV)} : buildA tab 139 z ps = fillA (fun i => some (i * 3, 3)) z ps := by simp only [buildA, und139, sz138]
theorem pT139 {i : Nat} : partType tab 139 i = 138 := by simp only [partType, und139]
theorem lv2 : leaves tab 8 2 = some [.int .i64] := by (simp [leaves, leavesF, sized, tab_cmp, cmpsL, tab, und2, sz2]; try rfl)
theorem lv3 : leaves tab 8 3 = some [.int .i64] := by (simp [leaves, leavesF, sized, tab_cmp, cmpsL, tab, und3, sz3]; try rfl)
theorem lv4 : leaves tab 8 4 = some [.bool] := by (simp [leaves, leavesF, sized, tab_cmp, cmpsL, tab, und4, sz4]; try rfl)
theorem lv5 : leaves tab 8 5 = some [.int .u8] := by (simp [leaves, leavesF, sized, tab_cmp, cmpsL, tab, und5, sz5]; try rfl)
theorem lv9 : leaves tab 8 9 = some [.string] := by (simp [leaves, leavesF, sized, tab_cmp, cmpsL, tab, und9, sz9]; try rfl)
theorem lv10 : leaves tab 8 10 = some [.string] := by (simp [leaves, leavesF, sized, tab_cmp, cmpsL, tab, und10, sz10]; try rfl)
theorem lv28 : leaves tab 8 28 = some [.int .i64] := by (simp [leaves, leavesF, sized, tab_cmp, cmpsL, tab, und28, sz28]; try rfl)
theorem lv33 : leaves tab 8 33 = some [.int .i64, .int .i64, .string] := by (simp [leaves, leavesF, sized, tab_cmp, cmpsL, tab, und3, sz3, und9, sz9, und33, sz33]; try rfl)
theorem kp9_9 : tab.keep 9 9 = some ([7, 8, 9, 10, 66, 67, 68], [17, 21, 22, 25, 26, 34, 44, 60, 65, 67, 74, 94, 100]) := tab_keep (by kernel_rfl)
theorem kp10_23 : tab.keep 10 23 = some ([2, 3, 4, 5, 9, 10, 11, 12, 77, 78, 91, 92, 93], [2, 4, 5, 11, 12, 17, 70, 109, 125]) := tab_keep (by kernel_rfl)
theorem kp10_18 : tab.keep 10 18 = some ([2, 3, 4, 5, 9, 77, 78], [2, 4, 5, 17, 70, 125]) := tab_keep (by kernel_rfl)
theorem kp10_5 : tab.keep 10 5 = some ([2, 3, 4, 5, 25, 26], [2, 4, 5, 17, 70]) := tab_keep (by kernel_rfl)
theorem kp22_10 : tab.keep 22 10 = some ([0, 8, 26, 27, 28], [12, 17, 19, 21, 26, 27, 39]) := tab_keep (by kernel_rfl)
theorem kp28_6 : tab.keep 28 6 = some ([4, 7, 19, 20], [4, 11, 19, 26, 30]) := tab_keep (by kernel_rfl)
theorem kp30_17 : tab.keep 30 17 = some ([10, 13, 53, 54], [10, 17, 26, 33, 34, 38, 48, 53, 63]) := tab_keep (by kernel_rfl)
theorem kp30_10 : tab.keep 30 10 = some ([0, 9, 10, 37, 38, 39], [10, 17, 26, 33, 34, 38, 48, 53]) := tab_keep (by kernel_rfl)
theorem kp34_1 : tab.keep 34 1 = some ([0, 2, 3], [5]) := tab_keep (by kernel_rfl)
theorem kp45_2 : tab.keep 45 2 = some ([0, 1, 7, 8], [7]) := tab_keep (by kernel_rfl)
theorem kp46_14 : tab.keep 46 14 = some ([0, 38, 39, 40], [4, 12, 15, 22, 32, 39, 46]) := tab_keep (by kernel_rfl)
theorem kp46_4 : tab.keep 46 4 = some ([0, 14, 15, 16], [9, 12, 15, 22, 32, 39, 46]) := tab_keep (by kernel_rfl)
theorem kp47_9 : tab.keep 47 9 = some ([0, 3, 6, 13, 14, 15, 28, 29, 30], [5, 43, 48]) := tab_keep (by kernel_rfl)
theorem kp47_3 : tab.keep 47 3 = some ([0, 3, 13, 14, 15], [48]) := tab_keep (by kernel_rfl)
theorem kp48_14 : tab.keep 48 14 = some ([0, 3, 5, 7, 23, 24, 26, 27, 28, 33, 34, 35], [11, 12, 14, 23, 27, 34, 50, 59]) := tab_keep (by kernel_rfl)
theorem kp48_10 : tab.keep 48 10 = some ([0, 3, 23, 24, 26, 27, 28], [11, 12, 14, 23, 27, 34, 50, 59]) := tab_keep (by kernel_rfl)
theorem kp48_8 : tab.keep 48 8 = some ([0, 3, 23, 24], [11, 12, 14, 23, 27, 34, 50, 59]) := tab_keep (by kernel_rfl)
theorem kp48_3 : tab.keep 48 3 = some ([0, 3, 14, 15], [11, 12, 14, 23, 27, 34, 50, 59]) := tab_keep (by kernel_rfl)
theorem kp52_4 : tab.keep 52 4 = some ([0, 1, 12, 13], [7, 9, 12]) := tab_keep (by kernel_rfl)
theorem kp54_2 : tab.keep 54 2 = some ([0, 1, 7, 8], [7, 16]) := tab_keep (by kernel_rfl)
theorem kp63_4 : tab.keep 63 4 = some ([1, 6, 7, 8, 13, 14, 15], [6, 7, 12, 14, 27, 30, 35, 40, 45, 46]) := tab_keep (by kernel_rfl)
theorem kp64_3 : tab.keep 64 3 = some ([2, 3, 4, 7, 8, 13, 14, 15], [7, 8, 14, 26, 28]) := tab_keep (by kernel_rfl)
theorem kp66_2 : tab.keep 66 2 = some ([0, 1, 5], [8, 15]) := tab_keep (by kernel_rfl)
theorem kp73_2 : tab.keep 73 2 = some ([0, 1, 7, 8], [7, 16]) := tab_keep (by kernel_rfl)
theorem kp77_9 : tab.keep 77 9 = some ([0, 1, 2, 6, 7, 8], [18, 27, 43, 60]) := tab_keep (by kernel_rfl)
theorem kp77_7 : tab.keep 77 7 = some ([0, 1, 2, 6], [18, 27, 43, 60]) := tab_keep (by kernel_rfl)
theorem kp77_2 : tab.keep 77 2 = some ([0, 1, 2, 6, 7, 8], [18, 27, 43, 60]) := tab_keep (by kernel_rfl)
theorem kp79_3 : tab.keep 79 3 = some ([4, 5, 11, 12, 13], [1, 12, 19, 27]) := tab_keep (by kernel_rfl)
theorem kp80_5 : tab.keep 80 5 = some ([13, 14, 15], [1, 8, 14, 20]) := tab_keep (by kernel_rfl)
theorem kp85_11 : tab.keep 85 11 = some ([1, 2, 3, 10, 37, 38, 39], [3, 15, 38, 47, 56, 71]) := tab_keep (by kernel_rfl)
theorem kp89_4 : tab.keep 89 4 = some ([0, 1, 2, 3, 8, 9], [32]) := tab_keep (by kernel_rfl)
theorem kp89_1 : tab.keep 89 1 = some ([0, 1, 2, 3, 8], [32]) := tab_keep (by kernel_rfl)
theorem kp111_3 : tab.keep 111 3 = some ([5, 15, 16, 17], [10, 12, 14, 16, 30]) := tab_keep (by kernel_rfl)
theorem kp122_4 : tab.keep 122 4 = some ([0, 8, 9], [5, 8]) := tab_keep (by kernel_rfl)
theorem dr9_14 : tab.drw 9 14 = some [[], [], [], [], [], [], [], [], [], [], [], [], [], [], [], [], [], [], [], [], [], [], [], [], [], []] := tab_drw (by kernel_rfl)
theorem dr10_4 : tab.drw 10 4 = some [[], [], [0, 1], [], [], [], []] := tab_drw (by kernel_rfl)
theorem dr10_8 : tab.drw 10 8 = some [[], [], [], [], [0], [0], [2, 3], [], [0, 6], [0, 6], [2, 3], [], [], [0, 2, 3, 4, 5, 6, 8, 9, 10], []] := tab_drw (by kernel_rfl)
theorem dr10_13 : tab.drw 10 13 = some [[], [], [], [], [], [3], [3], [], [], []] := tab_drw (by kernel_rfl)
theorem dr31_3 : tab.drw 31 3 = some [[], [], [], [], [], [], [], [], [], [], [], [], [], [], [], [], [1, 2, 3, 5, 6, 7, 9, 10, 11, 12, 14, 15], []] := tab_drw (by kernel_rfl)
theorem dr31_4 : tab.drw 31 4 = some [[], [], [], [], [], [], [], [], [], [], [], [], [], [], []] := tab_drw (by kernel_rfl)
theorem dr34_3 : tab.drw 34 3 = some [[], [], [], [], [], [], [], [], [], [], [], [], [], [], [], []] := tab_drw (by kernel_rfl)
theorem dr46_9 : tab.drw 46 9 = some [[], [], [], [], [], [], [], [], [], [], []] := tab_drw (by kernel_rfl)
theorem dr52_6 : tab.drw 52 6 = some [[], [], [], [], [], [], [], [], []] := tab_drw (by kernel_rfl)
theorem dr57_1 : tab.drw 57 1 = some [[], [], [], [], [], [], [], [], [], []] := tab_drw (by kernel_rfl)
theorem dr64_5 : tab.drw 64 5 = some [[], [], [], [], [], [], [], [0, 1], [], [], [], []] := tab_drw (by kernel_rfl)
theorem dr70_4 : tab.drw 70 4 = some [[], [], [0], [0], [], [], [], [], []] := tab_drw (by kernel_rfl)
theorem dr85_23 : tab.drw 85 23 = some [[], [], [], [], [], [], [], [], [], [], [], [], [], [], [], [], [], [], []] := tab_drw (by kernel_rfl)
theorem dr85_25 : tab.drw 85 25 = some [[], [], [], [], [], [], [], [], [], [], [], [], []] := tab_drw (by kernel_rfl)
theorem dr89_4 : tab.drw 89 4 = some [[], [], [], [], [], [], [], [], [], [], [], [], [], [], [], [], []] := tab_drw (by kernel_rfl)
theorem dr89_6 : tab.drw 89 6 = some [[], [], [], [], [], [], [], [], [], [], [], [], [], [], [], [], [], []] := tab_drw (by kernel_rfl)
theorem dr91_3 : tab.drw 91 3 = some [[], [], [], [0, 1, 2], [3], [3], [], [], []] := tab_drw (by kernel_rfl)
theorem lw9 : tab.lv 9 0 = some 7 ∧ tab.lv 9 1 = some 134 ∧ tab.lv 9 2 = some 896 ∧ tab.lv 9 3 = some 3968 ∧ tab.lv 9 4 = some 16256 ∧ tab.lv 9 5 = some 4611686018427393920 ∧ tab.lv 9 6 = some 64 ∧ tab.lv 9 7 = some 36893488147419109248 ∧ tab.lv 9 8 = some 516508834063867447168 ∧ tab.lv 9 9 = some 1106804644422573098880 ∧ tab.lv 9 10 = some 516508834063867479936 ∧ tab.lv 9 11 = some 38295440697021029156736 ∧ tab.lv 9 12 = some 64 ∧ tab.lv 9 13 = some 516508834063867447168 ∧ tab.lv 9 14 = some 64 := by and_intros <;> exact tab_lv (by kernel_rfl)
theorem lw10 : tab.lv 10 0 = some 5 ∧ tab.lv 10 1 = some 12 ∧ tab.lv 10 2 = some 28 ∧ tab.lv 10 3 = some 60 ∧ tab.lv 10 4 = some 100663356 ∧ tab.lv 10 5 = some 234881084 ∧ tab.lv 10 6 = some 100663420 ∧ tab.lv 10 7 = some 100663548 ∧ tab.lv 10 8 = some 100663740 ∧ tab.lv 10 9 = some 35184472752572 ∧ tab.lv 10 10 = some 105553216930236 ∧ tab.lv 10 11 = some 100663612 ∧ tab.lv 10 12 = some 36028797119627708 ∧ tab.lv 10 13 = some 100663612 ∧ tab.lv 10 14 = some 100663356 ∧ tab.lv 10 15 = some 100663356 ∧ tab.lv 10 16 = some 572 ∧ tab.lv 10 17 = some 453347182355485940515388 ∧ tab.lv 10 18 = some 1057810092162800527868476 ∧ tab.lv 10 19 = some 453347182355485940516412 ∧ tab.lv 10 20 = some 453347182355485940518460 ∧ tab.lv 10 21 = some 453347182355485940522556 ∧ tab.lv 10 22 = some 17331613897177679334528261692 ∧ tab.lv 10 23 = some 37138654525743763732914249276 ∧ tab.lv 10 24 = some 17331613897177679334528286268 ∧ tab.lv 10 25 = some 10158536415723012891308153921084 ∧ tab.lv 10 26 = some 17331613897177679334528261692 ∧ tab.lv 10 27 = some 17331613897177679334528261692 ∧ tab.lv 10 28 = some 41538374868731968210599456574280252 ∧ tab.lv 10 29 = some 453347182355485940519484 ∧ tab.lv 10 30 = some 453347182355485940515388 ∧ tab.lv 10 31 = some 453347182355485940515388 ∧ tab.lv 10 32 = some 2722258935367507707706996859454145691668 ∧ tab.lv 10 33 = some 20 ∧ tab.lv 10 34 = some 4 := by and_intros <;> exact tab_lv (by kernel_rfl)
theorem lw12 : tab.lv 12 0 = some 1 ∧ tab.lv 12 1 = some 3 ∧ tab.lv 12 2 = some 1 := by and_intros <;> exact tab_lv (by kernel_rfl)
theorem lw15 : tab.lv 15 0 = some 3 ∧ tab.lv 15 1 = some 67 ∧ tab.lv 15 2 = some 3 ∧ tab.lv 15 3 = some 16 := by and_intros <;> exact tab_lv (by kernel_rfl)
theorem lw21 : tab.lv 21 0 = some 3 ∧ tab.lv 21 1 = some 16 := by and_intros <;> exact tab_lv (by kernel_rfl)
theorem lw22 : tab.lv 22 0 = some 1 ∧ tab.lv 22 1 = some 33 ∧ tab.lv 22 2 = some 16417 ∧ tab.lv 22 3 = some 28 ∧ tab.lv 22 4 = some 65 ∧ tab.lv 22 5 = some 193 ∧ tab.lv 22 6 = some 4194497 ∧ tab.lv 22 7 = some 28 ∧ tab.lv 22 8 = some 449 ∧ tab.lv 22 9 = some 469762305 ∧ tab.lv 22 10 = some 1006633217 ∧ tab.lv 22 11 = some 469763329 ∧ tab.lv 22 12 = some 469762305 ∧ tab.lv 22 13 = some 469762305 ∧ tab.lv 22 14 = some 28 := by and_intros <;> exact tab_lv (by kernel_rfl)
theorem lw23 : tab.lv 23 0 = some 0 ∧ tab.lv 23 1 = some 10 ∧ tab.lv 23 2 = some 1 := by and_intros <;> exact tab_lv (by kernel_rfl)
theorem lw25 : tab.lv 25 0 = some 9 ∧ tab.lv 25 1 = some 64 ∧ tab.lv 25 2 = some 2112 ∧ tab.lv 25 3 = some 48 ∧ tab.lv 25 4 = some 48 := by and_intros <;> exact tab_lv (by kernel_rfl)
theorem lw28 : tab.lv 28 0 = some 1 ∧ tab.lv 28 1 = some 81 ∧ tab.lv 28 2 = some 65617 ∧ tab.lv 28 3 = some 12 ∧ tab.lv 28 4 = some 145 ∧ tab.lv 28 5 = some 1573008 ∧ tab.lv 28 6 = some 3670160 ∧ tab.lv 28 7 = some 1573264 ∧ tab.lv 28 8 = some 1573008 ∧ tab.lv 28 9 = some 1573008 ∧ tab.lv 28 10 = some 128 ∧ tab.lv 28 11 = some 12 := by and_intros <;> exact tab_lv (by kernel_rfl)
theorem lw30 : tab.lv 30 0 = some 3 ∧ tab.lv 30 1 = some 195 ∧ tab.lv 30 2 = some 2097347 ∧ tab.lv 30 3 = some 48 ∧ tab.lv 30 4 = some 449 ∧ tab.lv 30 5 = some 1073742273 ∧ tab.lv 30 6 = some 48 ∧ tab.lv 30 7 = some 833 ∧ tab.lv 30 8 = some 1601 ∧ tab.lv 30 9 = some 962072675841 ∧ tab.lv 30 10 = some 2061584303617 ∧ tab.lv 30 11 = some 962072679937 ∧ tab.lv 30 12 = some 282437049390593 ∧ tab.lv 30 13 = some 962072675841 ∧ tab.lv 30 14 = some 962072675841 ∧ tab.lv 30 15 = some 9217 ∧ tab.lv 30 16 = some 27021597764232192 ∧ tab.lv 30 17 = some 63050394783196160 ∧ tab.lv 30 18 = some 27021597764248576 ∧ tab.lv 30 19 = some 603482350067672064 ∧ tab.lv 30 20 = some 27021597764232192 ∧ tab.lv 30 21 = some 27021597764232192 ∧ tab.lv 30 22 = some 48 := by and_intros <;> exact tab_lv (by kernel_rfl)
theorem lw31 : tab.lv 31 0 = some 5 ∧ tab.lv 31 1 = some 517 ∧ tab.lv 31 2 = some 4 ∧ tab.lv 31 3 = some 13 ∧ tab.lv 31 4 = some 13 ∧ tab.lv 31 5 = some 12 ∧ tab.lv 31 6 = some 4 := by and_intros <;> exact tab_lv (by kernel_rfl)
theorem lw32 : tab.lv 32 0 = some 0 ∧ tab.lv 32 1 = some 1 := by and_intros <;> exact tab_lv (by kernel_rfl)
theorem lw33 : tab.lv 33 0 = some 466 ∧ tab.lv 33 1 = some 978 ∧ tab.lv 33 2 = some 8389586 ∧ tab.lv 33 3 = some 256 ∧ tab.lv 33 4 = some 1794 ∧ tab.lv 33 5 = some 4294969090 ∧ tab.lv 33 6 = some 256 ∧ tab.lv 33 7 = some 274877908736 ∧ tab.lv 33 8 = some 824633722624 ∧ tab.lv 33 9 = some 3328 ∧ tab.lv 33 10 = some 17592186047744 ∧ tab.lv 33 11 = some 256 ∧ tab.lv 33 12 = some 9024791440788736 ∧ tab.lv 33 13 = some 256 ∧ tab.lv 33 14 = some 288230376151715072 ∧ tab.lv 33 15 = some 256 ∧ tab.lv 33 16 = some 9223372036854777600 ∧ tab.lv 33 17 = some 5888 ∧ tab.lv 33 18 = some 13568 ∧ tab.lv 33 19 = some 256 ∧ tab.lv 33 20 = some 1208925819614629174712064 ∧ tab.lv 33 21 = some 256 ∧ tab.lv 33 22 = some 77371252455336267181201152 ∧ tab.lv 33 23 = some 256 ∧ tab.lv 33 24 = some 256 := by and_intros <;> exact tab_lv (by kernel_rfl)
theorem lw34 : tab.lv 34 0 = some 13 ∧ tab.lv 34 1 = some 525 ∧ tab.lv 34 2 = some 13 ∧ tab.lv 34 3 = some 13 := by and_intros <;> exact tab_lv (by kernel_rfl)
theorem lw35 : tab.lv 35 0 = some 1 ∧ tab.lv 35 1 = some 1025 ∧ tab.lv 35 2 = some 4 ∧ tab.lv 35 3 = some 33554432 ∧ tab.lv 35 4 = some 4 ∧ tab.lv 35 5 = some 4 := by and_intros <;> exact tab_lv (by kernel_rfl)
theorem lw37 : tab.lv 37 0 = some 14 ∧ tab.lv 37 1 = some 388 ∧ tab.lv 37 2 = some 65924 ∧ tab.lv 37 3 = some 64 ∧ tab.lv 37 4 = some 1048576 ∧ tab.lv 37 5 = some 64 ∧ tab.lv 37 6 = some 64 := by and_intros <;> exact tab_lv (by kernel_rfl)
theorem lw45 : tab.lv 45 0 = some 3 ∧ tab.lv 45 1 = some 387 ∧ tab.lv 45 2 = some 899 ∧ tab.lv 45 3 = some 419 ∧ tab.lv 45 4 = some 65955 ∧ tab.lv 45 5 = some 16 ∧ tab.lv 45 6 = some 387 ∧ tab.lv 45 7 = some 16 := by and_intros <;> exact tab_lv (by kernel_rfl)
theorem lw46 : tab.lv 46 0 = some 1 ∧ tab.lv 46 1 = some 8193 ∧ tab.lv 46 2 = some 4 ∧ tab.lv 46 3 = some 114689 ∧ tab.lv 46 4 = some 245761 ∧ tab.lv 46 5 = some 114713 ∧ tab.lv 46 6 = some 114745 ∧ tab.lv 46 7 = some 16891961 ∧ tab.lv 46 8 = some 4 ∧ tab.lv 46 9 = some 114817 ∧ tab.lv 46 10 = some 68719591425 ∧ tab.lv 46 11 = some 4 ∧ tab.lv 46 12 = some 114689 ∧ tab.lv 46 13 = some 1924145348609 ∧ tab.lv 46 14 = some 4123168604161 ∧ tab.lv 46 15 = some 1924145349121 ∧ tab.lv 46 16 = some 1924145349633 ∧ tab.lv 46 17 = some 283399122060289 ∧ tab.lv 46 18 = some 4 ∧ tab.lv 46 19 = some 1924145348609 ∧ tab.lv 46 20 = some 4 := by and_intros <;> exact tab_lv (by kernel_rfl)
theorem lw47 : tab.lv 47 0 = some 1 ∧ tab.lv 47 1 = some 9 ∧ tab.lv 47 2 = some 57353 ∧ tab.lv 47 3 = some 122889 ∧ tab.lv 47 4 = some 57385 ∧ tab.lv 47 5 = some 57449 ∧ tab.lv 47 6 = some 2154601 ∧ tab.lv 47 7 = some 57545 ∧ tab.lv 47 8 = some 1879105609 ∧ tab.lv 47 9 = some 4026589257 ∧ tab.lv 47 10 = some 1879106633 ∧ tab.lv 47 11 = some 1879107657 ∧ tab.lv 47 12 = some 1879105609 ∧ tab.lv 47 13 = some 1879105609 ∧ tab.lv 47 14 = some 57353 ∧ tab.lv 47 15 = some 57353 ∧ tab.lv 47 16 = some 4 := by and_intros <;> exact tab_lv (by kernel_rfl)
theorem lw48 : tab.lv 48 0 = some 1 ∧ tab.lv 48 1 = some 9 ∧ tab.lv 48 2 = some 49161 ∧ tab.lv 48 3 = some 114697 ∧ tab.lv 48 4 = some 49177 ∧ tab.lv 48 5 = some 49161 ∧ tab.lv 48 6 = some 49161 ∧ tab.lv 48 7 = some 25165833 ∧ tab.lv 48 8 = some 58720265 ∧ tab.lv 48 9 = some 494927881 ∧ tab.lv 48 10 = some 1031798793 ∧ tab.lv 48 11 = some 494927977 ∧ tab.lv 48 12 = some 494928105 ∧ tab.lv 48 13 = some 60624470185 ∧ tab.lv 48 14 = some 129343946921 ∧ tab.lv 48 15 = some 60624470697 ∧ tab.lv 48 16 = some 8856717492905 ∧ tab.lv 48 17 = some 494928041 ∧ tab.lv 48 18 = some 60624470185 ∧ tab.lv 48 19 = some 60624470185 ∧ tab.lv 48 20 = some 494927881 ∧ tab.lv 48 21 = some 494927881 ∧ tab.lv 48 22 = some 25165833 ∧ tab.lv 48 23 = some 4 := by and_intros <;> exact tab_lv (by kernel_rfl)
theorem lw49 : tab.lv 49 0 = some 3 ∧ tab.lv 49 1 = some 16 := by and_intros <;> exact tab_lv (by kernel_rfl)
theorem lw50 : tab.lv 50 0 = some 1 ∧ tab.lv 50 1 = some 4 := by and_intros <;> exact tab_lv (by kernel_rfl)
theorem lw52 : tab.lv 52 0 = some 3 ∧ tab.lv 52 1 = some 1027 ∧ tab.lv 52 2 = some 16 ∧ tab.lv 52 3 = some 12291 ∧ tab.lv 52 4 = some 28675 ∧ tab.lv 52 5 = some 12323 ∧ tab.lv 52 6 = some 16789507 ∧ tab.lv 52 7 = some 16 ∧ tab.lv 52 8 = some 12291 ∧ tab.lv 52 9 = some 16 := by and_intros <;> exact tab_lv (by kernel_rfl)
theorem lw54 : tab.lv 54 0 = some 3 ∧ tab.lv 54 1 = some 387 ∧ tab.lv 54 2 = some 899 ∧ tab.lv 54 3 = some 419 ∧ tab.lv 54 4 = some 65955 ∧ tab.lv 54 5 = some 16 ∧ tab.lv 54 6 = some 387 ∧ tab.lv 54 7 = some 16 := by and_intros <;> exact tab_lv (by kernel_rfl)
theorem lw55 : tab.lv 55 0 = some 6 ∧ tab.lv 55 1 = some 8 := by and_intros <;> exact tab_lv (by kernel_rfl)
theorem lw56 : tab.lv 56 0 = some 0 := by and_intros <;> exact tab_lv (by kernel_rfl)
theorem lw57 : tab.lv 57 0 = some 7 ∧ tab.lv 57 1 = some 32 := by and_intros <;> exact tab_lv (by kernel_rfl)
theorem lw58 : tab.lv 58 0 = some 3 ∧ tab.lv 58 1 = some 35 ∧ tab.lv 58 2 = some 99 ∧ tab.lv 58 3 = some 2115 ∧ tab.lv 58 4 = some 4096 ∧ tab.lv 58 5 = some 16 ∧ tab.lv 58 6 = some 16 ∧ tab.lv 58 7 = some 8195 ∧ tab.lv 58 8 = some 16 ∧ tab.lv 58 9 = some 65539 ∧ tab.lv 58 10 = some 16 ∧ tab.lv 58 11 = some 524288 ∧ tab.lv 58 12 = some 16 ∧ tab.lv 58 13 = some 16 := by and_intros <;> exact tab_lv (by kernel_rfl)
theorem lw59 : tab.lv 59 0 = some 2 ∧ tab.lv 59 1 = some 26 ∧ tab.lv 59 2 = some 2066 ∧ tab.lv 59 3 = some 4 ∧ tab.lv 59 4 = some 8194 ∧ tab.lv 59 5 = some 4 ∧ tab.lv 59 6 = some 4 := by and_intros <;> exact tab_lv (by kernel_rfl)
theorem lw62 : tab.lv 62 0 = some 3 ∧ tab.lv 62 1 = some 8 := by and_intros <;> exact tab_lv (by kernel_rfl)
theorem lw63 : tab.lv 63 0 = some 71 ∧ tab.lv 63 1 = some 198 ∧ tab.lv 63 2 = some 454 ∧ tab.lv 63 3 = some 57794 ∧ tab.lv 63 4 = some 123330 ∧ tab.lv 63 5 = some 58818 ∧ tab.lv 63 6 = some 4253122 ∧ tab.lv 63 7 = some 57794 ∧ tab.lv 63 8 = some 57794 ∧ tab.lv 63 9 = some 137438953922 ∧ tab.lv 63 10 = some 64 ∧ tab.lv 63 11 = some 64 := by and_intros <;> exact tab_lv (by kernel_rfl)
theorem lw64 : tab.lv 64 0 = some 159 ∧ tab.lv 64 1 = some 414 ∧ tab.lv 64 2 = some 57756 ∧ tab.lv 64 3 = some 123292 ∧ tab.lv 64 4 = some 58780 ∧ tab.lv 64 5 = some 57756 ∧ tab.lv 64 6 = some 57756 ∧ tab.lv 64 7 = some 128 := by and_intros <;> exact tab_lv (by kernel_rfl)
theorem lw65 : tab.lv 65 0 = some 1 ∧ tab.lv 65 1 = some 4 := by and_intros <;> exact tab_lv (by kernel_rfl)
theorem lw66 : tab.lv 66 0 = some 3 ∧ tab.lv 66 1 = some 35 ∧ tab.lv 66 2 = some 65571 ∧ tab.lv 66 3 = some 35 ∧ tab.lv 66 4 = some 16 := by and_intros <;> exact tab_lv (by kernel_rfl)
theorem lw67 : tab.lv 67 0 = some 1 ∧ tab.lv 67 1 = some 4 := by and_intros <;> exact tab_lv (by kernel_rfl)
theorem lw68 : tab.lv 68 0 = some 1 ∧ tab.lv 68 1 = some 4 := by and_intros <;> exact tab_lv (by kernel_rfl)
theorem lw69 : tab.lv 69 0 = some 1 ∧ tab.lv 69 1 = some 8 ∧ tab.lv 69 2 = some 24 ∧ tab.lv 69 3 = some 24 ∧ tab.lv 69 4 = some 24 ∧ tab.lv 69 5 = some 24 ∧ tab.lv 69 6 = some 24 ∧ tab.lv 69 7 = some 24 ∧ tab.lv 69 8 = some 16 ∧ tab.lv 69 9 = some 4 ∧ tab.lv 69 10 = some 4 := by and_intros <;> exact tab_lv (by kernel_rfl)
theorem lw70 : tab.lv 70 0 = some 6 ∧ tab.lv 70 1 = some 70 ∧ tab.lv 70 2 = some 1094 ∧ tab.lv 70 3 = some 48 ∧ tab.lv 70 4 = some 48 := by and_intros <;> exact tab_lv (by kernel_rfl)
theorem lw71 : tab.lv 71 0 = some 2 ∧ tab.lv 71 1 = some 10 ∧ tab.lv 71 2 = some 266 ∧ tab.lv 71 3 = some 4 ∧ tab.lv 71 4 = some 134217730 ∧ tab.lv 71 5 = some 4 ∧ tab.lv 71 6 = some 1073741826 ∧ tab.lv 71 7 = some 17179869184 ∧ tab.lv 71 8 = some 4 ∧ tab.lv 71 9 = some 4 ∧ tab.lv 71 10 = some 4 := by and_intros <;> exact tab_lv (by kernel_rfl)
theorem lw72 : tab.lv 72 0 = some 6 ∧ tab.lv 72 1 = some 262 ∧ tab.lv 72 2 = some 774 ∧ tab.lv 72 3 = some 16 ∧ tab.lv 72 4 = some 131078 ∧ tab.lv 72 5 = some 64 ∧ tab.lv 72 6 = some 16 ∧ tab.lv 72 7 = some 16 := by and_intros <;> exact tab_lv (by kernel_rfl)
theorem lw73 : tab.lv 73 0 = some 3 ∧ tab.lv 73 1 = some 387 ∧ tab.lv 73 2 = some 899 ∧ tab.lv 73 3 = some 419 ∧ tab.lv 73 4 = some 65955 ∧ tab.lv 73 5 = some 16 ∧ tab.lv 73 6 = some 387 ∧ tab.lv 73 7 = some 16 := by and_intros <;> exact tab_lv (by kernel_rfl)
theorem lw77 : tab.lv 77 0 = some 71 ∧ tab.lv 77 1 = some 455 ∧ tab.lv 77 2 = some 8647 ∧ tab.lv 77 3 = some 327 ∧ tab.lv 77 4 = some 455 ∧ tab.lv 77 5 = some 455 ∧ tab.lv 77 6 = some 71 ∧ tab.lv 77 7 = some 1073741895 ∧ tab.lv 77 8 = some 455 ∧ tab.lv 77 9 = some 34359738823 ∧ tab.lv 77 10 = some 327 ∧ tab.lv 77 11 = some 455 ∧ tab.lv 77 12 = some 455 ∧ tab.lv 77 13 = some 711 ∧ tab.lv 77 14 = some 18014398509482695 ∧ tab.lv 77 15 = some 71 ∧ tab.lv 77 16 = some 71 := by and_intros <;> exact tab_lv (by kernel_rfl)
theorem lw78 : tab.lv 78 0 = some 1 ∧ tab.lv 78 1 = some 4 := by and_intros <;> exact tab_lv (by kernel_rfl)
theorem lw79 : tab.lv 79 0 = some 2 ∧ tab.lv 79 1 = some 50 ∧ tab.lv 79 2 = some 14384 ∧ tab.lv 79 3 = some 30768 ∧ tab.lv 79 4 = some 14512 ∧ tab.lv 79 5 = some 15152 ∧ tab.lv 79 6 = some 14384 ∧ tab.lv 79 7 = some 14384 ∧ tab.lv 79 8 = some 12 := by and_intros <;> exact tab_lv (by kernel_rfl)
theorem lw80 : tab.lv 80 0 = some 2 ∧ tab.lv 80 1 = some 10 ∧ tab.lv 80 2 = some 1034 ∧ tab.lv 80 3 = some 4 ∧ tab.lv 80 4 = some 57344 ∧ tab.lv 80 5 = some 122880 ∧ tab.lv 80 6 = some 57376 ∧ tab.lv 80 7 = some 57408 ∧ tab.lv 80 8 = some 4251712 ∧ tab.lv 80 9 = some 4 ∧ tab.lv 80 10 = some 57344 ∧ tab.lv 80 11 = some 4 := by and_intros <;> exact tab_lv (by kernel_rfl)
theorem lw84 : tab.lv 84 0 = some 25 ∧ tab.lv 84 1 = some 49 ∧ tab.lv 84 2 = some 1072 ∧ tab.lv 84 3 = some 48 ∧ tab.lv 84 4 = some 16 := by and_intros <;> exact tab_lv (by kernel_rfl)
theorem lw85 : tab.lv 85 0 = some 14 ∧ tab.lv 85 1 = some 262158 ∧ tab.lv 85 2 = some 786446 ∧ tab.lv 85 3 = some 192 ∧ tab.lv 85 4 = some 16777230 ∧ tab.lv 85 5 = some 768 ∧ tab.lv 85 6 = some 17179869440 ∧ tab.lv 85 7 = some 192 ∧ tab.lv 85 8 = some 192 ∧ tab.lv 85 9 = some 1038 ∧ tab.lv 85 10 = some 962072675342 ∧ tab.lv 85 11 = some 2061584303118 ∧ tab.lv 85 12 = some 962072679438 ∧ tab.lv 85 13 = some 962072699918 ∧ tab.lv 85 14 = some 2252761886385166 ∧ tab.lv 85 15 = some 192 ∧ tab.lv 85 16 = some 962072675342 ∧ tab.lv 85 17 = some 962072675342 ∧ tab.lv 85 18 = some 99336 ∧ tab.lv 85 19 = some 36893488147419202568 ∧ tab.lv 85 20 = some 192 ∧ tab.lv 85 21 = some 37778931862957161710600 ∧ tab.lv 85 22 = some 192 ∧ tab.lv 85 23 = some 151115727451828646839304 ∧ tab.lv 85 24 = some 192 ∧ tab.lv 85 25 = some 633825300114114700748351602688 ∧ tab.lv 85 26 = some 192 ∧ tab.lv 85 27 = some 192 := by and_intros <;> exact tab_lv (by kernel_rfl)
theorem lw88 : tab.lv 88 0 = some 2 ∧ tab.lv 88 1 = some 4 := by and_intros <;> exact tab_lv (by kernel_rfl)
theorem lw89 : tab.lv 89 0 = some 271 ∧ tab.lv 89 1 = some 16655 ∧ tab.lv 89 2 = some 271 ∧ tab.lv 89 3 = some 783 ∧ tab.lv 89 4 = some 17179869967 ∧ tab.lv 89 5 = some 783 ∧ tab.lv 89 6 = some 783 := by and_intros <;> exact tab_lv (by kernel_rfl)
theorem lw91 : tab.lv 91 0 = some 2 ∧ tab.lv 91 1 = some 1026 ∧ tab.lv 91 2 = some 4 ∧ tab.lv 91 3 = some 524290 ∧ tab.lv 91 4 = some 4 ∧ tab.lv 91 5 = some 2097154 ∧ tab.lv 91 6 = some 1073741824 ∧ tab.lv 91 7 = some 4 ∧ tab.lv 91 8 = some 2149580802 ∧ tab.lv 91 9 = some 9007199254740992 ∧ tab.lv 91 10 = some 4 ∧ tab.lv 91 11 = some 18014398509481986 ∧ tab.lv 91 12 = some 36893488147419103232 ∧ tab.lv 91 13 = some 4 ∧ tab.lv 91 14 = some 4 := by and_intros <;> exact tab_lv (by kernel_rfl)
theorem lw95 : tab.lv 95 0 = some 25 ∧ tab.lv 95 1 = some 56 ∧ tab.lv 95 2 = some 120 ∧ tab.lv 95 3 = some 2072 ∧ tab.lv 95 4 = some 16 ∧ tab.lv 95 5 = some 16 ∧ tab.lv 95 6 = some 4194328 ∧ tab.lv 95 7 = some 16 ∧ tab.lv 95 8 = some 16 := by and_intros <;> exact tab_lv (by kernel_rfl)
theorem lw98 : tab.lv 98 0 = some 1 ∧ tab.lv 98 1 = some 1 := by and_intros <;> exact tab_lv (by kernel_rfl)
theorem lw99 : tab.lv 99 0 = some 2 ∧ tab.lv 99 1 = some 4 := by and_intros <;> exact tab_lv (by kernel_rfl)
theorem lw111 : tab.lv 111 0 = some 3 ∧ tab.lv 111 1 = some 32 ∧ tab.lv 111 2 = some 229408 ∧ tab.lv 111 3 = some 491552 ∧ tab.lv 111 4 = some 229600 ∧ tab.lv 111 5 = some 229408 ∧ tab.lv 111 6 = some 229408 ∧ tab.lv 111 7 = some 16 := by and_intros <;> exact tab_lv (by kernel_rfl)
theorem lw114 : tab.lv 114 0 = some 2 ∧ tab.lv 114 1 = some 34 ∧ tab.lv 114 2 = some 4 ∧ tab.lv 114 3 = some 98 ∧ tab.lv 114 4 = some 10 ∧ tab.lv 114 5 = some 4106 ∧ tab.lv 114 6 = some 4 ∧ tab.lv 114 7 = some 16418 ∧ tab.lv 114 8 = some 8388610 ∧ tab.lv 114 9 = some 4 ∧ tab.lv 114 10 = some 16777250 ∧ tab.lv 114 11 = some 268435458 ∧ tab.lv 114 12 = some 4 ∧ tab.lv 114 13 = some 4 ∧ tab.lv 114 14 = some 4294967330 ∧ tab.lv 114 15 = some 68719476738 ∧ tab.lv 114 16 = some 4 ∧ tab.lv 114 17 = some 137438953474 ∧ tab.lv 114 18 = some 70368744177666 ∧ tab.lv 114 19 = some 4 ∧ tab.lv 114 20 = some 562949953421312 ∧ tab.lv 114 21 = some 4 ∧ tab.lv 114 22 = some 4 := by and_intros <;> exact tab_lv (by kernel_rfl)
theorem lw121 : tab.lv 121 0 = some 1 ∧ tab.lv 121 1 = some 256 ∧ tab.lv 121 2 = some 4 ∧ tab.lv 121 3 = some 4 := by and_intros <;> exact tab_lv (by kernel_rfl)
theorem lw122 : tab.lv 122 0 = some 1 ∧ tab.lv 122 1 = some 65 ∧ tab.lv 122 2 = some 4 ∧ tab.lv 122 3 = some 769 ∧ tab.lv 122 4 = some 1793 ∧ tab.lv 122 5 = some 777 ∧ tab.lv 122 6 = some 2097921 ∧ tab.lv 122 7 = some 4 ∧ tab.lv 122 8 = some 769 ∧ tab.lv 122 9 = some 4 := by and_intros <;> exact tab_lv (by kernel_rfl)
theorem mu23_70 : tab.mutA 23 70 = true := tab_mut (by kernel_rfl)
theorem mu50_26 : tab.mutA 50 26 = true := tab_mut (by kernel_rfl)
theorem mu31_109 : tab.mutA 31 109 = false := tab_mut (by kernel_rfl)
theorem mu24_125 : tab.mutA 24 125 = false := tab_mut (by kernel_rfl)
theorem mu31_39 : tab.mutA 31 39 = false := tab_mut (by kernel_rfl)
theorem mu50_63 : tab.mutA 50 63 = false := tab_mut (by kernel_rfl)
theorem mu23_29 : tab.mutA 23 29 = false := tab_mut (by kernel_rfl)
theorem mu50_43 : tab.mutA 50 43 = false := tab_mut (by kernel_rfl)
theorem mu85_48 : tab.mutA 85 48 = false := tab_mut (by kernel_rfl)
theorem mu31_27 : tab.mutA 31 27 = false := tab_mut (by kernel_rfl)
theorem mu34_28 : tab.mutA 34 28 = false := tab_mut (by kernel_rfl)
theorem mu50_56 : tab.mutA 50 56 = false := tab_mut (by kernel_rfl)
theorem mu9_13 : tab.mutA 9 13 = false := tab_mut (by kernel_rfl)
theorem ro3_7_raw_go_91 : tab.ro 3 7 "raw.go:91" = true := tab_ro (by kernel_rfl)
theorem ro9_3_field_go_16 : tab.ro 9 3 "field.go:16" = true := tab_ro (by kernel_rfl)
theorem ro23_6_raw_go_91 : tab.ro 23 6 "raw.go:91" = false := tab_ro (by kernel_rfl)
theorem ro33_1_value_go_14 : tab.ro 33 1 "value.go:14" = false := tab_ro (by kernel_rfl)
theorem ro33_1_value_go_68 : tab.ro 33 1 "value.go:68" = false := tab_ro (by kernel_rfl)
theorem ro36_1_expr_go_40 : tab.ro 36 1 "expr.go:40" = true := tab_ro (by kernel_rfl)
theorem ro36_1_expr_go_50 : tab.ro 36 1 "expr.go:50" = true := tab_ro (by kernel_rfl)
theorem ro36_1_expr_go_75 : tab.ro 36 1 "expr.go:75" = true := tab_ro (by kernel_rfl)
theorem ro36_1_expr_go_88 : tab.ro 36 1 "expr.go:88" = true := tab_ro (by kernel_rfl)
theorem ro36_1_field_go_25 : tab.ro 36 1 "field.go:25" = true := tab_ro (by kernel_rfl)
theorem ro36_2_typing_go_71 : tab.ro 36 2 "typing.go:71" = true := tab_ro (by kernel_rfl)
theorem ro36_3_typing_go_28 : tab.ro 36 3 "typing.go:28" = true := tab_ro (by kernel_rfl)
theorem ro36_3_typing_go_79 : tab.ro 36 3 "typing.go:79" = true := tab_ro (by kernel_rfl)
theorem ro48_1_field_go_30 : tab.ro 48 1 "field.go:30" = true := tab_ro (by kernel_rfl)
theorem ro48_2_field_go_17 : tab.ro 48 2 "field.go:17" = true := tab_ro (by kernel_rfl)
theorem ro48_2_field_go_47 : tab.ro 48 2 "field.go:47" = true := tab_ro (by kernel_rfl)
theorem ro65_4_raw_go_91 : tab.ro 65 4 "raw.go:91" = false := tab_ro (by kernel_rfl)
theorem ro67_17_raw_go_148 : tab.ro 67 17 "raw.go:148" = false := tab_ro (by kernel_rfl)
theorem ro69_3_raw_go_53 : tab.ro 69 3 "raw.go:53" = false := tab_ro (by kernel_rfl)
theorem ro69_3_raw_go_67 : tab.ro 69 3 "raw.go:67" = false := tab_ro (by kernel_rfl)
theorem rs9 : Try.f9.results.toList = [.tmp 6] := rfl
theorem rs10 : Try.f10.results.toList = [.cell 2 26] := rfl
theorem rs12 : Try.f12.results.toList = [.cell 0 26] := rfl
theorem rs15 : Try.f15.results.toList = [.tmp 4] := rfl
theorem rs21 : Try.f21.results.toList = [.tmp 4] := rfl
theorem rs22 : Try.f22.results.toList = [.tmp 2, .tmp 3, .tmp 4] := rfl
theorem rs23 : Try.f23.results.toList = [.tmp 0] := rfl
theorem rs25 : Try.f25.results.toList = [.tmp 4, .tmp 5] := rfl
theorem rs28 : Try.f28.results.toList = [.tmp 2, .tmp 3] := rfl
theorem rs30 : Try.f30.results.toList = [.tmp 4, .tmp 5] := rfl
theorem rs31 : Try.f31.results.toList = [.cell 2 69] := rfl
theorem rs32 : Try.f32.results.toList = [.tmp 0] := rfl
theorem rs33 : Try.f33.results.toList = [.cell 8 36] := rfl
theorem rs34 : Try.f34.results.toList = [] := rfl
theorem rs35 : Try.f35.results.toList = [.tmp 2] := rfl
theorem rs37 : Try.f37.results.toList = [.tmp 6] := rfl
theorem rs45 : Try.f45.results.toList = [.tmp 4] := rfl
theorem rs46 : Try.f46.results.toList = [.tmp 2] := rfl
theorem rs47 : Try.f47.results.toList = [.tmp 2] := rfl
theorem rs48 : Try.f48.results.toList = [.tmp 2] := rfl
theorem rs49 : Try.f49.results.toList = [.tmp 4] := rfl
theorem rs50 : Try.f50.results.toList = [.tmp 2] := rfl
theorem rs52 : Try.f52.results.toList = [.tmp 4] := rfl
theorem rs54 : Try.f54.results.toList = [.tmp 4] := rfl
theorem rs55 : Try.f55.results.toList = [.tmp 3] := rfl
theorem rs56 : Try.f56.results.toList = [] := rfl
theorem rs57 : Try.f57.results.toList = [.tmp 5] := rfl
theorem rs58 : Try.f58.results.toList = [.tmp 4] := rfl
theorem rs59 : Try.f59.results.toList = [.tmp 2] := rfl
theorem rs62 : Try.f62.results.toList = [.tmp 3] := rfl
theorem rs63 : Try.f63.results.toList = [.cell 6 36] := rfl
theorem rs64 : Try.f64.results.toList = [.cell 7 36] := rfl
theorem rs65 : Try.f65.results.toList = [.tmp 2] := rfl
theorem rs66 : Try.f66.results.toList = [.tmp 4] := rfl
theorem rs67 : Try.f67.results.toList = [.tmp 2] := rfl
theorem rs68 : Try.f68.results.toList = [.tmp 2] := rfl
theorem rs69 : Try.f69.results.toList = [.tmp 2] := rfl
theorem rs70 : Try.f70.results.toList = [.tmp 4, .tmp 5] := rfl
theorem rs71 : Try.f71.results.toList = [.tmp 2] := rfl
theorem rs72 : Try.f72.results.toList = [.tmp 4] := rfl
theorem rs73 : Try.f73.results.toList = [.tmp 4] := rfl
theorem rs77 : Try.f77.results.toList = [] := rfl
theorem rs78 : Try.f78.results.toList = [.tmp 2] := rfl
theorem rs79 : Try.f79.results.toList = [.tmp 2, .tmp 3] := rfl
theorem rs80 : Try.f80.results.toList = [.tmp 2] := rfl
theorem rs84 : Try.f84.results.toList = [.cell 4 36] := rfl
theorem rs85 : Try.f85.results.toList = [.tmp 6, .tmp 7] := rfl
theorem rs88 : Try.f88.results.toList = [.tmp 2] := rfl
theorem rs89 : Try.f89.results.toList = [] := rfl
theorem rs91 : Try.f91.results.toList = [.tmp 2] := rfl
theorem rs95 : Try.f95.results.toList = [.cell 4 33] := rfl
theorem rs98 : Try.f98.results.toList = [.cell 0 139] := rfl
theorem rs99 : Try.f99.results.toList = [.tmp 2] := rfl
theorem rs111 : Try.f111.results.toList = [.tmp 4] := rfl
theorem rs114 : Try.f114.results.toList = [.tmp 2] := rfl
theorem rs121 : Try.f121.results.toList = [.tmp 2] := rfl
theorem rs122 : Try.f122.results.toList = [.tmp 2] := rfl
theorem tt1 : type_of% (ai (ai @und1 @sz1) (ai @ag1 @inf1)) := (ai (ai @und1 @sz1) (ai @ag1 @inf1))
theorem tt2 : type_of% (ai (ai @und2 @sz2) (ai @ag2 (ai @lv2 @inf2))) := (ai (ai @und2 @sz2) (ai @ag2 (ai @lv2 @inf2)))
theorem tt3 : type_of% (ai (ai @und3 @sz3) (ai @ag3 (ai @lv3 @inf3))) := (ai (ai @und3 @sz3) (ai @ag3 (ai @lv3 @inf3)))
theorem tt4 : type_of% (ai (ai @und4 @sz4) (ai @ag4 (ai @lv4 @inf4))) := (ai (ai @und4 @sz4) (ai @ag4 (ai @lv4 @inf4)))
theorem tt5 : type_of% (ai (ai @und5 @sz5) (ai @ag5 (ai @lv5 @inf5))) := (ai (ai @und5 @sz5) (ai @ag5 (ai @lv5 @inf5)))
theorem tt9 : type_of% (ai (ai @und9 @sz9) (ai @ag9 (ai @lv9 @inf9))) := (ai (ai @und9 @sz9) (ai @ag9 (ai @lv9 @inf9)))
theorem tt10 : type_of% (ai (ai @und10 @sz10) (ai @ag10 (ai @lv10 @inf10))) := (ai (ai @und10 @sz10) (ai @ag10 (ai @lv10 @inf10)))
theorem tt22 : type_of% (ai (ai @und22 @sz22) (ai @ag22 (ai @pT22 @inf22))) := (ai (ai @und22 @sz22) (ai @ag22 (ai @pT22 @inf22)))
theorem tt23 : type_of% (ai (ai @und23 @sz23) (ai @ag23 (ai @pT23 @inf23))) := (ai (ai @und23 @sz23) (ai @ag23 (ai @pT23 @inf23)))
theorem tt24 : type_of% (ai (ai @und24 @sz24) (ai @ag24 (ai @pT24 @inf24))) := (ai (ai @und24 @sz24) (ai @ag24 (ai @pT24 @inf24)))
theorem tt26 : type_of% (ai (ai (ai @und26 @sz26) (ai @ag26 @fo26)) (ai (ai @bA26 @pT26_0) (ai @pT26_1 @inf26))) := (ai (ai (ai @und26 @sz26) (ai @ag26 @fo26)) (ai (ai @bA26 @pT26_0) (ai @pT26_1 @inf26)))
theorem tt28 : type_of% (ai (ai @und28 @sz28) (ai @ag28 (ai @lv28 @inf28))) := (ai (ai @und28 @sz28) (ai @ag28 (ai @lv28 @inf28)))
theorem tt31 : type_of% (ai (ai @und31 @sz31) (ai @ag31 (ai @pT31 @inf31))) := (ai (ai @und31 @sz31) (ai @ag31 (ai @pT31 @inf31)))
theorem tt33 : type_of% (ai (ai (ai @und33 @sz33) (ai @ag33 (ai @fo33 @bA33))) (ai (ai @pT33_0 @pT33_1) (ai @pT33_2 (ai @lv33 @inf33)))) := (ai (ai (ai @und33 @sz33) (ai @ag33 (ai @fo33 @bA33))) (ai (ai @pT33_0 @pT33_1) (ai @pT33_2 (ai @lv33 @inf33))))
theorem tt34 : type_of% (ai (ai @und34 @sz34) (ai @ag34 (ai @pT34 @inf34))) := (ai (ai @und34 @sz34) (ai @ag34 (ai @pT34 @inf34)))
theorem tt36 : type_of% (ai (ai (ai @und36 @sz36) (ai @ag36 (ai @fo36 @bA36))) (ai (ai @pT36_0 @pT36_1) (ai @pT36_2 (ai @pT36_3 @inf36)))) := (ai (ai (ai @und36 @sz36) (ai @ag36 (ai @fo36 @bA36))) (ai (ai @pT36_0 @pT36_1) (ai @pT36_2 (ai @pT36_3 @inf36))))
theorem tt38 : type_of% (ai (ai (ai @und38 @sz38) (ai @ag38 @fo38)) (ai (ai @bA38 @pT38_0) (ai @pT38_1 (ai @pT38_2 @inf38)))) := (ai (ai (ai @und38 @sz38) (ai @ag38 @fo38)) (ai (ai @bA38 @pT38_0) (ai @pT38_1 (ai @pT38_2 @inf38))))
theorem tt41 : type_of% (ai (ai @und41 @sz41) (ai @ag41 @inf41)) := (ai (ai @und41 @sz41) (ai @ag41 @inf41))
theorem tt48 : type_of% (ai (ai (ai @und48 @sz48) (ai @ag48 (ai @fo48 @bA48))) (ai (ai @pT48_0 @pT48_1) (ai @pT48_2 (ai @pT48_3 @inf48)))) := (ai (ai (ai @und48 @sz48) (ai @ag48 (ai @fo48 @bA48))) (ai (ai @pT48_0 @pT48_1) (ai @pT48_2 (ai @pT48_3 @inf48))))
theorem tt50 : type_of% (ai (ai @und50 @sz50) (ai @ag50 (ai @pT50 @inf50))) := (ai (ai @und50 @sz50) (ai @ag50 (ai @pT50 @inf50)))
theorem tt65 : type_of% (ai (ai @und65 @sz65) (ai @ag65 @inf65)) := (ai (ai @und65 @sz65) (ai @ag65 @inf65))
theorem tt67 : type_of% (ai (ai (ai @und67 @sz67) (ai @ag67 @fo67)) (ai (ai @bA67 @pT67_0) (ai @pT67_1 @inf67))) := (ai (ai (ai @und67 @sz67) (ai @ag67 @fo67)) (ai (ai @bA67 @pT67_0) (ai @pT67_1 @inf67)))
theorem tt69 : type_of% (ai (ai (ai @und69 @sz69) (ai @ag69 (ai @fo69 @bA69))) (ai (ai @pT69_0 @pT69_1) (ai @pT69_2 (ai @pT69_3 @inf69)))) := (ai (ai (ai @und69 @sz69) (ai @ag69 (ai @fo69 @bA69))) (ai (ai @pT69_0 @pT69_1) (ai @pT69_2 (ai @pT69_3 @inf69))))
theorem tt73 : type_of% (ai (ai @und73 @sz73) (ai @ag73 (ai @pT73 @inf73))) := (ai (ai @und73 @sz73) (ai @ag73 (ai @pT73 @inf73)))
theorem tt85 : type_of% (ai (ai @und85 @sz85) (ai @ag85 (ai @pT85 @inf85))) := (ai (ai @und85 @sz85) (ai @ag85 (ai @pT85 @inf85)))
theorem tt89 : type_of% (ai (ai @und89 @sz89) (ai @ag89 @inf89)) := (ai (ai @und89 @sz89) (ai @ag89 @inf89))
theorem tt96 : type_of% (ai (ai @und96 @sz96) (ai @ag96 @inf96)) := (ai (ai @und96 @sz96) (ai @ag96 @inf96))
theorem tt102 : type_of% (ai (ai @und102 @sz102) (ai @ag102 @inf102)) := (ai (ai @und102 @sz102) (ai @ag102 @inf102))
theorem tt104 : type_of% (ai (ai @und104 @sz104) (ai @ag104 @inf104)) := (ai (ai @und104 @sz104) (ai @ag104 @inf104))
theorem tt105 : type_of% (ai (ai @und105 @sz105) (ai @ag105 @inf105)) := (ai (ai @und105 @sz105) (ai @ag105 @inf105))
theorem tt119 : type_of% (ai (ai @und119 @sz119) (ai @ag119 @inf119)) := (ai (ai @und119 @sz119) (ai @ag119 @inf119))
theorem tt121 : type_of% (ai (ai @und121 @sz121) (ai @ag121 @inf121)) := (ai (ai @und121 @sz121) (ai @ag121 @inf121))
theorem tt132 : type_of% (ai (ai (ai @und132 @sz132) (ai @ag132 @fo132)) (ai (ai @bA132 @pT132_0) (ai @pT132_1 @inf132))) := (ai (ai (ai @und132 @sz132) (ai @ag132 @fo132)) (ai (ai @bA132 @pT132_0) (ai @pT132_1 @inf132)))
theorem tt138 : type_of% (ai (ai (ai @und138 @sz138) (ai @ag138 @fo138)) (ai (ai @bA138 @pT138_0) (ai @pT138_1 (ai @pT138_2 @inf138)))) := (ai (ai (ai @und138 @sz138) (ai @ag138 @fo138)) (ai (ai @bA138 @pT138_0) (ai @pT138_1 (ai @pT138_2 @inf138))))
theorem tt139 : type_of% (ai (ai @und139 (ai @sz139 @ag139)) (ai @bA139 (ai @pT139 @inf139))) := (ai (ai @und139 (ai @sz139 @ag139)) (ai @bA139 (ai @pT139 @inf139)))
end Go.Proofs.Ytfcfifohflgboaa.Am
