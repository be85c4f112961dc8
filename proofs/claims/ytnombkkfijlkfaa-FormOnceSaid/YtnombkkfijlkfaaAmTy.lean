/- The table's entries, one by one. Printed by genty.py. -/
import Derived.Test.YtnombkkfijlkfaaAmRule
set_option linter.unusedVariables false
set_option linter.unusedSimpArgs false
namespace Go.Proofs.Ytnombkkfijlkfaa.Am
open Go Go.RowKit
set_option maxRecDepth 100000
theorem und1 : tab.und 1 = some (.func #[] #[] false) := (tab_und 1).trans Try.underlying1
theorem sz1 : size tab 1 = some 1 := by simp only [size, inf1, Option.map]
theorem ag1 : isAgg tab 1 = some false := by simp only [isAgg, und1]
theorem und2 : tab.und 2 = some (.int .i64) := (tab_und 2).trans Try.underlying2
theorem sz2 : size tab 2 = some 1 := by simp only [size, inf2, Option.map]
theorem ag2 : isAgg tab 2 = some false := by simp only [isAgg, und2]
theorem und3 : tab.und 3 = some (.int .i64) := (tab_und 3).trans Try.underlying3
theorem sz3 : size tab 3 = some 1 := by simp only [size, inf3, Option.map]
theorem ag3 : isAgg tab 3 = some false := by simp only [isAgg, und3]
theorem und4 : tab.und 4 = some (.bool) := (tab_und 4).trans Try.underlying4
theorem sz4 : size tab 4 = some 1 := by simp only [size, inf4, Option.map]
theorem ag4 : isAgg tab 4 = some false := by simp only [isAgg, und4]
theorem und5 : tab.und 5 = some (.int .u8) := (tab_und 5).trans Try.underlying5
theorem sz5 : size tab 5 = some 1 := by simp only [size, inf5, Option.map]
theorem ag5 : isAgg tab 5 = some false := by simp only [isAgg, und5]
theorem und9 : tab.und 9 = some (.string) := (tab_und 9).trans Try.underlying9
theorem sz9 : size tab 9 = some 1 := by simp only [size, inf9, Option.map]
theorem ag9 : isAgg tab 9 = some false := by simp only [isAgg, und9]
theorem und10 : tab.und 10 = some (.string) := (tab_und 10).trans Try.underlying10
theorem sz10 : size tab 10 = some 1 := by simp only [size, inf10, Option.map]
theorem ag10 : isAgg tab 10 = some false := by simp only [isAgg, und10]
theorem und22 : tab.und 22 = some (.slice 41) := (tab_und 22).trans Try.underlying22
theorem sz22 : size tab 22 = some 1 := by simp only [size, inf22, Option.map]
theorem ag22 : isAgg tab 22 = some false := by simp only [isAgg, und22]
theorem pT22 {i : Nat} : partType tab 22 i = 41 := by simp only [partType, und22]
theorem und23 : tab.und 23 = some (.slice 34) := (tab_und 23).trans Try.underlying23
theorem sz23 : size tab 23 = some 1 := by simp only [size, inf23, Option.map]
theorem ag23 : isAgg tab 23 = some false := by simp only [isAgg, und23]
theorem pT23 {i : Nat} : partType tab 23 i = 34 := by simp only [partType, und23]
theorem und24 : tab.und 24 = some (.slice 58) := (tab_und 24).trans Try.underlying24
theorem sz24 : size tab 24 = some 1 := by simp only [size, inf24, Option.map]
theorem ag24 : isAgg tab 24 = some false := by simp only [isAgg, und24]
theorem pT24 {i : Nat} : partType tab 24 i = 58 := by simp only [partType, und24]
theorem und26 : tab.und 26 = some (.struct #[{ name := "Fields", type := 23, offset := 0, embedded := false, tag := "", pkgPath := "", byteOffset := 0 }, { name := "Pages", type := 24, offset := 1, embedded := false, tag := "", pkgPath := "", byteOffset := 24 }]) := (tab_und 26).trans Try.underlying26
theorem sz26 : size tab 26 = some 2 := by simp only [size, inf26, Option.map]
theorem ag26 : isAgg tab 26 = some true := by simp only [isAgg, und26]
theorem fo26 : fieldsOf tab 26 = some [{ name := "Fields", type := 23, offset := 0, embedded := false, tag := "", pkgPath := "", byteOffset := 0 }, { name := "Pages", type := 24, offset := 1, embedded := false, tag := "", pkgPath := "", byteOffset := 24 }] := by simp only [fieldsOf, und26]
theorem pl26 : placesL tab [{ name := "Fields", type := 23, offset := 0, embedded := false, tag := "", pkgPath := "", byteOffset := 0 }, { name := "Pages", type := 24, offset := 1, embedded := false, tag := "", pkgPath := "", byteOffset := 24 }] = some [(0, 1), (1, 1)] := by simp only [placesL, sz23, sz24]
theorem bA26 {z : List AV} {ps : List (Nat × AV)} : buildA tab 26 z ps = fillA (fun i => [(0, 1), (1, 1)][i]?) z ps := bA_struct und26 pl26
theorem pT26_0 : partType tab 26 0 = 23 := by simp only [partType, und26]; rfl
theorem pT26_1 : partType tab 26 1 = 24 := by simp only [partType, und26]; rfl
theorem und29 : tab.und 29 = some (.struct #[{ name := "Kind", type := 3, offset := 0, embedded := false, tag := "", pkgPath := "", byteOffset := 0 }, { name := "N", type := 3, offset := 1, embedded := false, tag := "", pkgPath := "", byteOffset := 8 }, { name := "S", type := 9, offset := 2, embedded := false, tag := "", pkgPath := "", byteOffset := 16 }]) := (tab_und 29).trans Try.underlying29
theorem sz29 : size tab 29 = some 3 := by simp only [size, inf29, Option.map]
theorem ag29 : isAgg tab 29 = some true := by simp only [isAgg, und29]
theorem fo29 : fieldsOf tab 29 = some [{ name := "Kind", type := 3, offset := 0, embedded := false, tag := "", pkgPath := "", byteOffset := 0 }, { name := "N", type := 3, offset := 1, embedded := false, tag := "", pkgPath := "", byteOffset := 8 }, { name := "S", type := 9, offset := 2, embedded := false, tag := "", pkgPath := "", byteOffset := 16 }] := by simp only [fieldsOf, und29]
theorem pl29 : placesL tab [{ name := "Kind", type := 3, offset := 0, embedded := false, tag := "", pkgPath := "", byteOffset := 0 }, { name := "N", type := 3, offset := 1, embedded := false, tag := "", pkgPath := "", byteOffset := 8 }, { name := "S", type := 9, offset := 2, embedded := false, tag := "", pkgPath := "", byteOffset := 16 }] = some [(0, 1), (1, 1), (2, 1)] := by simp only [placesL, sz3, sz9]
theorem bA29 {z : List AV} {ps : List (Nat × AV)} : buildA tab 29 z ps = fillA (fun i => [(0, 1), (1, 1), (2, 1)][i]?) z ps := bA_struct und29 pl29
theorem pT29_0 : partType tab 29 0 = 3 := by simp only [partType, und29]; rfl
theorem pT29_1 : partType tab 29 1 = 3 := by simp only [partType, und29]; rfl
theorem pT29_2 : partType tab 29 2 = 9 := by simp only [partType, und29]; rfl
theorem und30 : tab.und 30 = some (.slice 32) := (tab_und 30).trans Try.underlying30
theorem sz30 : size tab 30 = some 1 := by simp only [size, inf30, Option.map]
theorem ag30 : isAgg tab 30 = some false := by simp only [isAgg, und30]
theorem pT30 {i : Nat} : partType tab 30 i = 32 := by simp only [partType, und30]
theorem und32 : tab.und 32 = some (.struct #[{ name := "Op", type := 3, offset := 0, embedded := false, tag := "", pkgPath := "", byteOffset := 0 }, { name := "V", type := 29, offset := 1, embedded := false, tag := "", pkgPath := "", byteOffset := 8 }, { name := "Name", type := 9, offset := 4, embedded := false, tag := "", pkgPath := "", byteOffset := 40 }, { name := "Args", type := 30, offset := 5, embedded := false, tag := "", pkgPath := "", byteOffset := 56 }]) := (tab_und 32).trans Try.underlying32
theorem sz32 : size tab 32 = some 6 := by simp only [size, inf32, Option.map]
theorem ag32 : isAgg tab 32 = some true := by simp only [isAgg, und32]
theorem fo32 : fieldsOf tab 32 = some [{ name := "Op", type := 3, offset := 0, embedded := false, tag := "", pkgPath := "", byteOffset := 0 }, { name := "V", type := 29, offset := 1, embedded := false, tag := "", pkgPath := "", byteOffset := 8 }, { name := "Name", type := 9, offset := 4, embedded := false, tag := "", pkgPath := "", byteOffset := 40 }, { name := "Args", type := 30, offset := 5, embedded := false, tag := "", pkgPath := "", byteOffset := 56 }] := by simp only [fieldsOf, und32]
theorem pl32 : placesL tab [{ name := "Op", type := 3, offset := 0, embedded := false, tag := "", pkgPath := "", byteOffset := 0 }, { name := "V", type := 29, offset := 1, embedded := false, tag := "", pkgPath := "", byteOffset := 8 }, { name := "Name", type := 9, offset := 4, embedded := false, tag := "", pkgPath := "", byteOffset := 40 }, { name := "Args", type := 30, offset := 5, embedded := false, tag := "", pkgPath := "", byteOffset := 56 }] = some [(0, 1), (1, 3), (4, 1), (5, 1)] := by simp only [placesL, sz29, sz3, sz30, sz9]
theorem bA32 {z : List AV} {ps : List (Nat × AV)} : buildA tab 32 z ps = fillA (fun i => [(0, 1), (1, 3), (4, 1), (5, 1)][i]?) z ps := bA_struct und32 pl32
theorem pT32_0 : partType tab 32 0 = 3 := by simp only [partType, und32]; rfl
theorem pT32_1 : partType tab 32 1 = 29 := by simp only [partType, und32]; rfl
theorem pT32_2 : partType tab 32 2 = 9 := by simp only [partType, und32]; rfl
theorem pT32_3 : partType tab 32 3 = 30 := by simp only [partType, und32]; rfl
theorem und34 : tab.und 34 = some (.struct #[{ name := "Name", type := 9, offset := 0, embedded := false, tag := "", pkgPath := "", byteOffset := 0 }, { name := "Kind", type := 3, offset := 1, embedded := false, tag := "", pkgPath := "", byteOffset := 16 }, { name := "Type", type := 3, offset := 2, embedded := false, tag := "", pkgPath := "", byteOffset := 24 }, { name := "Source", type := 32, offset := 3, embedded := false, tag := "", pkgPath := "", byteOffset := 32 }]) := (tab_und 34).trans Try.underlying34
theorem sz34 : size tab 34 = some 9 := by simp only [size, inf34, Option.map]
theorem ag34 : isAgg tab 34 = some true := by simp only [isAgg, und34]
theorem fo34 : fieldsOf tab 34 = some [{ name := "Name", type := 9, offset := 0, embedded := false, tag := "", pkgPath := "", byteOffset := 0 }, { name := "Kind", type := 3, offset := 1, embedded := false, tag := "", pkgPath := "", byteOffset := 16 }, { name := "Type", type := 3, offset := 2, embedded := false, tag := "", pkgPath := "", byteOffset := 24 }, { name := "Source", type := 32, offset := 3, embedded := false, tag := "", pkgPath := "", byteOffset := 32 }] := by simp only [fieldsOf, und34]
theorem pl34 : placesL tab [{ name := "Name", type := 9, offset := 0, embedded := false, tag := "", pkgPath := "", byteOffset := 0 }, { name := "Kind", type := 3, offset := 1, embedded := false, tag := "", pkgPath := "", byteOffset := 16 }, { name := "Type", type := 3, offset := 2, embedded := false, tag := "", pkgPath := "", byteOffset := 24 }, { name := "Source", type := 32, offset := 3, embedded := false, tag := "", pkgPath := "", byteOffset := 32 }] = some [(0, 1), (1, 1), (2, 1), (3, 6)] := by simp only [placesL, sz3, sz32, sz9]
theorem bA34 {z : List AV} {ps : List (Nat × AV)} : buildA tab 34 z ps = fillA (fun i => [(0, 1), (1, 1), (2, 1), (3, 6)][i]?) z ps := bA_struct und34 pl34
theorem pT34_0 : partType tab 34 0 = 9 := by simp only [partType, und34]; rfl
theorem pT34_1 : partType tab 34 1 = 3 := by simp only [partType, und34]; rfl
theorem pT34_2 : partType tab 34 2 = 3 := by simp only [partType, und34]; rfl
theorem pT34_3 : partType tab 34 3 = 32 := by simp only [partType, und34]; rfl
theorem und35 : tab.und 35 = some (.int .i64) := (tab_und 35).trans Try.underlying35
theorem sz35 : size tab 35 = some 1 := by simp only [size, inf35, Option.map]
theorem ag35 : isAgg tab 35 = some false := by simp only [isAgg, und35]
theorem und41 : tab.und 41 = some (.struct #[{ name := "Kind", type := 3, offset := 0, embedded := false, tag := "", pkgPath := "", byteOffset := 0 }, { name := "A", type := 3, offset := 1, embedded := false, tag := "", pkgPath := "", byteOffset := 8 }, { name := "B", type := 3, offset := 2, embedded := false, tag := "", pkgPath := "", byteOffset := 16 }, { name := "Text", type := 9, offset := 3, embedded := false, tag := "", pkgPath := "", byteOffset := 24 }]) := (tab_und 41).trans Try.underlying41
theorem sz41 : size tab 41 = some 4 := by simp only [size, inf41, Option.map]
theorem ag41 : isAgg tab 41 = some true := by simp only [isAgg, und41]
theorem fo41 : fieldsOf tab 41 = some [{ name := "Kind", type := 3, offset := 0, embedded := false, tag := "", pkgPath := "", byteOffset := 0 }, { name := "A", type := 3, offset := 1, embedded := false, tag := "", pkgPath := "", byteOffset := 8 }, { name := "B", type := 3, offset := 2, embedded := false, tag := "", pkgPath := "", byteOffset := 16 }, { name := "Text", type := 9, offset := 3, embedded := false, tag := "", pkgPath := "", byteOffset := 24 }] := by simp only [fieldsOf, und41]
theorem pl41 : placesL tab [{ name := "Kind", type := 3, offset := 0, embedded := false, tag := "", pkgPath := "", byteOffset := 0 }, { name := "A", type := 3, offset := 1, embedded := false, tag := "", pkgPath := "", byteOffset := 8 }, { name := "B", type := 3, offset := 2, embedded := false, tag := "", pkgPath := "", byteOffset := 16 }, { name := "Text", type := 9, offset := 3, embedded := false, tag := "", pkgPath := "", byteOffset := 24 }] = some [(0, 1), (1, 1), (2, 1), (3, 1)] := by simp only [placesL, sz3, sz9]
theorem bA41 {z : List AV} {ps : List (Nat × AV)} : buildA tab 41 z ps = fillA (fun i => [(0, 1), (1, 1), (2, 1), (3, 1)][i]?) z ps := bA_struct und41 pl41
theorem pT41_0 : partType tab 41 0 = 3 := by simp only [partType, und41]; rfl
theorem pT41_1 : partType tab 41 1 = 3 := by simp only [partType, und41]; rfl
theorem pT41_2 : partType tab 41 2 = 3 := by simp only [partType, und41]; rfl
theorem pT41_3 : partType tab 41 3 = 9 := by simp only [partType, und41]; rfl
theorem und43 : tab.und 43 = some (.func #[3, 3] #[3] false) := (tab_und 43).trans Try.underlying43
theorem sz43 : size tab 43 = some 1 := by simp only [size, inf43, Option.map]
theorem ag43 : isAgg tab 43 = some false := by simp only [isAgg, und43]
theorem und46 : tab.und 46 = some (.slice 50) := (tab_und 46).trans Try.underlying46
theorem sz46 : size tab 46 = some 1 := by simp only [size, inf46, Option.map]
theorem ag46 : isAgg tab 46 = some false := by simp only [isAgg, und46]
theorem pT46 {i : Nat} : partType tab 46 i = 50 := by simp only [partType, und46]
theorem und50 : tab.und 50 = some (.struct #[{ name := "Name", type := 9, offset := 0, embedded := false, tag := "", pkgPath := "", byteOffset := 0 }, { name := "Key", type := 29, offset := 1, embedded := false, tag := "", pkgPath := "", byteOffset := 16 }, { name := "Has", type := 29, offset := 4, embedded := false, tag := "", pkgPath := "", byteOffset := 48 }]) := (tab_und 50).trans Try.underlying50
theorem sz50 : size tab 50 = some 7 := by simp only [size, inf50, Option.map]
theorem ag50 : isAgg tab 50 = some true := by simp only [isAgg, und50]
theorem fo50 : fieldsOf tab 50 = some [{ name := "Name", type := 9, offset := 0, embedded := false, tag := "", pkgPath := "", byteOffset := 0 }, { name := "Key", type := 29, offset := 1, embedded := false, tag := "", pkgPath := "", byteOffset := 16 }, { name := "Has", type := 29, offset := 4, embedded := false, tag := "", pkgPath := "", byteOffset := 48 }] := by simp only [fieldsOf, und50]
theorem pl50 : placesL tab [{ name := "Name", type := 9, offset := 0, embedded := false, tag := "", pkgPath := "", byteOffset := 0 }, { name := "Key", type := 29, offset := 1, embedded := false, tag := "", pkgPath := "", byteOffset := 16 }, { name := "Has", type := 29, offset := 4, embedded := false, tag := "", pkgPath := "", byteOffset := 48 }] = some [(0, 1), (1, 3), (4, 3)] := by simp only [placesL, sz29, sz9]
theorem bA50 {z : List AV} {ps : List (Nat × AV)} : buildA tab 50 z ps = fillA (fun i => [(0, 1), (1, 3), (4, 3)][i]?) z ps := bA_struct und50 pl50
theorem pT50_0 : partType tab 50 0 = 9 := by simp only [partType, und50]; rfl
theorem pT50_1 : partType tab 50 1 = 29 := by simp only [partType, und50]; rfl
theorem pT50_2 : partType tab 50 2 = 29 := by simp only [partType, und50]; rfl
theorem und56 : tab.und 56 = some (.slice 9) := (tab_und 56).trans Try.underlying56
theorem sz56 : size tab 56 = some 1 := by simp only [size, inf56, Option.map]
theorem ag56 : isAgg tab 56 = some false := by simp only [isAgg, und56]
theorem pT56 {i : Nat} : partType tab 56 i = 9 := by simp only [partType, und56]
theorem und58 : tab.und 58 = some (.struct #[{ name := "Name", type := 9, offset := 0, embedded := false, tag := "", pkgPath := "", byteOffset := 0 }, { name := "Fields", type := 56, offset := 1, embedded := false, tag := "", pkgPath := "", byteOffset := 16 }, { name := "Skip", type := 32, offset := 2, embedded := false, tag := "", pkgPath := "", byteOffset := 40 }]) := (tab_und 58).trans Try.underlying58
theorem sz58 : size tab 58 = some 8 := by simp only [size, inf58, Option.map]
theorem ag58 : isAgg tab 58 = some true := by simp only [isAgg, und58]
theorem fo58 : fieldsOf tab 58 = some [{ name := "Name", type := 9, offset := 0, embedded := false, tag := "", pkgPath := "", byteOffset := 0 }, { name := "Fields", type := 56, offset := 1, embedded := false, tag := "", pkgPath := "", byteOffset := 16 }, { name := "Skip", type := 32, offset := 2, embedded := false, tag := "", pkgPath := "", byteOffset := 40 }] := by simp only [fieldsOf, und58]
theorem pl58 : placesL tab [{ name := "Name", type := 9, offset := 0, embedded := false, tag := "", pkgPath := "", byteOffset := 0 }, { name := "Fields", type := 56, offset := 1, embedded := false, tag := "", pkgPath := "", byteOffset := 16 }, { name := "Skip", type := 32, offset := 2, embedded := false, tag := "", pkgPath := "", byteOffset := 40 }] = some [(0, 1), (1, 1), (2, 6)] := by simp only [placesL, sz32, sz56, sz9]
theorem bA58 {z : List AV} {ps : List (Nat × AV)} : buildA tab 58 z ps = fillA (fun i => [(0, 1), (1, 1), (2, 6)][i]?) z ps := bA_struct und58 pl58
theorem pT58_0 : partType tab 58 0 = 9 := by simp only [partType, und58]; rfl
theorem pT58_1 : partType tab 58 1 = 56 := by simp only [partType, und58]; rfl
theorem pT58_2 : partType tab 58 2 = 32 := by simp only [partType, und58]; rfl
theorem und65 : tab.und 65 = some (.slice 3) := (tab_und 65).trans Try.underlying65
theorem sz65 : size tab 65 = some 1 := by simp only [size, inf65, Option.map]
theorem ag65 : isAgg tab 65 = some false := by simp only [isAgg, und65]
theorem pT65 {i : Nat} : partType tab 65 i = 3 := by simp only [partType, und65]
theorem und78 : tab.und 78 = some (.pointer 80) := (tab_und 78).trans Try.underlying78
theorem sz78 : size tab 78 = some 1 := by simp only [size, inf78, Option.map]
theorem ag78 : isAgg tab 78 = some false := by simp only [isAgg, und78]
theorem und80 : tab.und 80 = some (.struct #[{ name := "l", type := 22, offset := 0, embedded := false, tag := "", pkgPath := "lychway/lychwaykeep", byteOffset := 0 }, { name := "at", type := 3, offset := 1, embedded := false, tag := "", pkgPath := "lychway/lychwaykeep", byteOffset := 24 }]) := (tab_und 80).trans Try.underlying80
theorem sz80 : size tab 80 = some 2 := by simp only [size, inf80, Option.map]
theorem ag80 : isAgg tab 80 = some true := by simp only [isAgg, und80]
theorem fo80 : fieldsOf tab 80 = some [{ name := "l", type := 22, offset := 0, embedded := false, tag := "", pkgPath := "lychway/lychwaykeep", byteOffset := 0 }, { name := "at", type := 3, offset := 1, embedded := false, tag := "", pkgPath := "lychway/lychwaykeep", byteOffset := 24 }] := by simp only [fieldsOf, und80]
theorem pl80 : placesL tab [{ name := "l", type := 22, offset := 0, embedded := false, tag := "", pkgPath := "lychway/lychwaykeep", byteOffset := 0 }, { name := "at", type := 3, offset := 1, embedded := false, tag := "", pkgPath := "lychway/lychwaykeep", byteOffset := 24 }] = some [(0, 1), (1, 1)] := by simp only [placesL, sz22, sz3]
theorem bA80 {z : List AV} {ps : List (Nat × AV)} : buildA tab 80 z ps = fillA (fun i => [(0, 1), (1, 1)][i]?) z ps := bA_struct und80 pl80
theorem pT80_0 : partType tab 80 0 = 22 := by simp only [partType, und80]; rfl
theorem pT80_1 : partType tab 80 1 = 3 := by simp only [partType, und80]; rfl
theorem und84 : tab.und 84 = some (.slice 5) := (tab_und 84).trans Try.underlying84
theorem sz84 : size tab 84 = some 1 := by simp only [size, inf84, Option.map]
theorem ag84 : isAgg tab 84 = some false := by simp only [isAgg, und84]
theorem pT84 {i : Nat} : partType tab 84 i = 5 := by simp only [partType, und84]
theorem und87 : tab.und 87 = some (.func #[34] #[4] false) := (tab_und 87).trans Try.underlying87
theorem sz87 : size tab 87 = some 1 := by simp only [size, inf87, Option.map]
theorem ag87 : isAgg tab 87 = some false := by simp only [isAgg, und87]
theorem und91 : tab.und 91 = some (.func #[50] #[4] false) := (tab_und 91).trans Try.underlying91
theorem sz91 : size tab 91 = some 1 := by simp only [size, inf91, Option.map]
theorem ag91 : isAgg tab 91 = some false := by simp only [isAgg, und91]
theorem und92 : tab.und 92 = some (.slice 23) := (tab_und 92).trans Try.underlying92
theorem sz92 : size tab 92 = some 1 := by simp only [size, inf92, Option.map]
theorem ag92 : isAgg tab 92 = some false := by simp only [isAgg, und92]
theorem pT92 {i : Nat} : partType tab 92 i = 23 := by simp only [partType, und92]
theorem und97 : tab.und 97 = some (.func #[58] #[4] false) := (tab_und 97).trans Try.underlying97
theorem sz97 : size tab 97 = some 1 := by simp only [size, inf97, Option.map]
theorem ag97 : isAgg tab 97 = some false := by simp only [isAgg, und97]
theorem und105 : tab.und 105 = some (.slice 65) := (tab_und 105).trans Try.underlying105
theorem sz105 : size tab 105 = some 1 := by simp only [size, inf105, Option.map]
theorem ag105 : isAgg tab 105 = some false := by simp only [isAgg, und105]
theorem pT105 {i : Nat} : partType tab 105 i = 65 := by simp only [partType, und105]
theorem und109 : tab.und 109 = some (.func #[3] #[4] false) := (tab_und 109).trans Try.underlying109
theorem sz109 : size tab 109 = some 1 := by simp only [size, inf109, Option.map]
theorem ag109 : isAgg tab 109 = some false := by simp only [isAgg, und109]
theorem und112 : tab.und 112 = some (.func #[129] #[] false) := (tab_und 112).trans Try.underlying112
theorem sz112 : size tab 112 = some 1 := by simp only [size, inf112, Option.map]
theorem ag112 : isAgg tab 112 = some false := by simp only [isAgg, und112]
theorem und113 : tab.und 113 = some (.func #[129] #[] false) := (tab_und 113).trans Try.underlying113
theorem sz113 : size tab 113 = some 1 := by simp only [size, inf113, Option.map]
theorem ag113 : isAgg tab 113 = some false := by simp only [isAgg, und113]
theorem und122 : tab.und 122 = some (.func #[3, 65] #[32] true) := (tab_und 122).trans Try.underlying122
theorem sz122 : size tab 122 = some 1 := by simp only [size, inf122, Option.map]
theorem ag122 : isAgg tab 122 = some false := by simp only [isAgg, und122]
theorem und125 : tab.und 125 = some (.func #[32] #[4] false) := (tab_und 125).trans Try.underlying125
theorem sz125 : size tab 125 = some 1 := by simp only [size, inf125, Option.map]
theorem ag125 : isAgg tab 125 = some false := by simp only [isAgg, und125]
theorem und127 : tab.und 127 = some (.func #[5] #[4] false) := (tab_und 127).trans Try.underlying127
theorem sz127 : size tab 127 = some 1 := by simp only [size, inf127, Option.map]
theorem ag127 : isAgg tab 127 = some false := by simp only [isAgg, und127]
theorem und129 : tab.und 129 = some (.func #[9] #[4] false) := (tab_und 129).trans Try.underlying129
theorem sz129 : size tab 129 = some 1 := by simp only [size, inf129, Option.map]
theorem ag129 : isAgg tab 129 = some false := by simp only [isAgg, und129]
theorem und147 : tab.und 147 = some (.int .u64) := (tab_und 147).trans Try.underlying147
theorem sz147 : size tab 147 = some 1 := by simp only [size, inf147, Option.map]
theorem ag147 : isAgg tab 147 = some false := by simp only [isAgg, und147]
theorem und150 : tab.und 150 = some (.struct #[{ name := "args", type := 65, offset := 0, embedded := false, tag := "", pkgPath := "lychway/typing", byteOffset := 0 }, { name := "own", type := 3, offset := 1, embedded := false, tag := "", pkgPath := "lychway/typing", byteOffset := 24 }]) := (tab_und 150).trans Try.underlying150
theorem sz150 : size tab 150 = some 2 := by simp only [size, inf150, Option.map]
theorem ag150 : isAgg tab 150 = some true := by simp only [isAgg, und150]
theorem fo150 : fieldsOf tab 150 = some [{ name := "args", type := 65, offset := 0, embedded := false, tag := "", pkgPath := "lychway/typing", byteOffset := 0 }, { name := "own", type := 3, offset := 1, embedded := false, tag := "", pkgPath := "lychway/typing", byteOffset := 24 }] := by simp only [fieldsOf, und150]
theorem pl150 : placesL tab [{ name := "args", type := 65, offset := 0, embedded := false, tag := "", pkgPath := "lychway/typing", byteOffset := 0 }, { name := "own", type := 3, offset := 1, embedded := false, tag := "", pkgPath := "lychway/typing", byteOffset := 24 }] = some [(0, 1), (1, 1)] := by simp only [placesL, sz3, sz65]
theorem bA150 {z : List AV} {ps : List (Nat × AV)} : buildA tab 150 z ps = fillA (fun i => [(0, 1), (1, 1)][i]?) z ps := bA_struct und150 pl150
theorem pT150_0 : partType tab 150 0 = 65 := by simp only [partType, und150]; rfl
theorem pT150_1 : partType tab 150 1 = 3 := by simp only [partType, und150]; rfl
theorem und152 : tab.und 152 = some (.func #[171] #[] false) := (tab_und 152).trans Try.underlying152
theorem sz152 : size tab 152 = some 1 := by simp only [size, inf152, Option.map]
theorem ag152 : isAgg tab 152 = some false := by simp only [isAgg, und152]
theorem und153 : tab.und 153 = some (.func #[171] #[] false) := (tab_und 153).trans Try.underlying153
theorem sz153 : size tab 153 = some 1 := by simp only [size, inf153, Option.map]
theorem ag153 : isAgg tab 153 = some false := by simp only [isAgg, und153]
theorem und156 : tab.und 156 = some (.struct #[{ name := "sign", type := 9, offset := 0, embedded := false, tag := "", pkgPath := "lychway/expr", byteOffset := 0 }, { name := "level", type := 3, offset := 1, embedded := false, tag := "", pkgPath := "lychway/expr", byteOffset := 16 }, { name := "args", type := 3, offset := 2, embedded := false, tag := "", pkgPath := "lychway/expr", byteOffset := 24 }]) := (tab_und 156).trans Try.underlying156
theorem sz156 : size tab 156 = some 3 := by simp only [size, inf156, Option.map]
theorem ag156 : isAgg tab 156 = some true := by simp only [isAgg, und156]
theorem fo156 : fieldsOf tab 156 = some [{ name := "sign", type := 9, offset := 0, embedded := false, tag := "", pkgPath := "lychway/expr", byteOffset := 0 }, { name := "level", type := 3, offset := 1, embedded := false, tag := "", pkgPath := "lychway/expr", byteOffset := 16 }, { name := "args", type := 3, offset := 2, embedded := false, tag := "", pkgPath := "lychway/expr", byteOffset := 24 }] := by simp only [fieldsOf, und156]
theorem pl156 : placesL tab [{ name := "sign", type := 9, offset := 0, embedded := false, tag := "", pkgPath := "lychway/expr", byteOffset := 0 }, { name := "level", type := 3, offset := 1, embedded := false, tag := "", pkgPath := "lychway/expr", byteOffset := 16 }, { name := "args", type := 3, offset := 2, embedded := false, tag := "", pkgPath := "lychway/expr", byteOffset := 24 }] = some [(0, 1), (1, 1), (2, 1)] := by simp only [placesL, sz3, sz9]
theorem bA156 {z : List AV} {ps : List (Nat × AV)} : buildA tab 156 z ps = fillA (fun i => [(0, 1), (1, 1), (2, 1)][i]?) z ps := bA_struct und156 pl156
theorem pT156_0 : partType tab 156 0 = 9 := by simp only [partType, und156]; rfl
theorem pT156_1 : partType tab 156 1 = 3 := by simp only [partType, und156]; rfl
theorem pT156_2 : partType tab 156 2 = 3 := by simp only [partType, und156]; rfl
theorem und157 : tab.und 157 = some (.array 19 156) := (tab_und 157).trans Try.underlying157
theorem sz157 : size tab 157 = some 57 := by simp only [size, inf157, Option.map]
theorem ag157 : isAgg tab 157 = some true := by simp only [isAgg, und157]
theorem bA157 {z : List AV} {ps : List (Nat × AV)} : buildA tab 157 z ps = fillA (fun i => some (i * 3, 3)) z ps := by simp only [buildA, und157, sz156]
theorem pT157 {i : Nat} : partType tab 157 i = 156 := by simp only [partType, und157]
theorem und171 : tab.und 171 = some (.func #[3, 34] #[4] false) := (tab_und 171).trans Try.underlying171
theorem sz171 : size tab 171 = some 1 := by simp only [size, inf171, Option.map]
theorem ag171 : isAgg tab 171 = some false := by simp only [isAgg, und171]
theorem und117 : tab.und 117 = some (.map 9 4) := (tab_und 117).trans Try.underlying117
theorem und120 : tab.und 120 = some (.map 3 4) := (tab_und 120).trans Try.underlying120
theorem und138 : tab.und 138 = some (.map 9 3) := (tab_und 138).trans Try.underlying138
theorem und140 : tab.und 140 = some (.map 3 150) := (tab_und 140).trans Try.underlying140
theorem lv2 : leaves tab 8 2 = some [.int .i64] := by (simp [leaves, leavesF, sized, tab_cmp, cmpsL, tab, und2, sz2]; try rfl)
theorem lv3 : leaves tab 8 3 = some [.int .i64] := by (simp [leaves, leavesF, sized, tab_cmp, cmpsL, tab, und3, sz3]; try rfl)
theorem lv4 : leaves tab 8 4 = some [.bool] := by (simp [leaves, leavesF, sized, tab_cmp, cmpsL, tab, und4, sz4]; try rfl)
theorem lv5 : leaves tab 8 5 = some [.int .u8] := by (simp [leaves, leavesF, sized, tab_cmp, cmpsL, tab, und5, sz5]; try rfl)
theorem lv9 : leaves tab 8 9 = some [.string] := by (simp [leaves, leavesF, sized, tab_cmp, cmpsL, tab, und9, sz9]; try rfl)
theorem lv10 : leaves tab 8 10 = some [.string] := by (simp [leaves, leavesF, sized, tab_cmp, cmpsL, tab, und10, sz10]; try rfl)
theorem lv29 : leaves tab 8 29 = some [.int .i64, .int .i64, .string] := by (simp [leaves, leavesF, sized, tab_cmp, cmpsL, tab, und3, sz3, und9, sz9, und29, sz29]; try rfl)
theorem lv35 : leaves tab 8 35 = some [.int .i64] := by (simp [leaves, leavesF, sized, tab_cmp, cmpsL, tab, und35, sz35]; try rfl)
theorem lv147 : leaves tab 8 147 = some [.int .u64] := by (simp [leaves, leavesF, sized, tab_cmp, cmpsL, tab, und147, sz147]; try rfl)
theorem kp3_3 : tab.keep 3 3 = some ([3, 15, 16, 17], [13, 16, 26, 39]) := tab_keep (by kernel_rfl)
theorem kp4_3 : tab.keep 4 3 = some ([0, 7, 18, 19, 20], [4, 7, 15, 17, 19, 25, 30, 46, 54]) := tab_keep (by kernel_rfl)
theorem kp7_10 : tab.keep 7 10 = some ([1, 5, 6, 7, 35, 36, 37, 43, 44, 45], [5, 7, 17, 32, 36, 44, 53, 69, 83, 84, 91, 95, 109, 115]) := tab_keep (by kernel_rfl)
theorem kp7_7 : tab.keep 7 7 = some ([1, 5, 35, 36, 37], [5, 17, 32, 36, 44, 53, 69, 83, 84, 91, 95, 109, 115]) := tab_keep (by kernel_rfl)
theorem kp8_15 : tab.keep 8 15 = some ([12, 13, 69, 70, 71], [3, 9, 17, 20, 42, 52, 60, 65, 70, 78]) := tab_keep (by kernel_rfl)
theorem kp8_7 : tab.keep 8 7 = some ([3, 4, 41, 42, 43], [3, 15, 17, 20, 42, 52, 60, 65, 70, 78]) := tab_keep (by kernel_rfl)
theorem kp9_10 : tab.keep 9 10 = some ([3, 4, 7, 8, 9, 39, 40, 41, 46, 47, 48], [8, 13, 17, 29, 31, 36, 40, 47, 61, 69]) := tab_keep (by kernel_rfl)
theorem kp9_6 : tab.keep 9 6 = some ([3, 4, 39, 40, 41], [13, 17, 29, 31, 36, 40, 47, 61]) := tab_keep (by kernel_rfl)
theorem kp10_12 : tab.keep 10 12 = some ([5, 10, 70, 71, 72], [17, 25, 37, 44, 48, 60, 65, 67, 71, 80, 95, 99]) := tab_keep (by kernel_rfl)
theorem kp10_4 : tab.keep 10 4 = some ([5, 6, 24, 25, 26], [17, 25, 37, 44, 48, 60, 65, 67, 71, 80, 95, 99]) := tab_keep (by kernel_rfl)
theorem kp12_13 : tab.keep 12 13 = some ([3, 6, 8, 34, 35, 36, 66, 67, 68], [14, 18, 29, 31, 35, 45, 55, 63, 67, 81, 92]) := tab_keep (by kernel_rfl)
theorem kp12_7 : tab.keep 12 7 = some ([3, 6, 34, 35, 36], [14, 18, 29, 31, 35, 45, 55, 63, 67, 81, 92]) := tab_keep (by kernel_rfl)
theorem kp13_9 : tab.keep 13 9 = some ([7, 8, 9, 10, 66, 67, 68], [17, 21, 22, 25, 26, 34, 44, 60, 65, 67, 74, 94, 100]) := tab_keep (by kernel_rfl)
theorem kp14_23 : tab.keep 14 23 = some ([2, 3, 4, 5, 9, 10, 11, 12, 77, 78, 91, 92, 93], [2, 4, 5, 11, 12, 17, 70, 109, 125]) := tab_keep (by kernel_rfl)
theorem kp14_18 : tab.keep 14 18 = some ([2, 3, 4, 5, 9, 77, 78], [2, 4, 5, 17, 70, 125]) := tab_keep (by kernel_rfl)
theorem kp14_5 : tab.keep 14 5 = some ([2, 3, 4, 5, 25, 26], [2, 4, 5, 17, 70]) := tab_keep (by kernel_rfl)
theorem kp20_4 : tab.keep 20 4 = some ([5, 6, 14, 15, 16], [2, 12, 15, 21, 28, 37, 40]) := tab_keep (by kernel_rfl)
theorem kp21_2 : tab.keep 21 2 = some ([1, 2, 8, 9, 10], [2, 9, 21, 33]) := tab_keep (by kernel_rfl)
theorem kp22_11 : tab.keep 22 11 = some ([6, 25, 26, 27], [22, 24, 33]) := tab_keep (by kernel_rfl)
theorem kp22_3 : tab.keep 22 3 = some ([0, 3, 9, 10, 11], [10, 17, 24, 26, 33]) := tab_keep (by kernel_rfl)
theorem kp23_14 : tab.keep 23 14 = some ([0, 38, 39, 40], [4, 12, 15, 22, 32, 39, 46]) := tab_keep (by kernel_rfl)
theorem kp23_4 : tab.keep 23 4 = some ([0, 14, 15, 16], [9, 12, 15, 22, 32, 39, 46]) := tab_keep (by kernel_rfl)
theorem kp24_14 : tab.keep 24 14 = some ([0, 1, 5, 7, 24, 25, 26, 49, 50, 51], [7, 17, 21, 25, 33, 43, 50, 58, 66, 70, 73, 77]) := tab_keep (by kernel_rfl)
theorem kp24_5 : tab.keep 24 5 = some ([0, 1, 5, 24, 25, 26], [17, 21, 25, 33, 43, 50, 58, 66, 70, 73, 77]) := tab_keep (by kernel_rfl)
theorem kp27_3 : tab.keep 27 3 = some ([3, 6, 7, 8], [7, 14, 17, 23]) := tab_keep (by kernel_rfl)
theorem kp28_6 : tab.keep 28 6 = some ([1, 5, 16, 17, 18], [1, 11, 17, 27, 36]) := tab_keep (by kernel_rfl)
theorem kp29_4 : tab.keep 29 4 = some ([0, 1, 12, 13], [7, 9, 12]) := tab_keep (by kernel_rfl)
theorem kp31_6 : tab.keep 31 6 = some ([5, 14, 15, 16], [1, 9, 15, 27]) := tab_keep (by kernel_rfl)
theorem kp33_10 : tab.keep 33 10 = some ([0, 8, 26, 27, 28], [12, 17, 19, 21, 26, 27, 39]) := tab_keep (by kernel_rfl)
theorem kp36_5 : tab.keep 36 5 = some ([0, 3, 4], [6, 14, 23]) := tab_keep (by kernel_rfl)
theorem kp37_5 : tab.keep 37 5 = some ([0, 3, 4], [6, 14, 23]) := tab_keep (by kernel_rfl)
theorem kp38_6 : tab.keep 38 6 = some ([4, 7, 19, 20], [4, 11, 19, 26, 30]) := tab_keep (by kernel_rfl)
theorem kp40_17 : tab.keep 40 17 = some ([10, 13, 53, 54], [10, 17, 26, 33, 34, 38, 48, 53, 63]) := tab_keep (by kernel_rfl)
theorem kp40_10 : tab.keep 40 10 = some ([0, 9, 10, 37, 38, 39], [10, 17, 26, 33, 34, 38, 48, 53]) := tab_keep (by kernel_rfl)
theorem kp44_1 : tab.keep 44 1 = some ([0, 2, 3], [5]) := tab_keep (by kernel_rfl)
theorem kp45_2 : tab.keep 45 2 = some ([0, 1, 7, 8], [7, 16]) := tab_keep (by kernel_rfl)
theorem kp47_3 : tab.keep 47 3 = some ([5, 15, 16, 17], [10, 12, 14, 16, 30]) := tab_keep (by kernel_rfl)
theorem kp57_2 : tab.keep 57 2 = some ([0, 1, 7, 8], [7, 16]) := tab_keep (by kernel_rfl)
theorem kp61_4 : tab.keep 61 4 = some ([2, 3, 9, 10, 11], [1, 2, 3, 10, 18, 20]) := tab_keep (by kernel_rfl)
theorem kp63_2 : tab.keep 63 2 = some ([0, 1, 7, 8], [7]) := tab_keep (by kernel_rfl)
theorem kp64_2 : tab.keep 64 2 = some ([0, 1, 7, 8], [7]) := tab_keep (by kernel_rfl)
theorem kp65_9 : tab.keep 65 9 = some ([0, 3, 6, 13, 14, 15, 28, 29, 30], [5, 14, 25, 29, 37, 43, 48]) := tab_keep (by kernel_rfl)
theorem kp65_3 : tab.keep 65 3 = some ([0, 3, 13, 14, 15], [14, 25, 29, 37, 43, 48]) := tab_keep (by kernel_rfl)
theorem kp66_14 : tab.keep 66 14 = some ([0, 3, 5, 7, 23, 24, 26, 27, 28, 33, 34, 35], [11, 12, 14, 23, 27, 34, 50, 59]) := tab_keep (by kernel_rfl)
theorem kp66_10 : tab.keep 66 10 = some ([0, 3, 23, 24, 26, 27, 28], [11, 12, 14, 23, 27, 34, 50, 59]) := tab_keep (by kernel_rfl)
theorem kp66_8 : tab.keep 66 8 = some ([0, 3, 23, 24], [11, 12, 14, 23, 27, 34, 50, 59]) := tab_keep (by kernel_rfl)
theorem kp66_3 : tab.keep 66 3 = some ([0, 3, 14, 15], [11, 12, 14, 23, 27, 34, 50, 59]) := tab_keep (by kernel_rfl)
theorem kp69_6 : tab.keep 69 6 = some ([0, 1, 5, 6, 22, 23, 24], [10, 13, 18, 23, 38]) := tab_keep (by kernel_rfl)
theorem kp69_3 : tab.keep 69 3 = some ([0, 1, 5, 6], [10, 13, 18, 23, 38]) := tab_keep (by kernel_rfl)
theorem kp70_4 : tab.keep 70 4 = some ([0, 1, 12, 13], [7, 9, 12]) := tab_keep (by kernel_rfl)
theorem kp79_4 : tab.keep 79 4 = some ([1, 6, 7, 8, 13, 14, 15], [6, 7, 12, 14, 27, 30, 35, 40, 45, 46]) := tab_keep (by kernel_rfl)
theorem kp80_3 : tab.keep 80 3 = some ([2, 3, 4, 7, 8, 13, 14, 15], [7, 8, 14, 26, 28]) := tab_keep (by kernel_rfl)
theorem kp82_2 : tab.keep 82 2 = some ([0, 1, 7, 8], [7, 16]) := tab_keep (by kernel_rfl)
theorem kp86_2 : tab.keep 86 2 = some ([0, 1, 5], [8, 15]) := tab_keep (by kernel_rfl)
theorem kp90_2 : tab.keep 90 2 = some ([0, 1, 7, 8], [7, 16]) := tab_keep (by kernel_rfl)
theorem kp93_4 : tab.keep 93 4 = some ([2, 18, 19, 20], [3, 14, 19, 26]) := tab_keep (by kernel_rfl)
theorem kp94_9 : tab.keep 94 9 = some ([0, 1, 2, 6, 7, 8], [18, 27, 43, 60]) := tab_keep (by kernel_rfl)
theorem kp94_7 : tab.keep 94 7 = some ([0, 1, 2, 6], [18, 27, 43, 60]) := tab_keep (by kernel_rfl)
theorem kp94_2 : tab.keep 94 2 = some ([0, 1, 2, 6, 7, 8], [18, 27, 43, 60]) := tab_keep (by kernel_rfl)
theorem kp96_3 : tab.keep 96 3 = some ([4, 5, 11, 12, 13], [1, 12, 19, 27]) := tab_keep (by kernel_rfl)
theorem kp97_5 : tab.keep 97 5 = some ([13, 14, 15], [1, 8, 14, 20]) := tab_keep (by kernel_rfl)
theorem kp103_4 : tab.keep 103 4 = some ([0, 8, 9], [5, 8]) := tab_keep (by kernel_rfl)
theorem kp104_11 : tab.keep 104 11 = some ([1, 2, 3, 10, 37, 38, 39], [3, 15, 38, 47, 56, 71]) := tab_keep (by kernel_rfl)
theorem kp108_33 : tab.keep 108 33 = some ([0, 1, 2, 3, 4, 18, 19, 20, 21, 22], [39, 49, 91, 101, 134, 169, 191, 205, 219]) := tab_keep (by kernel_rfl)
theorem kp108_21 : tab.keep 108 21 = some ([0, 14, 17], [39, 49, 91, 101, 134, 157, 169, 191, 205, 219]) := tab_keep (by kernel_rfl)
theorem kp108_15 : tab.keep 108 15 = some ([0, 2, 4, 14, 15], [39, 49, 101, 134, 157, 169, 191, 205, 219]) := tab_keep (by kernel_rfl)
theorem kp108_9 : tab.keep 108 9 = some ([0, 10, 13], [39, 49, 91, 101, 134, 157, 169, 191, 205, 219]) := tab_keep (by kernel_rfl)
theorem kp108_3 : tab.keep 108 3 = some ([0, 1, 4, 10, 11], [49, 91, 101, 134, 157, 169, 191, 205, 219]) := tab_keep (by kernel_rfl)
theorem kp114_2 : tab.keep 114 2 = some ([0, 2, 4, 10, 11], [31, 46, 57]) := tab_keep (by kernel_rfl)
theorem kp127_1 : tab.keep 127 1 = some ([0, 1, 3], [5, 17]) := tab_keep (by kernel_rfl)
theorem kp128_1 : tab.keep 128 1 = some ([0, 1, 2, 3, 10], []) := tab_keep (by kernel_rfl)
theorem dr4_1 : tab.drw 4 1 = some [[], [], [], [1], [], [1, 3, 4], []] := tab_drw (by kernel_rfl)
theorem dr4_5 : tab.drw 4 5 = some [[], [], [], [1], [1], [1], [], []] := tab_drw (by kernel_rfl)
theorem dr5_7 : tab.drw 5 7 = some [[], [], [], [], [], [], [0], [], [], [], [0], [], [], []] := tab_drw (by kernel_rfl)
theorem dr6_3 : tab.drw 6 3 = some [[], [], [], [], [], [], [], [], []] := tab_drw (by kernel_rfl)
theorem dr7_24 : tab.drw 7 24 = some [[], [], [], [], [], [], [], [], [], [], [], [], [], [], [], [], []] := tab_drw (by kernel_rfl)
theorem dr8_17 : tab.drw 8 17 = some [[], [], [], [2], [2], [], []] := tab_drw (by kernel_rfl)
theorem dr10_15 : tab.drw 10 15 = some [[], [], [], [], [], [], [], [], [], [], [], [], [], [], [], [], [], [], []] := tab_drw (by kernel_rfl)
theorem dr13_14 : tab.drw 13 14 = some [[], [], [], [], [], [], [], [], [], [], [], [], [], [], [], [], [], [], [], [], [], [], [], [], [], []] := tab_drw (by kernel_rfl)
theorem dr14_4 : tab.drw 14 4 = some [[], [], [0, 1], [], [], [], []] := tab_drw (by kernel_rfl)
theorem dr14_8 : tab.drw 14 8 = some [[], [], [], [], [0], [0], [2, 3], [], [0, 6], [0, 6], [2, 3], [], [], [0, 2, 3, 4, 5, 6, 8, 9, 10], []] := tab_drw (by kernel_rfl)
theorem dr14_13 : tab.drw 14 13 = some [[], [], [], [], [], [3], [3], [], [], []] := tab_drw (by kernel_rfl)
theorem dr19_6 : tab.drw 19 6 = some [[], [], [], [], [], [], [], [], [], [], [], [], [], []] := tab_drw (by kernel_rfl)
theorem dr20_8 : tab.drw 20 8 = some [[], [], [], [], [], [], [1, 2], [], [], [], []] := tab_drw (by kernel_rfl)
theorem dr23_9 : tab.drw 23 9 = some [[], [], [], [], [], [], [], [], [], [], []] := tab_drw (by kernel_rfl)
theorem dr24_10 : tab.drw 24 10 = some [[], [], [], [], [], [], [], [], [], [], []] := tab_drw (by kernel_rfl)
theorem dr27_5 : tab.drw 27 5 = some [[], [], [], [2], [2], [], [5], [], [], []] := tab_drw (by kernel_rfl)
theorem dr29_6 : tab.drw 29 6 = some [[], [], [], [], [], [], [], [], []] := tab_drw (by kernel_rfl)
theorem dr41_3 : tab.drw 41 3 = some [[], [], [], [], [], [], [], [], [], [], [], [], [], [], [], [], [1, 2, 3, 5, 6, 7, 9, 10, 11, 12, 14, 15], []] := tab_drw (by kernel_rfl)
theorem dr41_4 : tab.drw 41 4 = some [[], [], [], [], [], [], [], [], [], [], [], [], [], [], []] := tab_drw (by kernel_rfl)
theorem dr44_3 : tab.drw 44 3 = some [[], [], [], [], [], [], [], [], [], [], [], [], [], [], [], []] := tab_drw (by kernel_rfl)
theorem dr61_6 : tab.drw 61 6 = some [[], [], [], [0, 1], [], [], [], []] := tab_drw (by kernel_rfl)
theorem dr70_6 : tab.drw 70 6 = some [[], [], [], [], [], [], [], [], []] := tab_drw (by kernel_rfl)
theorem dr73_1 : tab.drw 73 1 = some [[], [], [], [], [], [], [], [], [], []] := tab_drw (by kernel_rfl)
theorem dr80_5 : tab.drw 80 5 = some [[], [], [], [], [], [], [], [0, 1], [], [], [], []] := tab_drw (by kernel_rfl)
theorem dr84_4 : tab.drw 84 4 = some [[], [], [0], [0], [], [], [], [], []] := tab_drw (by kernel_rfl)
theorem dr104_23 : tab.drw 104 23 = some [[], [], [], [], [], [], [], [], [], [], [], [], [], [], [], [], [], [], []] := tab_drw (by kernel_rfl)
theorem dr104_25 : tab.drw 104 25 = some [[], [], [], [], [], [], [], [], [], [], [], [], []] := tab_drw (by kernel_rfl)
theorem dr106_2 : tab.drw 106 2 = some [[], [], [0], [], [], [], [0, 4], [], [2, 4], [], [0, 4, 8], [], [2, 4, 6, 8], [], [], [2, 4, 6, 8, 10, 12], [], [], [2, 4, 6, 8, 10, 12, 15], [], [], [2, 4, 6, 8, 10, 12, 15, 18], [], [], [2, 4, 6, 8, 10, 12, 15, 18, 21], [], [], [2, 4, 6, 8, 10, 12, 15, 18, 21, 24], [], [], [2, 4, 6, 8, 10, 12, 15, 18, 21, 24, 27], [], [], [2, 4, 6, 8, 10, 12, 15, 18, 21, 24, 27, 30], [], [], [2, 4, 6, 8, 10, 12, 15, 18, 21, 24, 27, 30, 33], [], []] := tab_drw (by kernel_rfl)
theorem dr108_5 : tab.drw 108 5 = some [[], [], [], [], [], [], [], [], [], [], []] := tab_drw (by kernel_rfl)
theorem dr108_11 : tab.drw 108 11 = some [[], [], [], [], [], [], [], [], [], [], [], [], [], [], [], [], [], []] := tab_drw (by kernel_rfl)
theorem dr108_17 : tab.drw 108 17 = some [[], [], [], [], [], [], [], [], [], [], [], []] := tab_drw (by kernel_rfl)
theorem dr108_23 : tab.drw 108 23 = some [[], [], [], [], [], [], [], [], [], [], [], [], [], [], [], [], [], []] := tab_drw (by kernel_rfl)
theorem dr108_35 : tab.drw 108 35 = some [[], [], [], [], [], [], [], [], [], [], [], [], [], []] := tab_drw (by kernel_rfl)
theorem dr109_3 : tab.drw 109 3 = some [[], [], [], [0, 1, 2], [3], [3], [], [], []] := tab_drw (by kernel_rfl)
theorem dr128_3 : tab.drw 128 3 = some [[], [], [], [], [], [], [], [], [], [], [], [], [], [], [], [], [], [], [], [], [], [], [], []] := tab_drw (by kernel_rfl)
theorem lv3_0 : tab.lv 3 0 = some 1 := tab_lv (by kernel_rfl)
theorem lv3_1 : tab.lv 3 1 = some 8 := tab_lv (by kernel_rfl)
theorem lv3_2 : tab.lv 3 2 = some 229384 := tab_lv (by kernel_rfl)
theorem lv3_3 : tab.lv 3 3 = some 491528 := tab_lv (by kernel_rfl)
theorem lv3_4 : tab.lv 3 4 = some 229432 := tab_lv (by kernel_rfl)
theorem lv3_5 : tab.lv 3 5 = some 229592 := tab_lv (by kernel_rfl)
theorem lv3_6 : tab.lv 3 6 = some 34359967752 := tab_lv (by kernel_rfl)
theorem lv3_7 : tab.lv 3 7 = some 4 := tab_lv (by kernel_rfl)
theorem lv3_8 : tab.lv 3 8 = some 229384 := tab_lv (by kernel_rfl)
theorem lv3_9 : tab.lv 3 9 = some 512 := tab_lv (by kernel_rfl)
theorem lv3_10 : tab.lv 3 10 = some 3584 := tab_lv (by kernel_rfl)
theorem lv3_11 : tab.lv 3 11 = some 4 := tab_lv (by kernel_rfl)
theorem lv4_0 : tab.lv 4 0 = some 21 := tab_lv (by kernel_rfl)
theorem lv4_1 : tab.lv 4 1 = some 129 := tab_lv (by kernel_rfl)
theorem lv4_2 : tab.lv 4 2 = some 1835137 := tab_lv (by kernel_rfl)
theorem lv4_3 : tab.lv 4 3 = some 3932289 := tab_lv (by kernel_rfl)
theorem lv4_4 : tab.lv 4 4 = some 1835649 := tab_lv (by kernel_rfl)
theorem lv4_5 : tab.lv 4 5 = some 1836673 := tab_lv (by kernel_rfl)
theorem lv4_6 : tab.lv 4 6 = some 8796094857345 := tab_lv (by kernel_rfl)
theorem lv4_7 : tab.lv 4 7 = some 64 := tab_lv (by kernel_rfl)
theorem lv4_8 : tab.lv 4 8 = some 1835137 := tab_lv (by kernel_rfl)
theorem lv4_9 : tab.lv 4 9 = some 64 := tab_lv (by kernel_rfl)
theorem lv5_0 : tab.lv 5 0 = some 7 := tab_lv (by kernel_rfl)
theorem lv5_1 : tab.lv 5 1 = some 134 := tab_lv (by kernel_rfl)
theorem lv5_2 : tab.lv 5 2 = some 388 := tab_lv (by kernel_rfl)
theorem lv5_3 : tab.lv 5 3 = some 33554820 := tab_lv (by kernel_rfl)
theorem lv5_4 : tab.lv 5 4 = some 64 := tab_lv (by kernel_rfl)
theorem lv5_5 : tab.lv 5 5 = some 268435844 := tab_lv (by kernel_rfl)
theorem lv5_6 : tab.lv 5 6 = some 64 := tab_lv (by kernel_rfl)
theorem lv5_7 : tab.lv 5 7 = some 64 := tab_lv (by kernel_rfl)
theorem lv6_0 : tab.lv 6 0 = some 3 := tab_lv (by kernel_rfl)
theorem lv6_1 : tab.lv 6 1 = some 34 := tab_lv (by kernel_rfl)
theorem lv6_2 : tab.lv 6 2 = some 96 := tab_lv (by kernel_rfl)
theorem lv6_3 : tab.lv 6 3 = some 160 := tab_lv (by kernel_rfl)
theorem lv6_4 : tab.lv 6 4 = some 67109024 := tab_lv (by kernel_rfl)
theorem lv6_5 : tab.lv 6 5 = some 16 := tab_lv (by kernel_rfl)
theorem lv6_6 : tab.lv 6 6 = some 16 := tab_lv (by kernel_rfl)
theorem lv7_0 : tab.lv 7 0 = some 3 := tab_lv (by kernel_rfl)
theorem lv7_1 : tab.lv 7 1 = some 34 := tab_lv (by kernel_rfl)
theorem lv7_2 : tab.lv 7 2 = some 134217762 := tab_lv (by kernel_rfl)
theorem lv7_3 : tab.lv 7 3 = some 16 := tab_lv (by kernel_rfl)
theorem lv7_4 : tab.lv 7 4 = some 8589934626 := tab_lv (by kernel_rfl)
theorem lv7_5 : tab.lv 7 5 = some 16 := tab_lv (by kernel_rfl)
theorem lv7_6 : tab.lv 7 6 = some 240518168610 := tab_lv (by kernel_rfl)
theorem lv7_7 : tab.lv 7 7 = some 515396075554 := tab_lv (by kernel_rfl)
theorem lv7_8 : tab.lv 7 8 = some 240518168802 := tab_lv (by kernel_rfl)
theorem lv7_9 : tab.lv 7 9 = some 61813169324258 := tab_lv (by kernel_rfl)
theorem lv7_10 : tab.lv 7 10 = some 132181913501922 := tab_lv (by kernel_rfl)
theorem lv7_11 : tab.lv 7 11 = some 61813169324770 := tab_lv (by kernel_rfl)
theorem lv7_12 : tab.lv 7 12 = some 61813169327330 := tab_lv (by kernel_rfl)
theorem lv7_13 : tab.lv 7 13 = some 4611747831596712162 := tab_lv (by kernel_rfl)
theorem lv7_14 : tab.lv 7 14 = some 16 := tab_lv (by kernel_rfl)
theorem lv7_15 : tab.lv 7 15 = some 61813169324258 := tab_lv (by kernel_rfl)
theorem lv7_16 : tab.lv 7 16 = some 240518180962 := tab_lv (by kernel_rfl)
theorem lv7_17 : tab.lv 7 17 = some 302231454903897811845154 := tab_lv (by kernel_rfl)
theorem lv7_18 : tab.lv 7 18 = some 16 := tab_lv (by kernel_rfl)
theorem lv7_19 : tab.lv 7 19 = some 240518168610 := tab_lv (by kernel_rfl)
theorem lv7_20 : tab.lv 7 20 = some 16416 := tab_lv (by kernel_rfl)
theorem lv7_21 : tab.lv 7 21 = some 4951760157141521099596513312 := tab_lv (by kernel_rfl)
theorem lv7_22 : tab.lv 7 22 = some 16 := tab_lv (by kernel_rfl)
theorem lv7_23 : tab.lv 7 23 = some 49184 := tab_lv (by kernel_rfl)
theorem lv7_24 : tab.lv 7 24 = some 32800 := tab_lv (by kernel_rfl)
theorem lv7_25 : tab.lv 7 25 = some 16 := tab_lv (by kernel_rfl)
theorem lv8_0 : tab.lv 8 0 = some 1 := tab_lv (by kernel_rfl)
theorem lv8_1 : tab.lv 8 1 = some 8 := tab_lv (by kernel_rfl)
theorem lv8_2 : tab.lv 8 2 = some 56 := tab_lv (by kernel_rfl)
theorem lv8_3 : tab.lv 8 3 = some 248 := tab_lv (by kernel_rfl)
theorem lv8_4 : tab.lv 8 4 = some 549755813912 := tab_lv (by kernel_rfl)
theorem lv8_5 : tab.lv 8 5 = some 4 := tab_lv (by kernel_rfl)
theorem lv8_6 : tab.lv 8 6 = some 15393162788888 := tab_lv (by kernel_rfl)
theorem lv8_7 : tab.lv 8 7 = some 32985348833304 := tab_lv (by kernel_rfl)
theorem lv8_8 : tab.lv 8 8 = some 15393162789400 := tab_lv (by kernel_rfl)
theorem lv8_9 : tab.lv 8 9 = some 15393162791448 := tab_lv (by kernel_rfl)
theorem lv8_10 : tab.lv 8 10 = some 2305858402376482840 := tab_lv (by kernel_rfl)
theorem lv8_11 : tab.lv 8 11 = some 4 := tab_lv (by kernel_rfl)
theorem lv8_12 : tab.lv 8 12 = some 15393162788888 := tab_lv (by kernel_rfl)
theorem lv8_13 : tab.lv 8 13 = some 12296 := tab_lv (by kernel_rfl)
theorem lv8_14 : tab.lv 8 14 = some 4132070672510939574272 := tab_lv (by kernel_rfl)
theorem lv8_15 : tab.lv 8 15 = some 8854437155380584787968 := tab_lv (by kernel_rfl)
theorem lv8_16 : tab.lv 8 16 = some 4132070672510939623424 := tab_lv (by kernel_rfl)
theorem lv8_17 : tab.lv 8 17 = some 4839835349131027638398976 := tab_lv (by kernel_rfl)
theorem lv8_18 : tab.lv 8 18 = some 4 := tab_lv (by kernel_rfl)
theorem lv8_19 : tab.lv 8 19 = some 4132070672510939574272 := tab_lv (by kernel_rfl)
theorem lv8_20 : tab.lv 8 20 = some 4 := tab_lv (by kernel_rfl)
theorem lv9_0 : tab.lv 9 0 = some 1 := tab_lv (by kernel_rfl)
theorem lv9_1 : tab.lv 9 1 = some 8 := tab_lv (by kernel_rfl)
theorem lv9_2 : tab.lv 9 2 = some 120 := tab_lv (by kernel_rfl)
theorem lv9_3 : tab.lv 9 3 = some 274877906968 := tab_lv (by kernel_rfl)
theorem lv9_4 : tab.lv 9 4 = some 4 := tab_lv (by kernel_rfl)
theorem lv9_5 : tab.lv 9 5 = some 3848290697240 := tab_lv (by kernel_rfl)
theorem lv9_6 : tab.lv 9 6 = some 8246337208344 := tab_lv (by kernel_rfl)
theorem lv9_7 : tab.lv 9 7 = some 3848290697624 := tab_lv (by kernel_rfl)
theorem lv9_8 : tab.lv 9 8 = some 3848290698136 := tab_lv (by kernel_rfl)
theorem lv9_9 : tab.lv 9 9 = some 496429499941784 := tab_lv (by kernel_rfl)
theorem lv9_10 : tab.lv 9 10 = some 1059379453363096 := tab_lv (by kernel_rfl)
theorem lv9_11 : tab.lv 9 11 = some 496429499944856 := tab_lv (by kernel_rfl)
theorem lv9_12 : tab.lv 9 12 = some 4612182447927330712 := tab_lv (by kernel_rfl)
theorem lv9_13 : tab.lv 9 13 = some 496429499941784 := tab_lv (by kernel_rfl)
theorem lv9_14 : tab.lv 9 14 = some 496429499941784 := tab_lv (by kernel_rfl)
theorem lv9_15 : tab.lv 9 15 = some 75557863729762614116376 := tab_lv (by kernel_rfl)
theorem lv9_16 : tab.lv 9 16 = some 4 := tab_lv (by kernel_rfl)
theorem lv9_17 : tab.lv 9 17 = some 3848290697240 := tab_lv (by kernel_rfl)
theorem lv9_18 : tab.lv 9 18 = some 4 := tab_lv (by kernel_rfl)
theorem lv10_0 : tab.lv 10 0 = some 3 := tab_lv (by kernel_rfl)
theorem lv10_1 : tab.lv 10 1 = some 34 := tab_lv (by kernel_rfl)
theorem lv10_2 : tab.lv 10 2 = some 96 := tab_lv (by kernel_rfl)
theorem lv10_3 : tab.lv 10 3 = some 117440608 := tab_lv (by kernel_rfl)
theorem lv10_4 : tab.lv 10 4 = some 251658336 := tab_lv (by kernel_rfl)
theorem lv10_5 : tab.lv 10 5 = some 117440992 := tab_lv (by kernel_rfl)
theorem lv10_6 : tab.lv 10 6 = some 117440608 := tab_lv (by kernel_rfl)
theorem lv10_7 : tab.lv 10 7 = some 117440608 := tab_lv (by kernel_rfl)
theorem lv10_8 : tab.lv 10 8 = some 3680 := tab_lv (by kernel_rfl)
theorem lv10_9 : tab.lv 10 9 = some 590295810358705652768 := tab_lv (by kernel_rfl)
theorem lv10_10 : tab.lv 10 10 = some 16 := tab_lv (by kernel_rfl)
theorem lv10_11 : tab.lv 10 11 = some 8264141345021879125024 := tab_lv (by kernel_rfl)
theorem lv10_12 : tab.lv 10 12 = some 17708874310761169552416 := tab_lv (by kernel_rfl)
theorem lv10_13 : tab.lv 10 13 = some 8264141345021879137312 := tab_lv (by kernel_rfl)
theorem lv10_14 : tab.lv 10 14 = some 8264141345021879178272 := tab_lv (by kernel_rfl)
theorem lv10_15 : tab.lv 10 15 = some 2535301208720600148015285535776 := tab_lv (by kernel_rfl)
theorem lv10_16 : tab.lv 10 16 = some 16 := tab_lv (by kernel_rfl)
theorem lv10_17 : tab.lv 10 17 = some 8264141345021879125024 := tab_lv (by kernel_rfl)
theorem lv10_18 : tab.lv 10 18 = some 16 := tab_lv (by kernel_rfl)
theorem lv11_0 : tab.lv 11 0 = some 1 := tab_lv (by kernel_rfl)
theorem lv11_1 : tab.lv 11 1 = some 40 := tab_lv (by kernel_rfl)
theorem lv11_2 : tab.lv 11 2 = some 16777224 := tab_lv (by kernel_rfl)
theorem lv11_3 : tab.lv 11 3 = some 4 := tab_lv (by kernel_rfl)
theorem lv11_4 : tab.lv 11 4 = some 4 := tab_lv (by kernel_rfl)
theorem lv12_0 : tab.lv 12 0 = some 1 := tab_lv (by kernel_rfl)
theorem lv12_1 : tab.lv 12 1 = some 8 := tab_lv (by kernel_rfl)
theorem lv12_2 : tab.lv 12 2 = some 56 := tab_lv (by kernel_rfl)
theorem lv12_3 : tab.lv 12 3 = some 8589934616 := tab_lv (by kernel_rfl)
theorem lv12_4 : tab.lv 12 4 = some 4 := tab_lv (by kernel_rfl)
theorem lv12_5 : tab.lv 12 5 = some 88 := tab_lv (by kernel_rfl)
theorem lv12_6 : tab.lv 12 6 = some 120259084360 := tab_lv (by kernel_rfl)
theorem lv12_7 : tab.lv 12 7 = some 257698037832 := tab_lv (by kernel_rfl)
theorem lv12_8 : tab.lv 12 8 = some 120259084616 := tab_lv (by kernel_rfl)
theorem lv12_9 : tab.lv 12 9 = some 72057714297012552 := tab_lv (by kernel_rfl)
theorem lv12_10 : tab.lv 12 10 = some 4 := tab_lv (by kernel_rfl)
theorem lv12_11 : tab.lv 12 11 = some 120259085128 := tab_lv (by kernel_rfl)
theorem lv12_12 : tab.lv 12 12 = some 516508834184126529864 := tab_lv (by kernel_rfl)
theorem lv12_13 : tab.lv 12 13 = some 1106804644542832181576 := tab_lv (by kernel_rfl)
theorem lv12_14 : tab.lv 12 14 = some 516508834184126533960 := tab_lv (by kernel_rfl)
theorem lv12_15 : tab.lv 12 15 = some 9671923065751217524179272 := tab_lv (by kernel_rfl)
theorem lv12_16 : tab.lv 12 16 = some 4 := tab_lv (by kernel_rfl)
theorem lv12_17 : tab.lv 12 17 = some 516508834184126529864 := tab_lv (by kernel_rfl)
theorem lv12_18 : tab.lv 12 18 = some 120259084360 := tab_lv (by kernel_rfl)
theorem lv12_19 : tab.lv 12 19 = some 120259084360 := tab_lv (by kernel_rfl)
theorem lv12_20 : tab.lv 12 20 = some 4 := tab_lv (by kernel_rfl)
theorem lv13_0 : tab.lv 13 0 = some 7 := tab_lv (by kernel_rfl)
theorem lv13_1 : tab.lv 13 1 = some 134 := tab_lv (by kernel_rfl)
theorem lv13_2 : tab.lv 13 2 = some 896 := tab_lv (by kernel_rfl)
theorem lv13_3 : tab.lv 13 3 = some 3968 := tab_lv (by kernel_rfl)
theorem lv13_4 : tab.lv 13 4 = some 16256 := tab_lv (by kernel_rfl)
theorem lv13_5 : tab.lv 13 5 = some 4611686018427393920 := tab_lv (by kernel_rfl)
theorem lv13_6 : tab.lv 13 6 = some 64 := tab_lv (by kernel_rfl)
theorem lv13_7 : tab.lv 13 7 = some 36893488147419109248 := tab_lv (by kernel_rfl)
theorem lv13_8 : tab.lv 13 8 = some 516508834063867447168 := tab_lv (by kernel_rfl)
theorem lv13_9 : tab.lv 13 9 = some 1106804644422573098880 := tab_lv (by kernel_rfl)
theorem lv13_10 : tab.lv 13 10 = some 516508834063867479936 := tab_lv (by kernel_rfl)
theorem lv13_11 : tab.lv 13 11 = some 38295440697021029156736 := tab_lv (by kernel_rfl)
theorem lv13_12 : tab.lv 13 12 = some 64 := tab_lv (by kernel_rfl)
theorem lv13_13 : tab.lv 13 13 = some 516508834063867447168 := tab_lv (by kernel_rfl)
theorem lv13_14 : tab.lv 13 14 = some 64 := tab_lv (by kernel_rfl)
theorem lv14_0 : tab.lv 14 0 = some 5 := tab_lv (by kernel_rfl)
theorem lv14_1 : tab.lv 14 1 = some 12 := tab_lv (by kernel_rfl)
theorem lv14_2 : tab.lv 14 2 = some 28 := tab_lv (by kernel_rfl)
theorem lv14_3 : tab.lv 14 3 = some 60 := tab_lv (by kernel_rfl)
theorem lv14_4 : tab.lv 14 4 = some 100663356 := tab_lv (by kernel_rfl)
theorem lv14_5 : tab.lv 14 5 = some 234881084 := tab_lv (by kernel_rfl)
theorem lv14_6 : tab.lv 14 6 = some 100663420 := tab_lv (by kernel_rfl)
theorem lv14_7 : tab.lv 14 7 = some 100663548 := tab_lv (by kernel_rfl)
theorem lv14_8 : tab.lv 14 8 = some 100663740 := tab_lv (by kernel_rfl)
theorem lv14_9 : tab.lv 14 9 = some 35184472752572 := tab_lv (by kernel_rfl)
theorem lv14_10 : tab.lv 14 10 = some 105553216930236 := tab_lv (by kernel_rfl)
theorem lv14_11 : tab.lv 14 11 = some 100663612 := tab_lv (by kernel_rfl)
theorem lv14_12 : tab.lv 14 12 = some 36028797119627708 := tab_lv (by kernel_rfl)
theorem lv14_13 : tab.lv 14 13 = some 100663612 := tab_lv (by kernel_rfl)
theorem lv14_14 : tab.lv 14 14 = some 100663356 := tab_lv (by kernel_rfl)
theorem lv14_15 : tab.lv 14 15 = some 100663356 := tab_lv (by kernel_rfl)
theorem lv14_16 : tab.lv 14 16 = some 572 := tab_lv (by kernel_rfl)
theorem lv14_17 : tab.lv 14 17 = some 453347182355485940515388 := tab_lv (by kernel_rfl)
theorem lv14_18 : tab.lv 14 18 = some 1057810092162800527868476 := tab_lv (by kernel_rfl)
theorem lv14_19 : tab.lv 14 19 = some 453347182355485940516412 := tab_lv (by kernel_rfl)
theorem lv14_20 : tab.lv 14 20 = some 453347182355485940518460 := tab_lv (by kernel_rfl)
theorem lv14_21 : tab.lv 14 21 = some 453347182355485940522556 := tab_lv (by kernel_rfl)
theorem lv14_22 : tab.lv 14 22 = some 17331613897177679334528261692 := tab_lv (by kernel_rfl)
theorem lv14_23 : tab.lv 14 23 = some 37138654525743763732914249276 := tab_lv (by kernel_rfl)
theorem lv14_24 : tab.lv 14 24 = some 17331613897177679334528286268 := tab_lv (by kernel_rfl)
theorem lv14_25 : tab.lv 14 25 = some 10158536415723012891308153921084 := tab_lv (by kernel_rfl)
theorem lv14_26 : tab.lv 14 26 = some 17331613897177679334528261692 := tab_lv (by kernel_rfl)
theorem lv14_27 : tab.lv 14 27 = some 17331613897177679334528261692 := tab_lv (by kernel_rfl)
theorem lv14_28 : tab.lv 14 28 = some 41538374868731968210599456574280252 := tab_lv (by kernel_rfl)
theorem lv14_29 : tab.lv 14 29 = some 453347182355485940519484 := tab_lv (by kernel_rfl)
theorem lv14_30 : tab.lv 14 30 = some 453347182355485940515388 := tab_lv (by kernel_rfl)
theorem lv14_31 : tab.lv 14 31 = some 453347182355485940515388 := tab_lv (by kernel_rfl)
theorem lv14_32 : tab.lv 14 32 = some 2722258935367507707706996859454145691668 := tab_lv (by kernel_rfl)
theorem lv14_33 : tab.lv 14 33 = some 20 := tab_lv (by kernel_rfl)
theorem lv14_34 : tab.lv 14 34 = some 4 := tab_lv (by kernel_rfl)
theorem lv15_0 : tab.lv 15 0 = some 9 := tab_lv (by kernel_rfl)
theorem lv15_1 : tab.lv 15 1 = some 64 := tab_lv (by kernel_rfl)
theorem lv15_2 : tab.lv 15 2 = some 2112 := tab_lv (by kernel_rfl)
theorem lv15_3 : tab.lv 15 3 = some 48 := tab_lv (by kernel_rfl)
theorem lv15_4 : tab.lv 15 4 = some 48 := tab_lv (by kernel_rfl)
theorem lv16_0 : tab.lv 16 0 = some 1 := tab_lv (by kernel_rfl)
theorem lv16_1 : tab.lv 16 1 = some 3 := tab_lv (by kernel_rfl)
theorem lv16_2 : tab.lv 16 2 = some 1 := tab_lv (by kernel_rfl)
theorem lv17_0 : tab.lv 17 0 = some 25 := tab_lv (by kernel_rfl)
theorem lv17_1 : tab.lv 17 1 = some 56 := tab_lv (by kernel_rfl)
theorem lv17_2 : tab.lv 17 2 = some 120 := tab_lv (by kernel_rfl)
theorem lv17_3 : tab.lv 17 3 = some 2072 := tab_lv (by kernel_rfl)
theorem lv17_4 : tab.lv 17 4 = some 16 := tab_lv (by kernel_rfl)
theorem lv17_5 : tab.lv 17 5 = some 16 := tab_lv (by kernel_rfl)
theorem lv17_6 : tab.lv 17 6 = some 4194328 := tab_lv (by kernel_rfl)
theorem lv17_7 : tab.lv 17 7 = some 16 := tab_lv (by kernel_rfl)
theorem lv17_8 : tab.lv 17 8 = some 16 := tab_lv (by kernel_rfl)
theorem lv18_0 : tab.lv 18 0 = some 3 := tab_lv (by kernel_rfl)
theorem lv18_1 : tab.lv 18 1 = some 67 := tab_lv (by kernel_rfl)
theorem lv18_2 : tab.lv 18 2 = some 3 := tab_lv (by kernel_rfl)
theorem lv18_3 : tab.lv 18 3 = some 16 := tab_lv (by kernel_rfl)
theorem lv19_0 : tab.lv 19 0 = some 35 := tab_lv (by kernel_rfl)
theorem lv19_1 : tab.lv 19 1 = some 417 := tab_lv (by kernel_rfl)
theorem lv19_2 : tab.lv 19 2 = some 33185 := tab_lv (by kernel_rfl)
theorem lv19_3 : tab.lv 19 3 = some 64 := tab_lv (by kernel_rfl)
theorem lv19_4 : tab.lv 19 4 = some 524449 := tab_lv (by kernel_rfl)
theorem lv19_5 : tab.lv 19 5 = some 64 := tab_lv (by kernel_rfl)
theorem lv19_6 : tab.lv 19 6 = some 67108864 := tab_lv (by kernel_rfl)
theorem lv19_7 : tab.lv 19 7 = some 64 := tab_lv (by kernel_rfl)
theorem lv19_8 : tab.lv 19 8 = some 64 := tab_lv (by kernel_rfl)
theorem lv20_0 : tab.lv 20 0 = some 6 := tab_lv (by kernel_rfl)
theorem lv20_1 : tab.lv 20 1 = some 36 := tab_lv (by kernel_rfl)
theorem lv20_2 : tab.lv 20 2 = some 100 := tab_lv (by kernel_rfl)
theorem lv20_3 : tab.lv 20 3 = some 114784 := tab_lv (by kernel_rfl)
theorem lv20_4 : tab.lv 20 4 = some 245856 := tab_lv (by kernel_rfl)
theorem lv20_5 : tab.lv 20 5 = some 115040 := tab_lv (by kernel_rfl)
theorem lv20_6 : tab.lv 20 6 = some 115552 := tab_lv (by kernel_rfl)
theorem lv20_7 : tab.lv 20 7 = some 1073857376 := tab_lv (by kernel_rfl)
theorem lv20_8 : tab.lv 20 8 = some 114784 := tab_lv (by kernel_rfl)
theorem lv20_9 : tab.lv 20 9 = some 114784 := tab_lv (by kernel_rfl)
theorem lv20_10 : tab.lv 20 10 = some 16 := tab_lv (by kernel_rfl)
theorem lv21_0 : tab.lv 21 0 = some 6 := tab_lv (by kernel_rfl)
theorem lv21_1 : tab.lv 21 1 = some 1798 := tab_lv (by kernel_rfl)
theorem lv21_2 : tab.lv 21 2 = some 3846 := tab_lv (by kernel_rfl)
theorem lv21_3 : tab.lv 21 3 = some 1894 := tab_lv (by kernel_rfl)
theorem lv21_4 : tab.lv 21 4 = some 2022 := tab_lv (by kernel_rfl)
theorem lv21_5 : tab.lv 21 5 = some 8390630 := tab_lv (by kernel_rfl)
theorem lv21_6 : tab.lv 21 6 = some 16 := tab_lv (by kernel_rfl)
theorem lv21_7 : tab.lv 21 7 = some 268437350 := tab_lv (by kernel_rfl)
theorem lv21_8 : tab.lv 21 8 = some 16 := tab_lv (by kernel_rfl)
theorem lv21_9 : tab.lv 21 9 = some 8589936390 := tab_lv (by kernel_rfl)
theorem lv21_10 : tab.lv 21 10 = some 16 := tab_lv (by kernel_rfl)
theorem lv21_11 : tab.lv 21 11 = some 1798 := tab_lv (by kernel_rfl)
theorem lv21_12 : tab.lv 21 12 = some 16 := tab_lv (by kernel_rfl)
theorem lv22_0 : tab.lv 22 0 = some 1 := tab_lv (by kernel_rfl)
theorem lv22_1 : tab.lv 22 1 = some 9 := tab_lv (by kernel_rfl)
theorem lv22_2 : tab.lv 22 2 = some 3593 := tab_lv (by kernel_rfl)
theorem lv22_3 : tab.lv 22 3 = some 7689 := tab_lv (by kernel_rfl)
theorem lv22_4 : tab.lv 22 4 = some 3625 := tab_lv (by kernel_rfl)
theorem lv22_5 : tab.lv 22 5 = some 3593 := tab_lv (by kernel_rfl)
theorem lv22_6 : tab.lv 22 6 = some 1052169 := tab_lv (by kernel_rfl)
theorem lv22_7 : tab.lv 22 7 = some 3593 := tab_lv (by kernel_rfl)
theorem lv22_8 : tab.lv 22 8 = some 3593 := tab_lv (by kernel_rfl)
theorem lv22_9 : tab.lv 22 9 = some 65 := tab_lv (by kernel_rfl)
theorem lv22_10 : tab.lv 22 10 = some 234881088 := tab_lv (by kernel_rfl)
theorem lv22_11 : tab.lv 22 11 = some 503316544 := tab_lv (by kernel_rfl)
theorem lv22_12 : tab.lv 22 12 = some 234881344 := tab_lv (by kernel_rfl)
theorem lv22_13 : tab.lv 22 13 = some 234881088 := tab_lv (by kernel_rfl)
theorem lv22_14 : tab.lv 22 14 = some 234881088 := tab_lv (by kernel_rfl)
theorem lv22_15 : tab.lv 22 15 = some 4 := tab_lv (by kernel_rfl)
theorem lv23_0 : tab.lv 23 0 = some 1 := tab_lv (by kernel_rfl)
theorem lv23_1 : tab.lv 23 1 = some 8193 := tab_lv (by kernel_rfl)
theorem lv23_2 : tab.lv 23 2 = some 4 := tab_lv (by kernel_rfl)
theorem lv23_3 : tab.lv 23 3 = some 114689 := tab_lv (by kernel_rfl)
theorem lv23_4 : tab.lv 23 4 = some 245761 := tab_lv (by kernel_rfl)
theorem lv23_5 : tab.lv 23 5 = some 114713 := tab_lv (by kernel_rfl)
theorem lv23_6 : tab.lv 23 6 = some 114745 := tab_lv (by kernel_rfl)
theorem lv23_7 : tab.lv 23 7 = some 16891961 := tab_lv (by kernel_rfl)
theorem lv23_8 : tab.lv 23 8 = some 4 := tab_lv (by kernel_rfl)
theorem lv23_9 : tab.lv 23 9 = some 114817 := tab_lv (by kernel_rfl)
theorem lv23_10 : tab.lv 23 10 = some 68719591425 := tab_lv (by kernel_rfl)
theorem lv23_11 : tab.lv 23 11 = some 4 := tab_lv (by kernel_rfl)
theorem lv23_12 : tab.lv 23 12 = some 114689 := tab_lv (by kernel_rfl)
theorem lv23_13 : tab.lv 23 13 = some 1924145348609 := tab_lv (by kernel_rfl)
theorem lv23_14 : tab.lv 23 14 = some 4123168604161 := tab_lv (by kernel_rfl)
theorem lv23_15 : tab.lv 23 15 = some 1924145349121 := tab_lv (by kernel_rfl)
theorem lv23_16 : tab.lv 23 16 = some 1924145349633 := tab_lv (by kernel_rfl)
theorem lv23_17 : tab.lv 23 17 = some 283399122060289 := tab_lv (by kernel_rfl)
theorem lv23_18 : tab.lv 23 18 = some 4 := tab_lv (by kernel_rfl)
theorem lv23_19 : tab.lv 23 19 = some 1924145348609 := tab_lv (by kernel_rfl)
theorem lv23_20 : tab.lv 23 20 = some 4 := tab_lv (by kernel_rfl)
theorem lv24_0 : tab.lv 24 0 = some 3 := tab_lv (by kernel_rfl)
theorem lv24_1 : tab.lv 24 1 = some 8388611 := tab_lv (by kernel_rfl)
theorem lv24_2 : tab.lv 24 2 = some 16 := tab_lv (by kernel_rfl)
theorem lv24_3 : tab.lv 24 3 = some 35 := tab_lv (by kernel_rfl)
theorem lv24_4 : tab.lv 24 4 = some 117440547 := tab_lv (by kernel_rfl)
theorem lv24_5 : tab.lv 24 5 = some 251658275 := tab_lv (by kernel_rfl)
theorem lv24_6 : tab.lv 24 6 = some 117440739 := tab_lv (by kernel_rfl)
theorem lv24_7 : tab.lv 24 7 = some 117440995 := tab_lv (by kernel_rfl)
theorem lv24_8 : tab.lv 24 8 = some 34477179363 := tab_lv (by kernel_rfl)
theorem lv24_9 : tab.lv 24 9 = some 16 := tab_lv (by kernel_rfl)
theorem lv24_10 : tab.lv 24 10 = some 117441699 := tab_lv (by kernel_rfl)
theorem lv24_11 : tab.lv 24 11 = some 140737605796003 := tab_lv (by kernel_rfl)
theorem lv24_12 : tab.lv 24 12 = some 16 := tab_lv (by kernel_rfl)
theorem lv24_13 : tab.lv 24 13 = some 3940649791389859 := tab_lv (by kernel_rfl)
theorem lv24_14 : tab.lv 24 14 = some 8444249418760355 := tab_lv (by kernel_rfl)
theorem lv24_15 : tab.lv 24 15 = some 3940649791393955 := tab_lv (by kernel_rfl)
theorem lv24_16 : tab.lv 24 16 = some 3940649791410339 := tab_lv (by kernel_rfl)
theorem lv24_17 : tab.lv 24 17 = some 4615626668218798243 := tab_lv (by kernel_rfl)
theorem lv24_18 : tab.lv 24 18 = some 16 := tab_lv (by kernel_rfl)
theorem lv24_19 : tab.lv 24 19 = some 73790916944629600419 := tab_lv (by kernel_rfl)
theorem lv24_20 : tab.lv 24 20 = some 16 := tab_lv (by kernel_rfl)
theorem lv24_21 : tab.lv 24 21 = some 3940649791389859 := tab_lv (by kernel_rfl)
theorem lv24_22 : tab.lv 24 22 = some 3940649791389859 := tab_lv (by kernel_rfl)
theorem lv24_23 : tab.lv 24 23 = some 9444732965739407868067 := tab_lv (by kernel_rfl)
theorem lv24_24 : tab.lv 24 24 = some 117473315 := tab_lv (by kernel_rfl)
theorem lv24_25 : tab.lv 24 25 = some 604462909807314704826403 := tab_lv (by kernel_rfl)
theorem lv24_26 : tab.lv 24 26 = some 16 := tab_lv (by kernel_rfl)
theorem lv24_27 : tab.lv 24 27 = some 117440547 := tab_lv (by kernel_rfl)
theorem lv24_28 : tab.lv 24 28 = some 16 := tab_lv (by kernel_rfl)
theorem lv25_0 : tab.lv 25 0 = some 9 := tab_lv (by kernel_rfl)
theorem lv25_1 : tab.lv 25 1 = some 64 := tab_lv (by kernel_rfl)
theorem lv25_2 : tab.lv 25 2 = some 2112 := tab_lv (by kernel_rfl)
theorem lv25_3 : tab.lv 25 3 = some 48 := tab_lv (by kernel_rfl)
theorem lv25_4 : tab.lv 25 4 = some 48 := tab_lv (by kernel_rfl)
theorem lv26_0 : tab.lv 26 0 = some 9 := tab_lv (by kernel_rfl)
theorem lv26_1 : tab.lv 26 1 = some 64 := tab_lv (by kernel_rfl)
theorem lv26_2 : tab.lv 26 2 = some 2112 := tab_lv (by kernel_rfl)
theorem lv26_3 : tab.lv 26 3 = some 48 := tab_lv (by kernel_rfl)
theorem lv26_4 : tab.lv 26 4 = some 48 := tab_lv (by kernel_rfl)
theorem lv27_0 : tab.lv 27 0 = some 1 := tab_lv (by kernel_rfl)
theorem lv27_1 : tab.lv 27 1 = some 9 := tab_lv (by kernel_rfl)
theorem lv27_2 : tab.lv 27 2 = some 456 := tab_lv (by kernel_rfl)
theorem lv27_3 : tab.lv 27 3 = some 968 := tab_lv (by kernel_rfl)
theorem lv27_4 : tab.lv 27 4 = some 488 := tab_lv (by kernel_rfl)
theorem lv27_5 : tab.lv 27 5 = some 488 := tab_lv (by kernel_rfl)
theorem lv27_6 : tab.lv 27 6 = some 456 := tab_lv (by kernel_rfl)
theorem lv27_7 : tab.lv 27 7 = some 456 := tab_lv (by kernel_rfl)
theorem lv27_8 : tab.lv 27 8 = some 4 := tab_lv (by kernel_rfl)
theorem lv28_0 : tab.lv 28 0 = some 2 := tab_lv (by kernel_rfl)
theorem lv28_1 : tab.lv 28 1 = some 18 := tab_lv (by kernel_rfl)
theorem lv28_2 : tab.lv 28 2 = some 8210 := tab_lv (by kernel_rfl)
theorem lv28_3 : tab.lv 28 3 = some 12 := tab_lv (by kernel_rfl)
theorem lv28_4 : tab.lv 28 4 = some 34 := tab_lv (by kernel_rfl)
theorem lv28_5 : tab.lv 28 5 = some 458786 := tab_lv (by kernel_rfl)
theorem lv28_6 : tab.lv 28 6 = some 983074 := tab_lv (by kernel_rfl)
theorem lv28_7 : tab.lv 28 7 = some 458914 := tab_lv (by kernel_rfl)
theorem lv28_8 : tab.lv 28 8 = some 459426 := tab_lv (by kernel_rfl)
theorem lv28_9 : tab.lv 28 9 = some 2147942562 := tab_lv (by kernel_rfl)
theorem lv28_10 : tab.lv 28 10 = some 458786 := tab_lv (by kernel_rfl)
theorem lv28_11 : tab.lv 28 11 = some 458786 := tab_lv (by kernel_rfl)
theorem lv28_12 : tab.lv 28 12 = some 12 := tab_lv (by kernel_rfl)
theorem lv29_0 : tab.lv 29 0 = some 3 := tab_lv (by kernel_rfl)
theorem lv29_1 : tab.lv 29 1 = some 1027 := tab_lv (by kernel_rfl)
theorem lv29_2 : tab.lv 29 2 = some 16 := tab_lv (by kernel_rfl)
theorem lv29_3 : tab.lv 29 3 = some 12291 := tab_lv (by kernel_rfl)
theorem lv29_4 : tab.lv 29 4 = some 28675 := tab_lv (by kernel_rfl)
theorem lv29_5 : tab.lv 29 5 = some 12323 := tab_lv (by kernel_rfl)
theorem lv29_6 : tab.lv 29 6 = some 16789507 := tab_lv (by kernel_rfl)
theorem lv29_7 : tab.lv 29 7 = some 16 := tab_lv (by kernel_rfl)
theorem lv29_8 : tab.lv 29 8 = some 12291 := tab_lv (by kernel_rfl)
theorem lv29_9 : tab.lv 29 9 = some 16 := tab_lv (by kernel_rfl)
theorem lv30_0 : tab.lv 30 0 = some 3 := tab_lv (by kernel_rfl)
theorem lv30_1 : tab.lv 30 1 = some 16 := tab_lv (by kernel_rfl)
theorem lv31_0 : tab.lv 31 0 = some 2 := tab_lv (by kernel_rfl)
theorem lv31_1 : tab.lv 31 1 = some 18 := tab_lv (by kernel_rfl)
theorem lv31_2 : tab.lv 31 2 = some 2066 := tab_lv (by kernel_rfl)
theorem lv31_3 : tab.lv 31 3 = some 12 := tab_lv (by kernel_rfl)
theorem lv31_4 : tab.lv 31 4 = some 34 := tab_lv (by kernel_rfl)
theorem lv31_5 : tab.lv 31 5 = some 114720 := tab_lv (by kernel_rfl)
theorem lv31_6 : tab.lv 31 6 = some 245792 := tab_lv (by kernel_rfl)
theorem lv31_7 : tab.lv 31 7 = some 114912 := tab_lv (by kernel_rfl)
theorem lv31_8 : tab.lv 31 8 = some 8503392 := tab_lv (by kernel_rfl)
theorem lv31_9 : tab.lv 31 9 = some 114720 := tab_lv (by kernel_rfl)
theorem lv31_10 : tab.lv 31 10 = some 114720 := tab_lv (by kernel_rfl)
theorem lv31_11 : tab.lv 31 11 = some 12 := tab_lv (by kernel_rfl)
theorem lv32_0 : tab.lv 32 0 = some 3 := tab_lv (by kernel_rfl)
theorem lv32_1 : tab.lv 32 1 = some 16 := tab_lv (by kernel_rfl)
theorem lv33_0 : tab.lv 33 0 = some 1 := tab_lv (by kernel_rfl)
theorem lv33_1 : tab.lv 33 1 = some 33 := tab_lv (by kernel_rfl)
theorem lv33_2 : tab.lv 33 2 = some 16417 := tab_lv (by kernel_rfl)
theorem lv33_3 : tab.lv 33 3 = some 28 := tab_lv (by kernel_rfl)
theorem lv33_4 : tab.lv 33 4 = some 65 := tab_lv (by kernel_rfl)
theorem lv33_5 : tab.lv 33 5 = some 193 := tab_lv (by kernel_rfl)
theorem lv33_6 : tab.lv 33 6 = some 4194497 := tab_lv (by kernel_rfl)
theorem lv33_7 : tab.lv 33 7 = some 28 := tab_lv (by kernel_rfl)
theorem lv33_8 : tab.lv 33 8 = some 449 := tab_lv (by kernel_rfl)
theorem lv33_9 : tab.lv 33 9 = some 469762305 := tab_lv (by kernel_rfl)
theorem lv33_10 : tab.lv 33 10 = some 1006633217 := tab_lv (by kernel_rfl)
theorem lv33_11 : tab.lv 33 11 = some 469763329 := tab_lv (by kernel_rfl)
theorem lv33_12 : tab.lv 33 12 = some 469762305 := tab_lv (by kernel_rfl)
theorem lv33_13 : tab.lv 33 13 = some 469762305 := tab_lv (by kernel_rfl)
theorem lv33_14 : tab.lv 33 14 = some 28 := tab_lv (by kernel_rfl)
theorem lv34_0 : tab.lv 34 0 = some 0 := tab_lv (by kernel_rfl)
theorem lv34_1 : tab.lv 34 1 = some 10 := tab_lv (by kernel_rfl)
theorem lv34_2 : tab.lv 34 2 = some 1 := tab_lv (by kernel_rfl)
theorem lv35_0 : tab.lv 35 0 = some 20 := tab_lv (by kernel_rfl)
theorem lv35_1 : tab.lv 35 1 = some 16 := tab_lv (by kernel_rfl)
theorem lv35_5 : tab.lv 35 5 = some 16 := tab_lv (by kernel_rfl)
theorem lv36_0 : tab.lv 36 0 = some 1 := tab_lv (by kernel_rfl)
theorem lv36_1 : tab.lv 36 1 = some 129 := tab_lv (by kernel_rfl)
theorem lv36_2 : tab.lv 36 2 = some 1 := tab_lv (by kernel_rfl)
theorem lv36_3 : tab.lv 36 3 = some 9 := tab_lv (by kernel_rfl)
theorem lv36_4 : tab.lv 36 4 = some 25 := tab_lv (by kernel_rfl)
theorem lv36_5 : tab.lv 36 5 = some 32793 := tab_lv (by kernel_rfl)
theorem lv36_6 : tab.lv 36 6 = some 25 := tab_lv (by kernel_rfl)
theorem lv36_7 : tab.lv 36 7 = some 25 := tab_lv (by kernel_rfl)
theorem lv36_8 : tab.lv 36 8 = some 4 := tab_lv (by kernel_rfl)
theorem lv37_0 : tab.lv 37 0 = some 1 := tab_lv (by kernel_rfl)
theorem lv37_1 : tab.lv 37 1 = some 129 := tab_lv (by kernel_rfl)
theorem lv37_2 : tab.lv 37 2 = some 1 := tab_lv (by kernel_rfl)
theorem lv37_3 : tab.lv 37 3 = some 9 := tab_lv (by kernel_rfl)
theorem lv37_4 : tab.lv 37 4 = some 25 := tab_lv (by kernel_rfl)
theorem lv37_5 : tab.lv 37 5 = some 32793 := tab_lv (by kernel_rfl)
theorem lv37_6 : tab.lv 37 6 = some 25 := tab_lv (by kernel_rfl)
theorem lv37_7 : tab.lv 37 7 = some 25 := tab_lv (by kernel_rfl)
theorem lv37_8 : tab.lv 37 8 = some 4 := tab_lv (by kernel_rfl)
theorem lv38_0 : tab.lv 38 0 = some 1 := tab_lv (by kernel_rfl)
theorem lv38_1 : tab.lv 38 1 = some 81 := tab_lv (by kernel_rfl)
theorem lv38_2 : tab.lv 38 2 = some 65617 := tab_lv (by kernel_rfl)
theorem lv38_3 : tab.lv 38 3 = some 12 := tab_lv (by kernel_rfl)
theorem lv38_4 : tab.lv 38 4 = some 145 := tab_lv (by kernel_rfl)
theorem lv38_5 : tab.lv 38 5 = some 1573008 := tab_lv (by kernel_rfl)
theorem lv38_6 : tab.lv 38 6 = some 3670160 := tab_lv (by kernel_rfl)
theorem lv38_7 : tab.lv 38 7 = some 1573264 := tab_lv (by kernel_rfl)
theorem lv38_8 : tab.lv 38 8 = some 1573008 := tab_lv (by kernel_rfl)
theorem lv38_9 : tab.lv 38 9 = some 1573008 := tab_lv (by kernel_rfl)
theorem lv38_10 : tab.lv 38 10 = some 128 := tab_lv (by kernel_rfl)
theorem lv38_11 : tab.lv 38 11 = some 12 := tab_lv (by kernel_rfl)
theorem lv39_0 : tab.lv 39 0 = some 2 := tab_lv (by kernel_rfl)
theorem lv39_1 : tab.lv 39 1 = some 18 := tab_lv (by kernel_rfl)
theorem lv39_2 : tab.lv 39 2 = some 1042 := tab_lv (by kernel_rfl)
theorem lv39_3 : tab.lv 39 3 = some 12 := tab_lv (by kernel_rfl)
theorem lv39_4 : tab.lv 39 4 = some 34 := tab_lv (by kernel_rfl)
theorem lv39_5 : tab.lv 39 5 = some 32 := tab_lv (by kernel_rfl)
theorem lv39_8 : tab.lv 39 8 = some 12 := tab_lv (by kernel_rfl)
theorem lv40_0 : tab.lv 40 0 = some 3 := tab_lv (by kernel_rfl)
theorem lv40_1 : tab.lv 40 1 = some 195 := tab_lv (by kernel_rfl)
theorem lv40_2 : tab.lv 40 2 = some 2097347 := tab_lv (by kernel_rfl)
theorem lv40_3 : tab.lv 40 3 = some 48 := tab_lv (by kernel_rfl)
theorem lv40_4 : tab.lv 40 4 = some 449 := tab_lv (by kernel_rfl)
theorem lv40_5 : tab.lv 40 5 = some 1073742273 := tab_lv (by kernel_rfl)
theorem lv40_6 : tab.lv 40 6 = some 48 := tab_lv (by kernel_rfl)
theorem lv40_7 : tab.lv 40 7 = some 833 := tab_lv (by kernel_rfl)
theorem lv40_8 : tab.lv 40 8 = some 1601 := tab_lv (by kernel_rfl)
theorem lv40_9 : tab.lv 40 9 = some 962072675841 := tab_lv (by kernel_rfl)
theorem lv40_10 : tab.lv 40 10 = some 2061584303617 := tab_lv (by kernel_rfl)
theorem lv40_11 : tab.lv 40 11 = some 962072679937 := tab_lv (by kernel_rfl)
theorem lv40_12 : tab.lv 40 12 = some 282437049390593 := tab_lv (by kernel_rfl)
theorem lv40_13 : tab.lv 40 13 = some 962072675841 := tab_lv (by kernel_rfl)
theorem lv40_14 : tab.lv 40 14 = some 962072675841 := tab_lv (by kernel_rfl)
theorem lv40_15 : tab.lv 40 15 = some 9217 := tab_lv (by kernel_rfl)
theorem lv40_16 : tab.lv 40 16 = some 27021597764232192 := tab_lv (by kernel_rfl)
theorem lv40_17 : tab.lv 40 17 = some 63050394783196160 := tab_lv (by kernel_rfl)
theorem lv40_18 : tab.lv 40 18 = some 27021597764248576 := tab_lv (by kernel_rfl)
theorem lv40_19 : tab.lv 40 19 = some 603482350067672064 := tab_lv (by kernel_rfl)
theorem lv40_20 : tab.lv 40 20 = some 27021597764232192 := tab_lv (by kernel_rfl)
theorem lv40_21 : tab.lv 40 21 = some 27021597764232192 := tab_lv (by kernel_rfl)
theorem lv40_22 : tab.lv 40 22 = some 48 := tab_lv (by kernel_rfl)
theorem lv41_0 : tab.lv 41 0 = some 5 := tab_lv (by kernel_rfl)
theorem lv41_1 : tab.lv 41 1 = some 517 := tab_lv (by kernel_rfl)
theorem lv41_2 : tab.lv 41 2 = some 4 := tab_lv (by kernel_rfl)
theorem lv41_3 : tab.lv 41 3 = some 13 := tab_lv (by kernel_rfl)
theorem lv41_4 : tab.lv 41 4 = some 13 := tab_lv (by kernel_rfl)
theorem lv41_5 : tab.lv 41 5 = some 12 := tab_lv (by kernel_rfl)
theorem lv41_6 : tab.lv 41 6 = some 4 := tab_lv (by kernel_rfl)
theorem lv42_0 : tab.lv 42 0 = some 0 := tab_lv (by kernel_rfl)
theorem lv42_1 : tab.lv 42 1 = some 1 := tab_lv (by kernel_rfl)
theorem lv43_0 : tab.lv 43 0 = some 466 := tab_lv (by kernel_rfl)
theorem lv43_1 : tab.lv 43 1 = some 978 := tab_lv (by kernel_rfl)
theorem lv43_2 : tab.lv 43 2 = some 8389586 := tab_lv (by kernel_rfl)
theorem lv43_3 : tab.lv 43 3 = some 256 := tab_lv (by kernel_rfl)
theorem lv43_4 : tab.lv 43 4 = some 1794 := tab_lv (by kernel_rfl)
theorem lv43_5 : tab.lv 43 5 = some 4294969090 := tab_lv (by kernel_rfl)
theorem lv43_6 : tab.lv 43 6 = some 256 := tab_lv (by kernel_rfl)
theorem lv43_7 : tab.lv 43 7 = some 274877908736 := tab_lv (by kernel_rfl)
theorem lv43_8 : tab.lv 43 8 = some 824633722624 := tab_lv (by kernel_rfl)
theorem lv43_9 : tab.lv 43 9 = some 3328 := tab_lv (by kernel_rfl)
theorem lv43_10 : tab.lv 43 10 = some 17592186047744 := tab_lv (by kernel_rfl)
theorem lv43_11 : tab.lv 43 11 = some 256 := tab_lv (by kernel_rfl)
theorem lv43_12 : tab.lv 43 12 = some 9024791440788736 := tab_lv (by kernel_rfl)
theorem lv43_13 : tab.lv 43 13 = some 256 := tab_lv (by kernel_rfl)
theorem lv43_14 : tab.lv 43 14 = some 288230376151715072 := tab_lv (by kernel_rfl)
theorem lv43_15 : tab.lv 43 15 = some 256 := tab_lv (by kernel_rfl)
theorem lv43_16 : tab.lv 43 16 = some 9223372036854777600 := tab_lv (by kernel_rfl)
theorem lv43_17 : tab.lv 43 17 = some 5888 := tab_lv (by kernel_rfl)
theorem lv43_18 : tab.lv 43 18 = some 13568 := tab_lv (by kernel_rfl)
theorem lv43_19 : tab.lv 43 19 = some 256 := tab_lv (by kernel_rfl)
theorem lv43_20 : tab.lv 43 20 = some 1208925819614629174712064 := tab_lv (by kernel_rfl)
theorem lv43_21 : tab.lv 43 21 = some 256 := tab_lv (by kernel_rfl)
theorem lv43_22 : tab.lv 43 22 = some 77371252455336267181201152 := tab_lv (by kernel_rfl)
theorem lv43_23 : tab.lv 43 23 = some 256 := tab_lv (by kernel_rfl)
theorem lv43_24 : tab.lv 43 24 = some 256 := tab_lv (by kernel_rfl)
theorem lv44_0 : tab.lv 44 0 = some 13 := tab_lv (by kernel_rfl)
theorem lv44_1 : tab.lv 44 1 = some 525 := tab_lv (by kernel_rfl)
theorem lv44_2 : tab.lv 44 2 = some 13 := tab_lv (by kernel_rfl)
theorem lv44_3 : tab.lv 44 3 = some 13 := tab_lv (by kernel_rfl)
theorem lv45_0 : tab.lv 45 0 = some 3 := tab_lv (by kernel_rfl)
theorem lv45_1 : tab.lv 45 1 = some 387 := tab_lv (by kernel_rfl)
theorem lv45_2 : tab.lv 45 2 = some 899 := tab_lv (by kernel_rfl)
theorem lv45_3 : tab.lv 45 3 = some 419 := tab_lv (by kernel_rfl)
theorem lv45_4 : tab.lv 45 4 = some 65955 := tab_lv (by kernel_rfl)
theorem lv45_5 : tab.lv 45 5 = some 16 := tab_lv (by kernel_rfl)
theorem lv45_6 : tab.lv 45 6 = some 387 := tab_lv (by kernel_rfl)
theorem lv45_7 : tab.lv 45 7 = some 16 := tab_lv (by kernel_rfl)
theorem lv46_0 : tab.lv 46 0 = some 6 := tab_lv (by kernel_rfl)
theorem lv46_1 : tab.lv 46 1 = some 8 := tab_lv (by kernel_rfl)
theorem lv47_0 : tab.lv 47 0 = some 3 := tab_lv (by kernel_rfl)
theorem lv47_1 : tab.lv 47 1 = some 32 := tab_lv (by kernel_rfl)
theorem lv47_2 : tab.lv 47 2 = some 229408 := tab_lv (by kernel_rfl)
theorem lv47_3 : tab.lv 47 3 = some 491552 := tab_lv (by kernel_rfl)
theorem lv47_4 : tab.lv 47 4 = some 229600 := tab_lv (by kernel_rfl)
theorem lv47_5 : tab.lv 47 5 = some 229408 := tab_lv (by kernel_rfl)
theorem lv47_6 : tab.lv 47 6 = some 229408 := tab_lv (by kernel_rfl)
theorem lv47_7 : tab.lv 47 7 = some 16 := tab_lv (by kernel_rfl)
theorem lv48_0 : tab.lv 48 0 = some 2 := tab_lv (by kernel_rfl)
theorem lv48_1 : tab.lv 48 1 = some 4 := tab_lv (by kernel_rfl)
theorem lv49_0 : tab.lv 49 0 = some 3 := tab_lv (by kernel_rfl)
theorem lv49_1 : tab.lv 49 1 = some 16 := tab_lv (by kernel_rfl)
theorem lv50_0 : tab.lv 50 0 = some 6 := tab_lv (by kernel_rfl)
theorem lv50_1 : tab.lv 50 1 = some 8 := tab_lv (by kernel_rfl)
theorem lv51_0 : tab.lv 51 0 = some 3 := tab_lv (by kernel_rfl)
theorem lv51_1 : tab.lv 51 1 = some 67 := tab_lv (by kernel_rfl)
theorem lv51_2 : tab.lv 51 2 = some 3 := tab_lv (by kernel_rfl)
theorem lv51_3 : tab.lv 51 3 = some 3 := tab_lv (by kernel_rfl)
theorem lv51_4 : tab.lv 51 4 = some 65539 := tab_lv (by kernel_rfl)
theorem lv51_5 : tab.lv 51 5 = some 1 := tab_lv (by kernel_rfl)
theorem lv51_6 : tab.lv 51 6 = some 16 := tab_lv (by kernel_rfl)
theorem lv52_0 : tab.lv 52 0 = some 2 := tab_lv (by kernel_rfl)
theorem lv52_1 : tab.lv 52 1 = some 10 := tab_lv (by kernel_rfl)
theorem lv52_2 : tab.lv 52 2 = some 266 := tab_lv (by kernel_rfl)
theorem lv52_3 : tab.lv 52 3 = some 4 := tab_lv (by kernel_rfl)
theorem lv52_4 : tab.lv 52 4 = some 134217730 := tab_lv (by kernel_rfl)
theorem lv52_5 : tab.lv 52 5 = some 4 := tab_lv (by kernel_rfl)
theorem lv52_6 : tab.lv 52 6 = some 1073741826 := tab_lv (by kernel_rfl)
theorem lv52_7 : tab.lv 52 7 = some 17179869184 := tab_lv (by kernel_rfl)
theorem lv52_8 : tab.lv 52 8 = some 4 := tab_lv (by kernel_rfl)
theorem lv52_9 : tab.lv 52 9 = some 4 := tab_lv (by kernel_rfl)
theorem lv52_10 : tab.lv 52 10 = some 4 := tab_lv (by kernel_rfl)
theorem lv53_0 : tab.lv 53 0 = some 6 := tab_lv (by kernel_rfl)
theorem lv53_1 : tab.lv 53 1 = some 262 := tab_lv (by kernel_rfl)
theorem lv53_2 : tab.lv 53 2 = some 774 := tab_lv (by kernel_rfl)
theorem lv53_3 : tab.lv 53 3 = some 16 := tab_lv (by kernel_rfl)
theorem lv53_4 : tab.lv 53 4 = some 131078 := tab_lv (by kernel_rfl)
theorem lv53_5 : tab.lv 53 5 = some 64 := tab_lv (by kernel_rfl)
theorem lv53_6 : tab.lv 53 6 = some 16 := tab_lv (by kernel_rfl)
theorem lv53_7 : tab.lv 53 7 = some 16 := tab_lv (by kernel_rfl)
theorem lv54_0 : tab.lv 54 0 = some 1 := tab_lv (by kernel_rfl)
theorem lv54_1 : tab.lv 54 1 = some 1025 := tab_lv (by kernel_rfl)
theorem lv54_2 : tab.lv 54 2 = some 4 := tab_lv (by kernel_rfl)
theorem lv54_3 : tab.lv 54 3 = some 33554432 := tab_lv (by kernel_rfl)
theorem lv54_4 : tab.lv 54 4 = some 4 := tab_lv (by kernel_rfl)
theorem lv54_5 : tab.lv 54 5 = some 4 := tab_lv (by kernel_rfl)
theorem lv55_0 : tab.lv 55 0 = some 2 := tab_lv (by kernel_rfl)
theorem lv55_1 : tab.lv 55 1 = some 8 := tab_lv (by kernel_rfl)
theorem lv55_2 : tab.lv 55 2 = some 4 := tab_lv (by kernel_rfl)
theorem lv56_0 : tab.lv 56 0 = some 14 := tab_lv (by kernel_rfl)
theorem lv56_1 : tab.lv 56 1 = some 388 := tab_lv (by kernel_rfl)
theorem lv56_2 : tab.lv 56 2 = some 65924 := tab_lv (by kernel_rfl)
theorem lv56_3 : tab.lv 56 3 = some 64 := tab_lv (by kernel_rfl)
theorem lv56_4 : tab.lv 56 4 = some 1048576 := tab_lv (by kernel_rfl)
theorem lv56_5 : tab.lv 56 5 = some 64 := tab_lv (by kernel_rfl)
theorem lv56_6 : tab.lv 56 6 = some 64 := tab_lv (by kernel_rfl)
theorem lv57_0 : tab.lv 57 0 = some 3 := tab_lv (by kernel_rfl)
theorem lv57_1 : tab.lv 57 1 = some 387 := tab_lv (by kernel_rfl)
theorem lv57_2 : tab.lv 57 2 = some 899 := tab_lv (by kernel_rfl)
theorem lv57_3 : tab.lv 57 3 = some 419 := tab_lv (by kernel_rfl)
theorem lv57_4 : tab.lv 57 4 = some 65955 := tab_lv (by kernel_rfl)
theorem lv57_5 : tab.lv 57 5 = some 16 := tab_lv (by kernel_rfl)
theorem lv57_6 : tab.lv 57 6 = some 387 := tab_lv (by kernel_rfl)
theorem lv57_7 : tab.lv 57 7 = some 16 := tab_lv (by kernel_rfl)
theorem lv58_0 : tab.lv 58 0 = some 6 := tab_lv (by kernel_rfl)
theorem lv58_1 : tab.lv 58 1 = some 8 := tab_lv (by kernel_rfl)
theorem lv59_0 : tab.lv 59 0 = some 6 := tab_lv (by kernel_rfl)
theorem lv59_1 : tab.lv 59 1 = some 8 := tab_lv (by kernel_rfl)
theorem lv60_0 : tab.lv 60 0 = some 1 := tab_lv (by kernel_rfl)
theorem lv60_1 : tab.lv 60 1 = some 17 := tab_lv (by kernel_rfl)
theorem lv60_2 : tab.lv 60 2 = some 4 := tab_lv (by kernel_rfl)
theorem lv60_3 : tab.lv 60 3 = some 4 := tab_lv (by kernel_rfl)
theorem lv61_0 : tab.lv 61 0 = some 6 := tab_lv (by kernel_rfl)
theorem lv61_1 : tab.lv 61 1 = some 14 := tab_lv (by kernel_rfl)
theorem lv61_2 : tab.lv 61 2 = some 14 := tab_lv (by kernel_rfl)
theorem lv61_3 : tab.lv 61 3 = some 3596 := tab_lv (by kernel_rfl)
theorem lv61_4 : tab.lv 61 4 = some 7692 := tab_lv (by kernel_rfl)
theorem lv61_5 : tab.lv 61 5 = some 3628 := tab_lv (by kernel_rfl)
theorem lv61_6 : tab.lv 61 6 = some 3596 := tab_lv (by kernel_rfl)
theorem lv61_7 : tab.lv 61 7 = some 3596 := tab_lv (by kernel_rfl)
theorem lv61_8 : tab.lv 61 8 = some 4 := tab_lv (by kernel_rfl)
theorem lv62_0 : tab.lv 62 0 = some 2 := tab_lv (by kernel_rfl)
theorem lv62_1 : tab.lv 62 1 = some 34 := tab_lv (by kernel_rfl)
theorem lv62_2 : tab.lv 62 2 = some 16418 := tab_lv (by kernel_rfl)
theorem lv62_3 : tab.lv 62 3 = some 4 := tab_lv (by kernel_rfl)
theorem lv62_4 : tab.lv 62 4 = some 4 := tab_lv (by kernel_rfl)
theorem lv63_0 : tab.lv 63 0 = some 3 := tab_lv (by kernel_rfl)
theorem lv63_1 : tab.lv 63 1 = some 387 := tab_lv (by kernel_rfl)
theorem lv63_2 : tab.lv 63 2 = some 899 := tab_lv (by kernel_rfl)
theorem lv63_3 : tab.lv 63 3 = some 419 := tab_lv (by kernel_rfl)
theorem lv63_4 : tab.lv 63 4 = some 65955 := tab_lv (by kernel_rfl)
theorem lv63_5 : tab.lv 63 5 = some 16 := tab_lv (by kernel_rfl)
theorem lv63_6 : tab.lv 63 6 = some 387 := tab_lv (by kernel_rfl)
theorem lv63_7 : tab.lv 63 7 = some 16 := tab_lv (by kernel_rfl)
theorem lv64_0 : tab.lv 64 0 = some 3 := tab_lv (by kernel_rfl)
theorem lv64_1 : tab.lv 64 1 = some 387 := tab_lv (by kernel_rfl)
theorem lv64_2 : tab.lv 64 2 = some 899 := tab_lv (by kernel_rfl)
theorem lv64_3 : tab.lv 64 3 = some 419 := tab_lv (by kernel_rfl)
theorem lv64_4 : tab.lv 64 4 = some 65955 := tab_lv (by kernel_rfl)
theorem lv64_5 : tab.lv 64 5 = some 16 := tab_lv (by kernel_rfl)
theorem lv64_6 : tab.lv 64 6 = some 387 := tab_lv (by kernel_rfl)
theorem lv64_7 : tab.lv 64 7 = some 16 := tab_lv (by kernel_rfl)
theorem lv65_0 : tab.lv 65 0 = some 1 := tab_lv (by kernel_rfl)
theorem lv65_1 : tab.lv 65 1 = some 9 := tab_lv (by kernel_rfl)
theorem lv65_2 : tab.lv 65 2 = some 57353 := tab_lv (by kernel_rfl)
theorem lv65_3 : tab.lv 65 3 = some 122889 := tab_lv (by kernel_rfl)
theorem lv65_4 : tab.lv 65 4 = some 57385 := tab_lv (by kernel_rfl)
theorem lv65_5 : tab.lv 65 5 = some 57449 := tab_lv (by kernel_rfl)
theorem lv65_6 : tab.lv 65 6 = some 2154601 := tab_lv (by kernel_rfl)
theorem lv65_7 : tab.lv 65 7 = some 57545 := tab_lv (by kernel_rfl)
theorem lv65_8 : tab.lv 65 8 = some 1879105609 := tab_lv (by kernel_rfl)
theorem lv65_9 : tab.lv 65 9 = some 4026589257 := tab_lv (by kernel_rfl)
theorem lv65_10 : tab.lv 65 10 = some 1879106633 := tab_lv (by kernel_rfl)
theorem lv65_11 : tab.lv 65 11 = some 1879107657 := tab_lv (by kernel_rfl)
theorem lv65_12 : tab.lv 65 12 = some 1879105609 := tab_lv (by kernel_rfl)
theorem lv65_13 : tab.lv 65 13 = some 1879105609 := tab_lv (by kernel_rfl)
theorem lv65_14 : tab.lv 65 14 = some 57353 := tab_lv (by kernel_rfl)
theorem lv65_15 : tab.lv 65 15 = some 57353 := tab_lv (by kernel_rfl)
theorem lv65_16 : tab.lv 65 16 = some 4 := tab_lv (by kernel_rfl)
theorem lv66_0 : tab.lv 66 0 = some 1 := tab_lv (by kernel_rfl)
theorem lv66_1 : tab.lv 66 1 = some 9 := tab_lv (by kernel_rfl)
theorem lv66_2 : tab.lv 66 2 = some 49161 := tab_lv (by kernel_rfl)
theorem lv66_3 : tab.lv 66 3 = some 114697 := tab_lv (by kernel_rfl)
theorem lv66_4 : tab.lv 66 4 = some 49177 := tab_lv (by kernel_rfl)
theorem lv66_5 : tab.lv 66 5 = some 49161 := tab_lv (by kernel_rfl)
theorem lv66_6 : tab.lv 66 6 = some 49161 := tab_lv (by kernel_rfl)
theorem lv66_7 : tab.lv 66 7 = some 25165833 := tab_lv (by kernel_rfl)
theorem lv66_8 : tab.lv 66 8 = some 58720265 := tab_lv (by kernel_rfl)
theorem lv66_9 : tab.lv 66 9 = some 494927881 := tab_lv (by kernel_rfl)
theorem lv66_10 : tab.lv 66 10 = some 1031798793 := tab_lv (by kernel_rfl)
theorem lv66_11 : tab.lv 66 11 = some 494927977 := tab_lv (by kernel_rfl)
theorem lv66_12 : tab.lv 66 12 = some 494928105 := tab_lv (by kernel_rfl)
theorem lv66_13 : tab.lv 66 13 = some 60624470185 := tab_lv (by kernel_rfl)
theorem lv66_14 : tab.lv 66 14 = some 129343946921 := tab_lv (by kernel_rfl)
theorem lv66_15 : tab.lv 66 15 = some 60624470697 := tab_lv (by kernel_rfl)
theorem lv66_16 : tab.lv 66 16 = some 8856717492905 := tab_lv (by kernel_rfl)
theorem lv66_17 : tab.lv 66 17 = some 494928041 := tab_lv (by kernel_rfl)
theorem lv66_18 : tab.lv 66 18 = some 60624470185 := tab_lv (by kernel_rfl)
theorem lv66_19 : tab.lv 66 19 = some 60624470185 := tab_lv (by kernel_rfl)
theorem lv66_20 : tab.lv 66 20 = some 494927881 := tab_lv (by kernel_rfl)
theorem lv66_21 : tab.lv 66 21 = some 494927881 := tab_lv (by kernel_rfl)
theorem lv66_22 : tab.lv 66 22 = some 25165833 := tab_lv (by kernel_rfl)
theorem lv66_23 : tab.lv 66 23 = some 4 := tab_lv (by kernel_rfl)
theorem lv67_0 : tab.lv 67 0 = some 3 := tab_lv (by kernel_rfl)
theorem lv67_1 : tab.lv 67 1 = some 16 := tab_lv (by kernel_rfl)
theorem lv68_0 : tab.lv 68 0 = some 1 := tab_lv (by kernel_rfl)
theorem lv68_1 : tab.lv 68 1 = some 4 := tab_lv (by kernel_rfl)
theorem lv69_0 : tab.lv 69 0 = some 3 := tab_lv (by kernel_rfl)
theorem lv69_1 : tab.lv 69 1 = some 35 := tab_lv (by kernel_rfl)
theorem lv69_2 : tab.lv 69 2 = some 99 := tab_lv (by kernel_rfl)
theorem lv69_3 : tab.lv 69 3 = some 16483 := tab_lv (by kernel_rfl)
theorem lv69_4 : tab.lv 69 4 = some 99 := tab_lv (by kernel_rfl)
theorem lv69_5 : tab.lv 69 5 = some 29360227 := tab_lv (by kernel_rfl)
theorem lv69_6 : tab.lv 69 6 = some 62914659 := tab_lv (by kernel_rfl)
theorem lv69_7 : tab.lv 69 7 = some 29360483 := tab_lv (by kernel_rfl)
theorem lv69_8 : tab.lv 69 8 = some 4324327779 := tab_lv (by kernel_rfl)
theorem lv69_9 : tab.lv 69 9 = some 99 := tab_lv (by kernel_rfl)
theorem lv69_10 : tab.lv 69 10 = some 29360227 := tab_lv (by kernel_rfl)
theorem lv69_11 : tab.lv 69 11 = some 16 := tab_lv (by kernel_rfl)
theorem lv70_0 : tab.lv 70 0 = some 3 := tab_lv (by kernel_rfl)
theorem lv70_1 : tab.lv 70 1 = some 1027 := tab_lv (by kernel_rfl)
theorem lv70_2 : tab.lv 70 2 = some 16 := tab_lv (by kernel_rfl)
theorem lv70_3 : tab.lv 70 3 = some 12291 := tab_lv (by kernel_rfl)
theorem lv70_4 : tab.lv 70 4 = some 28675 := tab_lv (by kernel_rfl)
theorem lv70_5 : tab.lv 70 5 = some 12323 := tab_lv (by kernel_rfl)
theorem lv70_6 : tab.lv 70 6 = some 16789507 := tab_lv (by kernel_rfl)
theorem lv70_7 : tab.lv 70 7 = some 16 := tab_lv (by kernel_rfl)
theorem lv70_8 : tab.lv 70 8 = some 12291 := tab_lv (by kernel_rfl)
theorem lv70_9 : tab.lv 70 9 = some 16 := tab_lv (by kernel_rfl)
theorem lv71_0 : tab.lv 71 0 = some 2 := tab_lv (by kernel_rfl)
theorem lv71_1 : tab.lv 71 1 = some 4 := tab_lv (by kernel_rfl)
theorem lv73_0 : tab.lv 73 0 = some 7 := tab_lv (by kernel_rfl)
theorem lv73_1 : tab.lv 73 1 = some 32 := tab_lv (by kernel_rfl)
theorem lv74_0 : tab.lv 74 0 = some 3 := tab_lv (by kernel_rfl)
theorem lv74_1 : tab.lv 74 1 = some 35 := tab_lv (by kernel_rfl)
theorem lv74_2 : tab.lv 74 2 = some 99 := tab_lv (by kernel_rfl)
theorem lv74_3 : tab.lv 74 3 = some 2115 := tab_lv (by kernel_rfl)
theorem lv74_4 : tab.lv 74 4 = some 4096 := tab_lv (by kernel_rfl)
theorem lv74_5 : tab.lv 74 5 = some 16 := tab_lv (by kernel_rfl)
theorem lv74_6 : tab.lv 74 6 = some 16 := tab_lv (by kernel_rfl)
theorem lv74_7 : tab.lv 74 7 = some 8195 := tab_lv (by kernel_rfl)
theorem lv74_8 : tab.lv 74 8 = some 16 := tab_lv (by kernel_rfl)
theorem lv74_9 : tab.lv 74 9 = some 65539 := tab_lv (by kernel_rfl)
theorem lv74_10 : tab.lv 74 10 = some 16 := tab_lv (by kernel_rfl)
theorem lv74_11 : tab.lv 74 11 = some 524288 := tab_lv (by kernel_rfl)
theorem lv74_12 : tab.lv 74 12 = some 16 := tab_lv (by kernel_rfl)
theorem lv74_13 : tab.lv 74 13 = some 16 := tab_lv (by kernel_rfl)
theorem lv75_0 : tab.lv 75 0 = some 2 := tab_lv (by kernel_rfl)
theorem lv75_1 : tab.lv 75 1 = some 26 := tab_lv (by kernel_rfl)
theorem lv75_2 : tab.lv 75 2 = some 2066 := tab_lv (by kernel_rfl)
theorem lv75_3 : tab.lv 75 3 = some 4 := tab_lv (by kernel_rfl)
theorem lv75_4 : tab.lv 75 4 = some 8194 := tab_lv (by kernel_rfl)
theorem lv75_5 : tab.lv 75 5 = some 4 := tab_lv (by kernel_rfl)
theorem lv75_6 : tab.lv 75 6 = some 4 := tab_lv (by kernel_rfl)
theorem lv78_0 : tab.lv 78 0 = some 3 := tab_lv (by kernel_rfl)
theorem lv78_1 : tab.lv 78 1 = some 8 := tab_lv (by kernel_rfl)
theorem lv79_0 : tab.lv 79 0 = some 71 := tab_lv (by kernel_rfl)
theorem lv79_1 : tab.lv 79 1 = some 198 := tab_lv (by kernel_rfl)
theorem lv79_2 : tab.lv 79 2 = some 454 := tab_lv (by kernel_rfl)
theorem lv79_3 : tab.lv 79 3 = some 57794 := tab_lv (by kernel_rfl)
theorem lv79_4 : tab.lv 79 4 = some 123330 := tab_lv (by kernel_rfl)
theorem lv79_5 : tab.lv 79 5 = some 58818 := tab_lv (by kernel_rfl)
theorem lv79_6 : tab.lv 79 6 = some 4253122 := tab_lv (by kernel_rfl)
theorem lv79_7 : tab.lv 79 7 = some 57794 := tab_lv (by kernel_rfl)
theorem lv79_8 : tab.lv 79 8 = some 57794 := tab_lv (by kernel_rfl)
theorem lv79_9 : tab.lv 79 9 = some 137438953922 := tab_lv (by kernel_rfl)
theorem lv79_10 : tab.lv 79 10 = some 64 := tab_lv (by kernel_rfl)
theorem lv79_11 : tab.lv 79 11 = some 64 := tab_lv (by kernel_rfl)
theorem lv80_0 : tab.lv 80 0 = some 159 := tab_lv (by kernel_rfl)
theorem lv80_1 : tab.lv 80 1 = some 414 := tab_lv (by kernel_rfl)
theorem lv80_2 : tab.lv 80 2 = some 57756 := tab_lv (by kernel_rfl)
theorem lv80_3 : tab.lv 80 3 = some 123292 := tab_lv (by kernel_rfl)
theorem lv80_4 : tab.lv 80 4 = some 58780 := tab_lv (by kernel_rfl)
theorem lv80_5 : tab.lv 80 5 = some 57756 := tab_lv (by kernel_rfl)
theorem lv80_6 : tab.lv 80 6 = some 57756 := tab_lv (by kernel_rfl)
theorem lv80_7 : tab.lv 80 7 = some 128 := tab_lv (by kernel_rfl)
theorem lv81_0 : tab.lv 81 0 = some 2 := tab_lv (by kernel_rfl)
theorem lv81_1 : tab.lv 81 1 = some 34 := tab_lv (by kernel_rfl)
theorem lv81_2 : tab.lv 81 2 = some 4 := tab_lv (by kernel_rfl)
theorem lv81_3 : tab.lv 81 3 = some 98 := tab_lv (by kernel_rfl)
theorem lv81_4 : tab.lv 81 4 = some 10 := tab_lv (by kernel_rfl)
theorem lv81_5 : tab.lv 81 5 = some 4106 := tab_lv (by kernel_rfl)
theorem lv81_6 : tab.lv 81 6 = some 4 := tab_lv (by kernel_rfl)
theorem lv81_7 : tab.lv 81 7 = some 16418 := tab_lv (by kernel_rfl)
theorem lv81_8 : tab.lv 81 8 = some 8388610 := tab_lv (by kernel_rfl)
theorem lv81_9 : tab.lv 81 9 = some 4 := tab_lv (by kernel_rfl)
theorem lv81_10 : tab.lv 81 10 = some 16777250 := tab_lv (by kernel_rfl)
theorem lv81_11 : tab.lv 81 11 = some 268435458 := tab_lv (by kernel_rfl)
theorem lv81_12 : tab.lv 81 12 = some 4 := tab_lv (by kernel_rfl)
theorem lv81_13 : tab.lv 81 13 = some 4 := tab_lv (by kernel_rfl)
theorem lv81_14 : tab.lv 81 14 = some 4294967330 := tab_lv (by kernel_rfl)
theorem lv81_15 : tab.lv 81 15 = some 68719476738 := tab_lv (by kernel_rfl)
theorem lv81_16 : tab.lv 81 16 = some 4 := tab_lv (by kernel_rfl)
theorem lv81_17 : tab.lv 81 17 = some 137438953474 := tab_lv (by kernel_rfl)
theorem lv81_18 : tab.lv 81 18 = some 70368744177666 := tab_lv (by kernel_rfl)
theorem lv81_19 : tab.lv 81 19 = some 4 := tab_lv (by kernel_rfl)
theorem lv81_20 : tab.lv 81 20 = some 562949953421312 := tab_lv (by kernel_rfl)
theorem lv81_21 : tab.lv 81 21 = some 4 := tab_lv (by kernel_rfl)
theorem lv81_22 : tab.lv 81 22 = some 4 := tab_lv (by kernel_rfl)
theorem lv82_0 : tab.lv 82 0 = some 3 := tab_lv (by kernel_rfl)
theorem lv82_1 : tab.lv 82 1 = some 387 := tab_lv (by kernel_rfl)
theorem lv82_2 : tab.lv 82 2 = some 899 := tab_lv (by kernel_rfl)
theorem lv82_3 : tab.lv 82 3 = some 419 := tab_lv (by kernel_rfl)
theorem lv82_4 : tab.lv 82 4 = some 65955 := tab_lv (by kernel_rfl)
theorem lv82_5 : tab.lv 82 5 = some 16 := tab_lv (by kernel_rfl)
theorem lv82_6 : tab.lv 82 6 = some 387 := tab_lv (by kernel_rfl)
theorem lv82_7 : tab.lv 82 7 = some 16 := tab_lv (by kernel_rfl)
theorem lv83_0 : tab.lv 83 0 = some 2 := tab_lv (by kernel_rfl)
theorem lv83_1 : tab.lv 83 1 = some 4 := tab_lv (by kernel_rfl)
theorem lv84_0 : tab.lv 84 0 = some 6 := tab_lv (by kernel_rfl)
theorem lv84_1 : tab.lv 84 1 = some 70 := tab_lv (by kernel_rfl)
theorem lv84_2 : tab.lv 84 2 = some 1094 := tab_lv (by kernel_rfl)
theorem lv84_3 : tab.lv 84 3 = some 48 := tab_lv (by kernel_rfl)
theorem lv84_4 : tab.lv 84 4 = some 48 := tab_lv (by kernel_rfl)
theorem lv85_0 : tab.lv 85 0 = some 1 := tab_lv (by kernel_rfl)
theorem lv85_1 : tab.lv 85 1 = some 4 := tab_lv (by kernel_rfl)
theorem lv86_0 : tab.lv 86 0 = some 3 := tab_lv (by kernel_rfl)
theorem lv86_1 : tab.lv 86 1 = some 35 := tab_lv (by kernel_rfl)
theorem lv86_2 : tab.lv 86 2 = some 65571 := tab_lv (by kernel_rfl)
theorem lv86_3 : tab.lv 86 3 = some 35 := tab_lv (by kernel_rfl)
theorem lv86_4 : tab.lv 86 4 = some 16 := tab_lv (by kernel_rfl)
theorem lv87_0 : tab.lv 87 0 = some 1 := tab_lv (by kernel_rfl)
theorem lv87_1 : tab.lv 87 1 = some 4 := tab_lv (by kernel_rfl)
theorem lv88_0 : tab.lv 88 0 = some 1 := tab_lv (by kernel_rfl)
theorem lv88_1 : tab.lv 88 1 = some 4 := tab_lv (by kernel_rfl)
theorem lv89_0 : tab.lv 89 0 = some 1 := tab_lv (by kernel_rfl)
theorem lv89_1 : tab.lv 89 1 = some 8 := tab_lv (by kernel_rfl)
theorem lv89_2 : tab.lv 89 2 = some 24 := tab_lv (by kernel_rfl)
theorem lv89_3 : tab.lv 89 3 = some 24 := tab_lv (by kernel_rfl)
theorem lv89_4 : tab.lv 89 4 = some 24 := tab_lv (by kernel_rfl)
theorem lv89_5 : tab.lv 89 5 = some 24 := tab_lv (by kernel_rfl)
theorem lv89_6 : tab.lv 89 6 = some 24 := tab_lv (by kernel_rfl)
theorem lv89_7 : tab.lv 89 7 = some 24 := tab_lv (by kernel_rfl)
theorem lv89_8 : tab.lv 89 8 = some 16 := tab_lv (by kernel_rfl)
theorem lv89_9 : tab.lv 89 9 = some 4 := tab_lv (by kernel_rfl)
theorem lv89_10 : tab.lv 89 10 = some 4 := tab_lv (by kernel_rfl)
theorem lv90_0 : tab.lv 90 0 = some 3 := tab_lv (by kernel_rfl)
theorem lv90_1 : tab.lv 90 1 = some 387 := tab_lv (by kernel_rfl)
theorem lv90_2 : tab.lv 90 2 = some 899 := tab_lv (by kernel_rfl)
theorem lv90_3 : tab.lv 90 3 = some 419 := tab_lv (by kernel_rfl)
theorem lv90_4 : tab.lv 90 4 = some 65955 := tab_lv (by kernel_rfl)
theorem lv90_5 : tab.lv 90 5 = some 16 := tab_lv (by kernel_rfl)
theorem lv90_6 : tab.lv 90 6 = some 387 := tab_lv (by kernel_rfl)
theorem lv90_7 : tab.lv 90 7 = some 16 := tab_lv (by kernel_rfl)
theorem lv91_0 : tab.lv 91 0 = some 1 := tab_lv (by kernel_rfl)
theorem lv91_1 : tab.lv 91 1 = some 4 := tab_lv (by kernel_rfl)
theorem lv92_0 : tab.lv 92 0 = some 6 := tab_lv (by kernel_rfl)
theorem lv92_1 : tab.lv 92 1 = some 14 := tab_lv (by kernel_rfl)
theorem lv92_2 : tab.lv 92 2 = some 10 := tab_lv (by kernel_rfl)
theorem lv92_3 : tab.lv 92 3 = some 0 := tab_lv (by kernel_rfl)
theorem lv93_0 : tab.lv 93 0 = some 14 := tab_lv (by kernel_rfl)
theorem lv93_1 : tab.lv 93 1 = some 65548 := tab_lv (by kernel_rfl)
theorem lv93_2 : tab.lv 93 2 = some 16 := tab_lv (by kernel_rfl)
theorem lv93_3 : tab.lv 93 3 = some 1835012 := tab_lv (by kernel_rfl)
theorem lv93_4 : tab.lv 93 4 = some 3932164 := tab_lv (by kernel_rfl)
theorem lv93_5 : tab.lv 93 5 = some 1835076 := tab_lv (by kernel_rfl)
theorem lv93_6 : tab.lv 93 6 = some 136052740 := tab_lv (by kernel_rfl)
theorem lv93_7 : tab.lv 93 7 = some 16 := tab_lv (by kernel_rfl)
theorem lv93_8 : tab.lv 93 8 = some 1835012 := tab_lv (by kernel_rfl)
theorem lv93_9 : tab.lv 93 9 = some 16 := tab_lv (by kernel_rfl)
theorem lv94_0 : tab.lv 94 0 = some 71 := tab_lv (by kernel_rfl)
theorem lv94_1 : tab.lv 94 1 = some 455 := tab_lv (by kernel_rfl)
theorem lv94_2 : tab.lv 94 2 = some 8647 := tab_lv (by kernel_rfl)
theorem lv94_3 : tab.lv 94 3 = some 327 := tab_lv (by kernel_rfl)
theorem lv94_4 : tab.lv 94 4 = some 455 := tab_lv (by kernel_rfl)
theorem lv94_5 : tab.lv 94 5 = some 455 := tab_lv (by kernel_rfl)
theorem lv94_6 : tab.lv 94 6 = some 71 := tab_lv (by kernel_rfl)
theorem lv94_7 : tab.lv 94 7 = some 1073741895 := tab_lv (by kernel_rfl)
theorem lv94_8 : tab.lv 94 8 = some 455 := tab_lv (by kernel_rfl)
theorem lv94_9 : tab.lv 94 9 = some 34359738823 := tab_lv (by kernel_rfl)
theorem lv94_10 : tab.lv 94 10 = some 327 := tab_lv (by kernel_rfl)
theorem lv94_11 : tab.lv 94 11 = some 455 := tab_lv (by kernel_rfl)
theorem lv94_12 : tab.lv 94 12 = some 455 := tab_lv (by kernel_rfl)
theorem lv94_13 : tab.lv 94 13 = some 711 := tab_lv (by kernel_rfl)
theorem lv94_14 : tab.lv 94 14 = some 18014398509482695 := tab_lv (by kernel_rfl)
theorem lv94_15 : tab.lv 94 15 = some 71 := tab_lv (by kernel_rfl)
theorem lv94_16 : tab.lv 94 16 = some 71 := tab_lv (by kernel_rfl)
theorem lv95_0 : tab.lv 95 0 = some 1 := tab_lv (by kernel_rfl)
theorem lv95_1 : tab.lv 95 1 = some 4 := tab_lv (by kernel_rfl)
theorem lv96_0 : tab.lv 96 0 = some 2 := tab_lv (by kernel_rfl)
theorem lv96_1 : tab.lv 96 1 = some 50 := tab_lv (by kernel_rfl)
theorem lv96_2 : tab.lv 96 2 = some 14384 := tab_lv (by kernel_rfl)
theorem lv96_3 : tab.lv 96 3 = some 30768 := tab_lv (by kernel_rfl)
theorem lv96_4 : tab.lv 96 4 = some 14512 := tab_lv (by kernel_rfl)
theorem lv96_5 : tab.lv 96 5 = some 15152 := tab_lv (by kernel_rfl)
theorem lv96_6 : tab.lv 96 6 = some 14384 := tab_lv (by kernel_rfl)
theorem lv96_7 : tab.lv 96 7 = some 14384 := tab_lv (by kernel_rfl)
theorem lv96_8 : tab.lv 96 8 = some 12 := tab_lv (by kernel_rfl)
theorem lv97_0 : tab.lv 97 0 = some 2 := tab_lv (by kernel_rfl)
theorem lv97_1 : tab.lv 97 1 = some 10 := tab_lv (by kernel_rfl)
theorem lv97_2 : tab.lv 97 2 = some 1034 := tab_lv (by kernel_rfl)
theorem lv97_3 : tab.lv 97 3 = some 4 := tab_lv (by kernel_rfl)
theorem lv97_4 : tab.lv 97 4 = some 57344 := tab_lv (by kernel_rfl)
theorem lv97_5 : tab.lv 97 5 = some 122880 := tab_lv (by kernel_rfl)
theorem lv97_6 : tab.lv 97 6 = some 57376 := tab_lv (by kernel_rfl)
theorem lv97_7 : tab.lv 97 7 = some 57408 := tab_lv (by kernel_rfl)
theorem lv97_8 : tab.lv 97 8 = some 4251712 := tab_lv (by kernel_rfl)
theorem lv97_9 : tab.lv 97 9 = some 4 := tab_lv (by kernel_rfl)
theorem lv97_10 : tab.lv 97 10 = some 57344 := tab_lv (by kernel_rfl)
theorem lv97_11 : tab.lv 97 11 = some 4 := tab_lv (by kernel_rfl)
theorem lv101_0 : tab.lv 101 0 = some 25 := tab_lv (by kernel_rfl)
theorem lv101_1 : tab.lv 101 1 = some 49 := tab_lv (by kernel_rfl)
theorem lv101_2 : tab.lv 101 2 = some 1072 := tab_lv (by kernel_rfl)
theorem lv101_3 : tab.lv 101 3 = some 48 := tab_lv (by kernel_rfl)
theorem lv101_4 : tab.lv 101 4 = some 16 := tab_lv (by kernel_rfl)
theorem lv102_0 : tab.lv 102 0 = some 1 := tab_lv (by kernel_rfl)
theorem lv102_1 : tab.lv 102 1 = some 256 := tab_lv (by kernel_rfl)
theorem lv102_2 : tab.lv 102 2 = some 4 := tab_lv (by kernel_rfl)
theorem lv102_3 : tab.lv 102 3 = some 4 := tab_lv (by kernel_rfl)
theorem lv103_0 : tab.lv 103 0 = some 1 := tab_lv (by kernel_rfl)
theorem lv103_1 : tab.lv 103 1 = some 65 := tab_lv (by kernel_rfl)
theorem lv103_2 : tab.lv 103 2 = some 4 := tab_lv (by kernel_rfl)
theorem lv103_3 : tab.lv 103 3 = some 769 := tab_lv (by kernel_rfl)
theorem lv103_4 : tab.lv 103 4 = some 1793 := tab_lv (by kernel_rfl)
theorem lv103_5 : tab.lv 103 5 = some 777 := tab_lv (by kernel_rfl)
theorem lv103_6 : tab.lv 103 6 = some 2097921 := tab_lv (by kernel_rfl)
theorem lv103_7 : tab.lv 103 7 = some 4 := tab_lv (by kernel_rfl)
theorem lv103_8 : tab.lv 103 8 = some 769 := tab_lv (by kernel_rfl)
theorem lv103_9 : tab.lv 103 9 = some 4 := tab_lv (by kernel_rfl)
theorem lv104_0 : tab.lv 104 0 = some 14 := tab_lv (by kernel_rfl)
theorem lv104_1 : tab.lv 104 1 = some 262158 := tab_lv (by kernel_rfl)
theorem lv104_2 : tab.lv 104 2 = some 786446 := tab_lv (by kernel_rfl)
theorem lv104_3 : tab.lv 104 3 = some 192 := tab_lv (by kernel_rfl)
theorem lv104_4 : tab.lv 104 4 = some 16777230 := tab_lv (by kernel_rfl)
theorem lv104_5 : tab.lv 104 5 = some 768 := tab_lv (by kernel_rfl)
theorem lv104_6 : tab.lv 104 6 = some 17179869440 := tab_lv (by kernel_rfl)
theorem lv104_7 : tab.lv 104 7 = some 192 := tab_lv (by kernel_rfl)
theorem lv104_8 : tab.lv 104 8 = some 192 := tab_lv (by kernel_rfl)
theorem lv104_9 : tab.lv 104 9 = some 1038 := tab_lv (by kernel_rfl)
theorem lv104_10 : tab.lv 104 10 = some 962072675342 := tab_lv (by kernel_rfl)
theorem lv104_11 : tab.lv 104 11 = some 2061584303118 := tab_lv (by kernel_rfl)
theorem lv104_12 : tab.lv 104 12 = some 962072679438 := tab_lv (by kernel_rfl)
theorem lv104_13 : tab.lv 104 13 = some 962072699918 := tab_lv (by kernel_rfl)
theorem lv104_14 : tab.lv 104 14 = some 2252761886385166 := tab_lv (by kernel_rfl)
theorem lv104_15 : tab.lv 104 15 = some 192 := tab_lv (by kernel_rfl)
theorem lv104_16 : tab.lv 104 16 = some 962072675342 := tab_lv (by kernel_rfl)
theorem lv104_17 : tab.lv 104 17 = some 962072675342 := tab_lv (by kernel_rfl)
theorem lv104_18 : tab.lv 104 18 = some 99336 := tab_lv (by kernel_rfl)
theorem lv104_19 : tab.lv 104 19 = some 36893488147419202568 := tab_lv (by kernel_rfl)
theorem lv104_20 : tab.lv 104 20 = some 192 := tab_lv (by kernel_rfl)
theorem lv104_21 : tab.lv 104 21 = some 37778931862957161710600 := tab_lv (by kernel_rfl)
theorem lv104_22 : tab.lv 104 22 = some 192 := tab_lv (by kernel_rfl)
theorem lv104_23 : tab.lv 104 23 = some 151115727451828646839304 := tab_lv (by kernel_rfl)
theorem lv104_24 : tab.lv 104 24 = some 192 := tab_lv (by kernel_rfl)
theorem lv104_25 : tab.lv 104 25 = some 633825300114114700748351602688 := tab_lv (by kernel_rfl)
theorem lv104_26 : tab.lv 104 26 = some 192 := tab_lv (by kernel_rfl)
theorem lv104_27 : tab.lv 104 27 = some 192 := tab_lv (by kernel_rfl)
theorem lv105_0 : tab.lv 105 0 = some 1 := tab_lv (by kernel_rfl)
theorem lv105_1 : tab.lv 105 1 = some 9 := tab_lv (by kernel_rfl)
theorem lv105_2 : tab.lv 105 2 = some 8 := tab_lv (by kernel_rfl)
theorem lv105_5 : tab.lv 105 5 = some 4 := tab_lv (by kernel_rfl)
theorem lv106_0 : tab.lv 106 0 = some 0 := tab_lv (by kernel_rfl)
theorem lv106_1 : tab.lv 106 1 = some 14 := tab_lv (by kernel_rfl)
theorem lv106_2 : tab.lv 106 2 = some 1 := tab_lv (by kernel_rfl)
theorem lv108_0 : tab.lv 108 0 = some 268435487 := tab_lv (by kernel_rfl)
theorem lv108_1 : tab.lv 108 1 = some 1051 := tab_lv (by kernel_rfl)
theorem lv108_2 : tab.lv 108 2 = some 3091 := tab_lv (by kernel_rfl)
theorem lv108_3 : tab.lv 108 3 = some 8589937683 := tab_lv (by kernel_rfl)
theorem lv108_4 : tab.lv 108 4 = some 7187 := tab_lv (by kernel_rfl)
theorem lv108_5 : tab.lv 108 5 = some 1125899906849811 := tab_lv (by kernel_rfl)
theorem lv108_6 : tab.lv 108 6 = some 3091 := tab_lv (by kernel_rfl)
theorem lv108_7 : tab.lv 108 7 = some 3091 := tab_lv (by kernel_rfl)
theorem lv108_8 : tab.lv 108 8 = some 9217 := tab_lv (by kernel_rfl)
theorem lv108_9 : tab.lv 108 9 = some 288230376151720961 := tab_lv (by kernel_rfl)
theorem lv108_10 : tab.lv 108 10 = some 9217 := tab_lv (by kernel_rfl)
theorem lv108_11 : tab.lv 108 11 = some 9217 := tab_lv (by kernel_rfl)
theorem lv108_12 : tab.lv 108 12 = some 1208925819614629174706207 := tab_lv (by kernel_rfl)
theorem lv108_13 : tab.lv 108 13 = some 16405 := tab_lv (by kernel_rfl)
theorem lv108_14 : tab.lv 108 14 = some 49173 := tab_lv (by kernel_rfl)
theorem lv108_15 : tab.lv 108 15 = some 38685626227668133590646805 := tab_lv (by kernel_rfl)
theorem lv108_16 : tab.lv 108 16 = some 114709 := tab_lv (by kernel_rfl)
theorem lv108_17 : tab.lv 108 17 = some 10141204801825835211973625757717 := tab_lv (by kernel_rfl)
theorem lv108_18 : tab.lv 108 18 = some 49173 := tab_lv (by kernel_rfl)
theorem lv108_19 : tab.lv 108 19 = some 49173 := tab_lv (by kernel_rfl)
theorem lv108_20 : tab.lv 108 20 = some 147457 := tab_lv (by kernel_rfl)
theorem lv108_21 : tab.lv 108 21 = some 1298074214633706907132624082452481 := tab_lv (by kernel_rfl)
theorem lv108_22 : tab.lv 108 22 = some 147457 := tab_lv (by kernel_rfl)
theorem lv108_23 : tab.lv 108 23 = some 147457 := tab_lv (by kernel_rfl)
theorem lv108_24 : tab.lv 108 24 = some 262175 := tab_lv (by kernel_rfl)
theorem lv108_25 : tab.lv 108 25 = some 786463 := tab_lv (by kernel_rfl)
theorem lv108_26 : tab.lv 108 26 = some 786463 := tab_lv (by kernel_rfl)
theorem lv108_27 : tab.lv 108 27 = some 1393796574908163946345982392040522594910239 := tab_lv (by kernel_rfl)
theorem lv108_28 : tab.lv 108 28 = some 1835039 := tab_lv (by kernel_rfl)
theorem lv108_29 : tab.lv 108 29 = some 3932191 := tab_lv (by kernel_rfl)
theorem lv108_30 : tab.lv 108 30 = some 1835039 := tab_lv (by kernel_rfl)
theorem lv108_31 : tab.lv 108 31 = some 3932191 := tab_lv (by kernel_rfl)
theorem lv108_32 : tab.lv 108 32 = some 8126495 := tab_lv (by kernel_rfl)
theorem lv108_33 : tab.lv 108 33 = some 2854495385411919762116571938898990272773619743 := tab_lv (by kernel_rfl)
theorem lv108_34 : tab.lv 108 34 = some 16515103 := tab_lv (by kernel_rfl)
theorem lv108_35 : tab.lv 108 35 = some 2993155353253689176481146537402947624255349864529951 := tab_lv (by kernel_rfl)
theorem lv108_36 : tab.lv 108 36 = some 8126495 := tab_lv (by kernel_rfl)
theorem lv108_37 : tab.lv 108 37 = some 8126495 := tab_lv (by kernel_rfl)
theorem lv108_38 : tab.lv 108 38 = some 18087967 := tab_lv (by kernel_rfl)
theorem lv108_39 : tab.lv 108 39 = some 49039857307708443467467104868809893875799651909893357599 := tab_lv (by kernel_rfl)
theorem lv108_40 : tab.lv 108 40 = some 18087963 := tab_lv (by kernel_rfl)
theorem lv108_41 : tab.lv 108 41 = some 803469022129495137770981046170581301261101496891396435738651 := tab_lv (by kernel_rfl)
theorem lv108_42 : tab.lv 108 42 = some 17039385 := tab_lv (by kernel_rfl)
theorem lv108_43 : tab.lv 108 43 = some 13164036458569648337239753460458804039861886925068638906805911577 := tab_lv (by kernel_rfl)
theorem lv108_44 : tab.lv 108 44 = some 0 := tab_lv (by kernel_rfl)
theorem lv109_0 : tab.lv 109 0 = some 2 := tab_lv (by kernel_rfl)
theorem lv109_1 : tab.lv 109 1 = some 1026 := tab_lv (by kernel_rfl)
theorem lv109_2 : tab.lv 109 2 = some 4 := tab_lv (by kernel_rfl)
theorem lv109_3 : tab.lv 109 3 = some 524290 := tab_lv (by kernel_rfl)
theorem lv109_4 : tab.lv 109 4 = some 4 := tab_lv (by kernel_rfl)
theorem lv109_5 : tab.lv 109 5 = some 2097154 := tab_lv (by kernel_rfl)
theorem lv109_6 : tab.lv 109 6 = some 1073741824 := tab_lv (by kernel_rfl)
theorem lv109_7 : tab.lv 109 7 = some 4 := tab_lv (by kernel_rfl)
theorem lv109_8 : tab.lv 109 8 = some 2149580802 := tab_lv (by kernel_rfl)
theorem lv109_9 : tab.lv 109 9 = some 9007199254740992 := tab_lv (by kernel_rfl)
theorem lv109_10 : tab.lv 109 10 = some 4 := tab_lv (by kernel_rfl)
theorem lv109_11 : tab.lv 109 11 = some 18014398509481986 := tab_lv (by kernel_rfl)
theorem lv109_12 : tab.lv 109 12 = some 36893488147419103232 := tab_lv (by kernel_rfl)
theorem lv109_13 : tab.lv 109 13 = some 4 := tab_lv (by kernel_rfl)
theorem lv109_14 : tab.lv 109 14 = some 4 := tab_lv (by kernel_rfl)
theorem lv113_0 : tab.lv 113 0 = some 2 := tab_lv (by kernel_rfl)
theorem lv113_1 : tab.lv 113 1 = some 4 := tab_lv (by kernel_rfl)
theorem lv114_0 : tab.lv 114 0 = some 1053 := tab_lv (by kernel_rfl)
theorem lv114_1 : tab.lv 114 1 = some 3093 := tab_lv (by kernel_rfl)
theorem lv114_2 : tab.lv 114 2 = some 1051669 := tab_lv (by kernel_rfl)
theorem lv114_3 : tab.lv 114 3 = some 8391701 := tab_lv (by kernel_rfl)
theorem lv114_4 : tab.lv 114 4 = some 3093 := tab_lv (by kernel_rfl)
theorem lv114_5 : tab.lv 114 5 = some 3093 := tab_lv (by kernel_rfl)
theorem lv114_6 : tab.lv 114 6 = some 3093 := tab_lv (by kernel_rfl)
theorem lv114_7 : tab.lv 114 7 = some 3093 := tab_lv (by kernel_rfl)
theorem lv114_8 : tab.lv 114 8 = some 0 := tab_lv (by kernel_rfl)
theorem lv115_0 : tab.lv 115 0 = some 1 := tab_lv (by kernel_rfl)
theorem lv115_1 : tab.lv 115 1 = some 1 := tab_lv (by kernel_rfl)
theorem lv122_0 : tab.lv 122 0 = some 3 := tab_lv (by kernel_rfl)
theorem lv122_1 : tab.lv 122 1 = some 16 := tab_lv (by kernel_rfl)
theorem lv127_0 : tab.lv 127 0 = some 11 := tab_lv (by kernel_rfl)
theorem lv127_1 : tab.lv 127 1 = some 267 := tab_lv (by kernel_rfl)
theorem lv127_2 : tab.lv 127 2 = some 11 := tab_lv (by kernel_rfl)
theorem lv127_3 : tab.lv 127 3 = some 262155 := tab_lv (by kernel_rfl)
theorem lv128_0 : tab.lv 128 0 = some 1039 := tab_lv (by kernel_rfl)
theorem lv128_1 : tab.lv 128 1 = some 9231 := tab_lv (by kernel_rfl)
theorem lv128_2 : tab.lv 128 2 = some 1039 := tab_lv (by kernel_rfl)
theorem lv128_3 : tab.lv 128 3 = some 1039 := tab_lv (by kernel_rfl)
theorem lv134_0 : tab.lv 134 0 = some 1 := tab_lv (by kernel_rfl)
theorem lv134_1 : tab.lv 134 1 = some 4 := tab_lv (by kernel_rfl)
theorem mu23_20 : tab.mutA 23 20 = true := tab_mut (by kernel_rfl)
theorem mu23_22 : tab.mutA 23 22 = true := tab_mut (by kernel_rfl)
theorem mu23_25 : tab.mutA 23 25 = true := tab_mut (by kernel_rfl)
theorem mu23_33 : tab.mutA 23 33 = true := tab_mut (by kernel_rfl)
theorem mu23_70 : tab.mutA 23 70 = true := tab_mut (by kernel_rfl)
theorem mu56_7 : tab.mutA 56 7 = true := tab_mut (by kernel_rfl)
theorem mu65_26 : tab.mutA 65 26 = true := tab_mut (by kernel_rfl)
theorem mu46_39 : tab.mutA 46 39 = false := tab_mut (by kernel_rfl)
theorem mu23_17 : tab.mutA 23 17 = false := tab_mut (by kernel_rfl)
theorem mu56_109 : tab.mutA 56 109 = false := tab_mut (by kernel_rfl)
theorem mu56_23 : tab.mutA 56 23 = false := tab_mut (by kernel_rfl)
theorem mu23_44 : tab.mutA 23 44 = false := tab_mut (by kernel_rfl)
theorem mu56_92 : tab.mutA 56 92 = false := tab_mut (by kernel_rfl)
theorem mu24_125 : tab.mutA 24 125 = false := tab_mut (by kernel_rfl)
theorem mu46_40 : tab.mutA 46 40 = false := tab_mut (by kernel_rfl)
theorem mu46_31 : tab.mutA 46 31 = false := tab_mut (by kernel_rfl)
theorem mu23_29 : tab.mutA 23 29 = false := tab_mut (by kernel_rfl)
theorem mu24_40 : tab.mutA 24 40 = false := tab_mut (by kernel_rfl)
theorem mu56_70 : tab.mutA 56 70 = false := tab_mut (by kernel_rfl)
theorem mu24_23 : tab.mutA 24 23 = false := tab_mut (by kernel_rfl)
theorem mu56_36 : tab.mutA 56 36 = false := tab_mut (by kernel_rfl)
theorem mu65_27 : tab.mutA 65 27 = false := tab_mut (by kernel_rfl)
theorem mu56_39 : tab.mutA 56 39 = false := tab_mut (by kernel_rfl)
theorem mu65_63 : tab.mutA 65 63 = false := tab_mut (by kernel_rfl)
theorem mu9_13 : tab.mutA 9 13 = false := tab_mut (by kernel_rfl)
theorem mu30_20 : tab.mutA 30 20 = false := tab_mut (by kernel_rfl)
theorem mu65_43 : tab.mutA 65 43 = false := tab_mut (by kernel_rfl)
theorem mu105_48 : tab.mutA 105 48 = false := tab_mut (by kernel_rfl)
theorem mu65_18 : tab.mutA 65 18 = false := tab_mut (by kernel_rfl)
theorem mu65_39 : tab.mutA 65 39 = false := tab_mut (by kernel_rfl)
theorem mu56_27 : tab.mutA 56 27 = false := tab_mut (by kernel_rfl)
theorem mu30_28 : tab.mutA 30 28 = false := tab_mut (by kernel_rfl)
theorem mu65_56 : tab.mutA 65 56 = false := tab_mut (by kernel_rfl)
theorem mu65_9 : tab.mutA 65 9 = false := tab_mut (by kernel_rfl)
theorem mu65_12 : tab.mutA 65 12 = false := tab_mut (by kernel_rfl)
theorem mu65_15 : tab.mutA 65 15 = false := tab_mut (by kernel_rfl)
theorem ro3_7_raw_go_91 : tab.ro 3 7 "raw.go:91" = true := tab_ro (by kernel_rfl)
theorem ro9_3_field_go_16 : tab.ro 9 3 "field.go:16" = true := tab_ro (by kernel_rfl)
theorem ro9_3_names_go_46 : tab.ro 9 3 "names.go:46" = true := tab_ro (by kernel_rfl)
theorem ro9_3_page_go_21 : tab.ro 9 3 "page.go:21" = true := tab_ro (by kernel_rfl)
theorem ro9_3_page_go_62 : tab.ro 9 3 "page.go:62" = true := tab_ro (by kernel_rfl)
theorem ro23_1_iter_go_26 : tab.ro 23 1 "iter.go:26" = false := tab_ro (by kernel_rfl)
theorem ro23_6_raw_go_91 : tab.ro 23 6 "raw.go:91" = false := tab_ro (by kernel_rfl)
theorem ro26_1_sheet_go_14 : tab.ro 26 1 "sheet.go:14" = true := tab_ro (by kernel_rfl)
theorem ro26_1_sheet_go_22 : tab.ro 26 1 "sheet.go:22" = true := tab_ro (by kernel_rfl)
theorem ro26_1_sheet_go_36 : tab.ro 26 1 "sheet.go:36" = true := tab_ro (by kernel_rfl)
theorem ro26_2_raw_go_183 : tab.ro 26 2 "raw.go:183" = false := tab_ro (by kernel_rfl)
theorem ro26_2_sheet_go_55 : tab.ro 26 2 "sheet.go:55" = true := tab_ro (by kernel_rfl)
theorem ro29_1_value_go_14 : tab.ro 29 1 "value.go:14" = false := tab_ro (by kernel_rfl)
theorem ro29_1_value_go_68 : tab.ro 29 1 "value.go:68" = false := tab_ro (by kernel_rfl)
theorem ro29_5_field_go_80 : tab.ro 29 5 "field.go:80" = true := tab_ro (by kernel_rfl)
theorem ro32_1_expr_go_40 : tab.ro 32 1 "expr.go:40" = true := tab_ro (by kernel_rfl)
theorem ro32_1_expr_go_50 : tab.ro 32 1 "expr.go:50" = true := tab_ro (by kernel_rfl)
theorem ro32_1_expr_go_75 : tab.ro 32 1 "expr.go:75" = true := tab_ro (by kernel_rfl)
theorem ro32_1_expr_go_88 : tab.ro 32 1 "expr.go:88" = true := tab_ro (by kernel_rfl)
theorem ro32_1_field_go_25 : tab.ro 32 1 "field.go:25" = true := tab_ro (by kernel_rfl)
theorem ro32_1_names_go_15 : tab.ro 32 1 "names.go:15" = true := tab_ro (by kernel_rfl)
theorem ro32_1_names_go_34 : tab.ro 32 1 "names.go:34" = true := tab_ro (by kernel_rfl)
theorem ro32_1_names_go_86 : tab.ro 32 1 "names.go:86" = true := tab_ro (by kernel_rfl)
theorem ro32_2_names_go_46 : tab.ro 32 2 "names.go:46" = true := tab_ro (by kernel_rfl)
theorem ro32_2_typing_go_71 : tab.ro 32 2 "typing.go:71" = true := tab_ro (by kernel_rfl)
theorem ro32_3_names_go_18 : tab.ro 32 3 "names.go:18" = true := tab_ro (by kernel_rfl)
theorem ro32_3_typing_go_28 : tab.ro 32 3 "typing.go:28" = true := tab_ro (by kernel_rfl)
theorem ro32_3_typing_go_79 : tab.ro 32 3 "typing.go:79" = true := tab_ro (by kernel_rfl)
theorem ro34_1_field_go_30 : tab.ro 34 1 "field.go:30" = true := tab_ro (by kernel_rfl)
theorem ro34_2_field_go_17 : tab.ro 34 2 "field.go:17" = true := tab_ro (by kernel_rfl)
theorem ro34_2_field_go_47 : tab.ro 34 2 "field.go:47" = true := tab_ro (by kernel_rfl)
theorem ro41_3_raw_go_53 : tab.ro 41 3 "raw.go:53" = false := tab_ro (by kernel_rfl)
theorem ro41_3_raw_go_67 : tab.ro 41 3 "raw.go:67" = false := tab_ro (by kernel_rfl)
theorem ro41_4_low_go_391 : tab.ro 41 4 "low.go:391" = false := tab_ro (by kernel_rfl)
theorem ro50_2_sheet_go_63 : tab.ro 50 2 "sheet.go:63" = true := tab_ro (by kernel_rfl)
theorem ro58_1_page_go_15 : tab.ro 58 1 "page.go:15" = true := tab_ro (by kernel_rfl)
theorem ro58_2_page_go_22 : tab.ro 58 2 "page.go:22" = true := tab_ro (by kernel_rfl)
theorem ro58_2_page_go_63 : tab.ro 58 2 "page.go:63" = true := tab_ro (by kernel_rfl)
theorem ro78_4_raw_go_91 : tab.ro 78 4 "raw.go:91" = false := tab_ro (by kernel_rfl)
theorem ro80_12_raw_go_184 : tab.ro 80 12 "raw.go:184" = false := tab_ro (by kernel_rfl)
theorem ro80_17_raw_go_148 : tab.ro 80 17 "raw.go:148" = false := tab_ro (by kernel_rfl)
theorem ro129_2_names_go_16 : tab.ro 129 2 "names.go:16" = true := tab_ro (by kernel_rfl)
theorem rs3 : Try.f3.results.toList = [.tmp 2] := rfl
theorem rs4 : Try.f4.results.toList = [.tmp 6] := rfl
theorem rs5 : Try.f5.results.toList = [.tmp 6] := rfl
theorem rs6 : Try.f6.results.toList = [.tmp 4] := rfl
theorem rs7 : Try.f7.results.toList = [.tmp 4] := rfl
theorem rs8 : Try.f8.results.toList = [.tmp 2] := rfl
theorem rs9 : Try.f9.results.toList = [.tmp 2] := rfl
theorem rs10 : Try.f10.results.toList = [.tmp 4] := rfl
theorem rs11 : Try.f11.results.toList = [.tmp 2] := rfl
theorem rs12 : Try.f12.results.toList = [.tmp 2] := rfl
theorem rs13 : Try.f13.results.toList = [.tmp 6] := rfl
theorem rs14 : Try.f14.results.toList = [.cell 2 26] := rfl
theorem rs15 : Try.f15.results.toList = [.tmp 4, .tmp 5] := rfl
theorem rs16 : Try.f16.results.toList = [.cell 0 26] := rfl
theorem rs17 : Try.f17.results.toList = [.cell 4 29] := rfl
theorem rs18 : Try.f18.results.toList = [.tmp 4] := rfl
theorem rs19 : Try.f19.results.toList = [.tmp 6] := rfl
theorem rs20 : Try.f20.results.toList = [.tmp 4] := rfl
theorem rs21 : Try.f21.results.toList = [.tmp 4] := rfl
theorem rs22 : Try.f22.results.toList = [.tmp 2] := rfl
theorem rs23 : Try.f23.results.toList = [.tmp 2] := rfl
theorem rs24 : Try.f24.results.toList = [.tmp 4] := rfl
theorem rs25 : Try.f25.results.toList = [.tmp 4, .tmp 5] := rfl
theorem rs26 : Try.f26.results.toList = [.tmp 4, .tmp 5] := rfl
theorem rs27 : Try.f27.results.toList = [.tmp 2] := rfl
theorem rs28 : Try.f28.results.toList = [.tmp 2, .tmp 3] := rfl
theorem rs29 : Try.f29.results.toList = [.tmp 4] := rfl
theorem rs30 : Try.f30.results.toList = [.tmp 4] := rfl
theorem rs31 : Try.f31.results.toList = [.tmp 2, .tmp 3] := rfl
theorem rs32 : Try.f32.results.toList = [.tmp 4] := rfl
theorem rs33 : Try.f33.results.toList = [.tmp 2, .tmp 3, .tmp 4] := rfl
theorem rs34 : Try.f34.results.toList = [.tmp 0] := rfl
theorem rs35 : Try.f35.results.toList = [.cell 4 4] := rfl
theorem rs36 : Try.f36.results.toList = [.tmp 2] := rfl
theorem rs37 : Try.f37.results.toList = [.tmp 2] := rfl
theorem rs38 : Try.f38.results.toList = [.tmp 2, .tmp 3] := rfl
theorem rs39 : Try.f39.results.toList = [.tmp 2, .tmp 3] := rfl
theorem rs40 : Try.f40.results.toList = [.tmp 4, .tmp 5] := rfl
theorem rs41 : Try.f41.results.toList = [.cell 2 41] := rfl
theorem rs42 : Try.f42.results.toList = [.tmp 0] := rfl
theorem rs43 : Try.f43.results.toList = [.cell 8 32] := rfl
theorem rs44 : Try.f44.results.toList = [] := rfl
theorem rs45 : Try.f45.results.toList = [.tmp 4] := rfl
theorem rs46 : Try.f46.results.toList = [.tmp 3] := rfl
theorem rs47 : Try.f47.results.toList = [.tmp 4] := rfl
theorem rs48 : Try.f48.results.toList = [.tmp 2] := rfl
theorem rs49 : Try.f49.results.toList = [.tmp 4] := rfl
theorem rs50 : Try.f50.results.toList = [.tmp 3] := rfl
theorem rs51 : Try.f51.results.toList = [.tmp 4] := rfl
theorem rs52 : Try.f52.results.toList = [.tmp 2] := rfl
theorem rs53 : Try.f53.results.toList = [.tmp 4] := rfl
theorem rs54 : Try.f54.results.toList = [.tmp 2] := rfl
theorem rs55 : Try.f55.results.toList = [.tmp 2] := rfl
theorem rs56 : Try.f56.results.toList = [.tmp 6] := rfl
theorem rs57 : Try.f57.results.toList = [.tmp 4] := rfl
theorem rs58 : Try.f58.results.toList = [.tmp 3] := rfl
theorem rs59 : Try.f59.results.toList = [.tmp 3] := rfl
theorem rs60 : Try.f60.results.toList = [.tmp 2] := rfl
theorem rs61 : Try.f61.results.toList = [.cell 2 32] := rfl
theorem rs62 : Try.f62.results.toList = [.tmp 2] := rfl
theorem rs63 : Try.f63.results.toList = [.tmp 4] := rfl
theorem rs64 : Try.f64.results.toList = [.tmp 4] := rfl
theorem rs65 : Try.f65.results.toList = [.tmp 2] := rfl
theorem rs66 : Try.f66.results.toList = [.tmp 2] := rfl
theorem rs67 : Try.f67.results.toList = [.tmp 4] := rfl
theorem rs68 : Try.f68.results.toList = [.tmp 2] := rfl
theorem rs69 : Try.f69.results.toList = [.tmp 4] := rfl
theorem rs70 : Try.f70.results.toList = [.tmp 4] := rfl
theorem rs71 : Try.f71.results.toList = [.tmp 2] := rfl
theorem rs73 : Try.f73.results.toList = [.tmp 5] := rfl
theorem rs74 : Try.f74.results.toList = [.tmp 4] := rfl
theorem rs75 : Try.f75.results.toList = [.tmp 2] := rfl
theorem rs78 : Try.f78.results.toList = [.tmp 3] := rfl
theorem rs79 : Try.f79.results.toList = [.cell 6 32] := rfl
theorem rs80 : Try.f80.results.toList = [.cell 7 32] := rfl
theorem rs81 : Try.f81.results.toList = [.tmp 2] := rfl
theorem rs82 : Try.f82.results.toList = [.tmp 4] := rfl
theorem rs83 : Try.f83.results.toList = [.tmp 2] := rfl
theorem rs84 : Try.f84.results.toList = [.tmp 4, .tmp 5] := rfl
theorem rs85 : Try.f85.results.toList = [.tmp 2] := rfl
theorem rs86 : Try.f86.results.toList = [.tmp 4] := rfl
theorem rs87 : Try.f87.results.toList = [.tmp 2] := rfl
theorem rs88 : Try.f88.results.toList = [.tmp 2] := rfl
theorem rs89 : Try.f89.results.toList = [.tmp 2] := rfl
theorem rs90 : Try.f90.results.toList = [.tmp 4] := rfl
theorem rs91 : Try.f91.results.toList = [.tmp 2] := rfl
theorem rs92 : Try.f92.results.toList = [] := rfl
theorem rs93 : Try.f93.results.toList = [.tmp 4] := rfl
theorem rs94 : Try.f94.results.toList = [] := rfl
theorem rs95 : Try.f95.results.toList = [.tmp 2] := rfl
theorem rs96 : Try.f96.results.toList = [.tmp 2, .tmp 3] := rfl
theorem rs97 : Try.f97.results.toList = [.tmp 2] := rfl
theorem rs101 : Try.f101.results.toList = [.cell 4 32] := rfl
theorem rs102 : Try.f102.results.toList = [.tmp 2] := rfl
theorem rs103 : Try.f103.results.toList = [.tmp 2] := rfl
theorem rs104 : Try.f104.results.toList = [.tmp 6, .tmp 7] := rfl
theorem rs105 : Try.f105.results.toList = [.tmp 2] := rfl
theorem rs106 : Try.f106.results.toList = [.tmp 0] := rfl
theorem rs108 : Try.f108.results.toList = [] := rfl
theorem rs109 : Try.f109.results.toList = [.tmp 2] := rfl
theorem rs113 : Try.f113.results.toList = [.tmp 2] := rfl
theorem rs114 : Try.f114.results.toList = [] := rfl
theorem rs115 : Try.f115.results.toList = [.cell 0 157] := rfl
theorem rs122 : Try.f122.results.toList = [.tmp 4] := rfl
theorem rs127 : Try.f127.results.toList = [] := rfl
theorem rs128 : Try.f128.results.toList = [] := rfl
theorem rs134 : Try.f134.results.toList = [.tmp 2] := rfl
end Go.Proofs.Ytnombkkfijlkfaa.Am
