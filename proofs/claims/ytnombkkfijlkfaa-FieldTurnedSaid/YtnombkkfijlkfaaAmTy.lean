/- The table's entries, one by one. Printed by genty.py. -/
import Derived.Test.YtnombkkfijlkfaaAmRule
set_option linter.unusedVariables false
set_option linter.unusedSimpArgs false
namespace Go.Proofs.Ytnombkkfijlkfaa.Am
open Go Go.RowKit
set_option maxRecDepth 100000
theorem und1 : tab.und 1 = some (.func #[] #[] false) := (tab_und 1).trans Try.underlying1
theorem sz1 : size tab 1 = some 1 := by simp only [size, inf1, Option.map]
theorem ag1 : isAgg tab 1 = some false := by simp only [isAgg, und1]
theorem und2 : tab.und 2 = some (.int .i64) := (tab_und 2).trans Try.underlying2
theorem sz2 : size tab 2 = some 1 := by simp only [size, inf2, Option.map]
theorem ag2 : isAgg tab 2 = some false := by simp only [isAgg, und2]
theorem und3 : tab.und 3 = some (.int .i64) := (tab_und 3).trans Try.underlying3
theorem sz3 : size tab 3 = some 1 := by simp only [size, inf3, Option.map]
theorem ag3 : isAgg tab 3 = some false := by simp only [isAgg, und3]
theorem und4 : tab.und 4 = some (.bool) := (tab_und 4).trans Try.underlying4
theorem sz4 : size tab 4 = some 1 := by simp only [size, inf4, Option.map]
theorem ag4 : isAgg tab 4 = some false := by simp only [isAgg, und4]
theorem und5 : tab.und 5 = some (.int .u8) := (tab_und 5).trans Try.underlying5
theorem sz5 : size tab 5 = some 1 := by simp only [size, inf5, Option.map]
theorem ag5 : isAgg tab 5 = some false := by simp only [isAgg, und5]
theorem und9 : tab.und 9 = some (.string) := (tab_und 9).trans Try.underlying9
theorem sz9 : size tab 9 = some 1 := by simp only [size, inf9, Option.map]
theorem ag9 : isAgg tab 9 = some false := by simp only [isAgg, und9]
theorem und10 : tab.und 10 = some (.string) := (tab_und 10).trans Try.underlying10
theorem sz10 : size tab 10 = some 1 := by simp only [size, inf10, Option.map]
theorem ag10 : isAgg tab 10 = some false := by simp only [isAgg, und10]
theorem und22 : tab.und 22 = some (.slice 41) := (tab_und 22).trans Try.underlying22
theorem sz22 : size tab 22 = some 1 := by simp only [size, inf22, Option.map]
theorem ag22 : isAgg tab 22 = some false := by simp only [isAgg, und22]
theorem pT22 {i : Nat} : partType tab 22 i = 41 := by simp only [partType, und22]
theorem und23 : tab.und 23 = some (.slice 34) := (tab_und 23).trans Try.underlying23
theorem sz23 : size tab 23 = some 1 := by simp only [size, inf23, Option.map]
theorem ag23 : isAgg tab 23 = some false := by simp only [isAgg, und23]
theorem pT23 {i : Nat} : partType tab 23 i = 34 := by simp only [partType, und23]
theorem und24 : tab.und 24 = some (.slice 58) := (tab_und 24).trans Try.underlying24
theorem sz24 : size tab 24 = some 1 := by simp only [size, inf24, Option.map]
theorem ag24 : isAgg tab 24 = some false := by simp only [isAgg, und24]
theorem pT24 {i : Nat} : partType tab 24 i = 58 := by simp only [partType, und24]
theorem und26 : tab.und 26 = some (.struct #[{ name := "Fields", type := 23, offset := 0, embedded := false, tag := "", pkgPath := "", byteOffset := 0 }, { name := "Pages", type := 24, offset := 1, embedded := false, tag := "", pkgPath := "", byteOffset := 24 }]) := (tab_und 26).trans Try.underlying26
theorem sz26 : size tab 26 = some 2 := by simp only [size, inf26, Option.map]
theorem ag26 : isAgg tab 26 = some true := by simp only [isAgg, und26]
theorem fo26 : fieldsOf tab 26 = some [{ name := "Fields", type := 23, offset := 0, embedded := false, tag := "", pkgPath := "", byteOffset := 0 }, { name := "Pages", type := 24, offset := 1, embedded := false, tag := "", pkgPath := "", byteOffset := 24 }] := by simp only [fieldsOf, und26]
theorem pl26 : placesL tab [{ name := "Fields", type := 23, offset := 0, embedded := false, tag := "", pkgPath := "", byteOffset := 0 }, { name := "Pages", type := 24, offset := 1, embedded := false, tag := "", pkgPath := "", byteOffset := 24 }] = some [(0, 1), (1, 1)] := by simp only [placesL, sz23, sz24]
theorem bA26 {z : List AV} {ps : List (Nat × AV)} : buildA tab 26 z ps = fillA (fun i => [(0, 1), (1, 1)][i]?) z ps := bA_struct und26 pl26
theorem pT26_0 : partType tab 26 0 = 23 := by simp only [partType, und26]; rfl
theorem pT26_1 : partType tab 26 1 = 24 := by simp only [partType, und26]; rfl
theorem und29 : tab.und 29 = some (.struct #[{ name := "Kind", type := 3, offset := 0, embedded := false, tag := "", pkgPath := "", byteOffset := 0 }, { name := "N", type := 3, offset := 1, embedded := false, tag := "", pkgPath := "", byteOffset := 8 }, { name := "S", type := 9, offset := 2, embedded := false, tag := "", pkgPath := "", byteOffset := 16 }]) := (tab_und 29).trans Try.underlying29
theorem sz29 : size tab 29 = some 3 := by simp only [size, inf29, Option.map]
theorem ag29 : isAgg tab 29 = some true := by simp only [isAgg, und29]
theorem fo29 : fieldsOf tab 29 = some [{ name := "Kind", type := 3, offset := 0, embedded := false, tag := "", pkgPath := "", byteOffset := 0 }, { name := "N", type := 3, offset := 1, embedded := false, tag := "", pkgPath := "", byteOffset := 8 }, { name := "S", type := 9, offset := 2, embedded := false, tag := "", pkgPath := "", byteOffset := 16 }] := by simp only [fieldsOf, und29]
theorem pl29 : placesL tab [{ name := "Kind", type := 3, offset := 0, embedded := false, tag := "", pkgPath := "", byteOffset := 0 }, { name := "N", type := 3, offset := 1, embedded := false, tag := "", pkgPath := "", byteOffset := 8 }, { name := "S", type := 9, offset := 2, embedded := false, tag := "", pkgPath := "", byteOffset := 16 }] = some [(0, 1), (1, 1), (2, 1)] := by simp only [placesL, sz3, sz9]
theorem bA29 {z : List AV} {ps : List (Nat × AV)} : buildA tab 29 z ps = fillA (fun i => [(0, 1), (1, 1), (2, 1)][i]?) z ps := bA_struct und29 pl29
theorem pT29_0 : partType tab 29 0 = 3 := by simp only [partType, und29]; rfl
theorem pT29_1 : partType tab 29 1 = 3 := by simp only [partType, und29]; rfl
theorem pT29_2 : partType tab 29 2 = 9 := by simp only [partType, und29]; rfl
theorem und30 : tab.und 30 = some (.slice 32) := (tab_und 30).trans Try.underlying30
theorem sz30 : size tab 30 = some 1 := by simp only [size, inf30, Option.map]
theorem ag30 : isAgg tab 30 = some false := by simp only [isAgg, und30]
theorem pT30 {i : Nat} : partType tab 30 i = 32 := by simp only [partType, und30]
theorem und32 : tab.und 32 = some (.struct #[{ name := "Op", type := 3, offset := 0, embedded := false, tag := "", pkgPath := "", byteOffset := 0 }, { name := "V", type := 29, offset := 1, embedded := false, tag := "", pkgPath := "", byteOffset := 8 }, { name := "Name", type := 9, offset := 4, embedded := false, tag := "", pkgPath := "", byteOffset := 40 }, { name := "Args", type := 30, offset := 5, embedded := false, tag := "", pkgPath := "", byteOffset := 56 }]) := (tab_und 32).trans Try.underlying32
theorem sz32 : size tab 32 = some 6 := by simp only [size, inf32, Option.map]
theorem ag32 : isAgg tab 32 = some true := by simp only [isAgg, und32]
theorem fo32 : fieldsOf tab 32 = some [{ name := "Op", type := 3, offset := 0, embedded := false, tag := "", pkgPath := "", byteOffset := 0 }, { name := "V", type := 29, offset := 1, embedded := false, tag := "", pkgPath := "", byteOffset := 8 }, { name := "Name", type := 9, offset := 4, embedded := false, tag := "", pkgPath := "", byteOffset := 40 }, { name := "Args", type := 30, offset := 5, embedded := false, tag := "", pkgPath := "", byteOffset := 56 }] := by simp only [fieldsOf, und32]
theorem pl32 : placesL tab [{ name := "Op", type := 3, offset := 0, embedded := false, tag := "", pkgPath := "", byteOffset := 0 }, { name := "V", type := 29, offset := 1, embedded := false, tag := "", pkgPath := "", byteOffset := 8 }, { name := "Name", type := 9, offset := 4, embedded := false, tag := "", pkgPath := "", byteOffset := 40 }, { name := "Args", type := 30, offset := 5, embedded := false, tag := "", pkgPath := "", byteOffset := 56 }] = some [(0, 1), (1, 3), (4, 1), (5, 1)] := by simp only [placesL, sz29, sz3, sz30, sz9]
theorem bA32 {z : List AV} {ps : List (Nat × AV)} : buildA tab 32 z ps = fillA (fun i => [(0, 1), (1, 3), (4, 1), (5, 1)][i]?) z ps := bA_struct und32 pl32
theorem pT32_0 : partType tab 32 0 = 3 := by simp only [partType, und32]; rfl
theorem pT32_1 : partType tab 32 1 = 29 := by simp only [partType, und32]; rfl
theorem pT32_2 : partType tab 32 2 = 9 := by simp only [partType, und32]; rfl
theorem pT32_3 : partType tab 32 3 = 30 := by simp only [partType, und32]; rfl
theorem und34 : tab.und 34 = some (.struct #[{ name := "Name", type := 9, offset := 0, embedded := false, tag := "", pkgPath := "", byteOffset := 0 }, { name := "Kind", type := 3, offset := 1, embedded := false, tag := "", pkgPath := "", byteOffset := 16 }, { name := "Type", type := 3, offset := 2, embedded := false, tag := "", pkgPath := "", byteOffset := 24 }, { name := "Source", type := 32, offset := 3, embedded := false, tag := "", pkgPath := "", byteOffset := 32 }]) := (tab_und 34).trans Try.underlying34
theorem sz34 : size tab 34 = some 9 := by simp only [size, inf34, Option.map]
theorem ag34 : isAgg tab 34 = some true := by simp only [isAgg, und34]
theorem fo34 : fieldsOf tab 34 = some [{ name := "Name", type := 9, offset := 0, embedded := false, tag := "", pkgPath := "", byteOffset := 0 }, { name := "Kind", type := 3, offset := 1, embedded := false, tag := "", pkgPath := "", byteOffset := 16 }, { name := "Type", type := 3, offset := 2, embedded := false, tag := "", pkgPath := "", byteOffset := 24 }, { name := "Source", type := 32, offset := 3, embedded := false, tag := "", pkgPath := "", byteOffset := 32 }] := by simp only [fieldsOf, und34]
theorem pl34 : placesL tab [{ name := "Name", type := 9, offset := 0, embedded := false, tag := "", pkgPath := "", byteOffset := 0 }, { name := "Kind", type := 3, offset := 1, embedded := false, tag := "", pkgPath := "", byteOffset := 16 }, { name := "Type", type := 3, offset := 2, embedded := false, tag := "", pkgPath := "", byteOffset := 24 }, { name := "Source", type := 32, offset := 3, embedded := false, tag := "", pkgPath := "", byteOffset := 32 }] = some [(0, 1), (1, 1), (2, 1), (3, 6)] := by simp only [placesL, sz3, sz32, sz9]
theorem bA34 {z : List AV} {ps : List (Nat × AV)} : buildA tab 34 z ps = fillA (fun i => [(0, 1), (1, 1), (2, 1), (3, 6)][i]?) z ps := bA_struct und34 pl34
theorem pT34_0 : partType tab 34 0 = 9 := by simp only [partType, und34]; rfl
theorem pT34_1 : partType tab 34 1 = 3 := by simp only [partType, und34]; rfl
theorem pT34_2 : partType tab 34 2 = 3 := by simp only [partType, und34]; rfl
theorem pT34_3 : partType tab 34 3 = 32 := by simp only [partType, und34]; rfl
theorem und35 : tab.und 35 = some (.int .i64) := (tab_und 35).trans Try.underlying35
theorem sz35 : size tab 35 = some 1 := by simp only [size, inf35, Option.map]
theorem ag35 : isAgg tab 35 = some false := by simp only [isAgg, und35]
theorem und41 : tab.und 41 = some (.struct #[{ name := "Kind", type := 3, offset := 0, embedded := false, tag := "", pkgPath := "", byteOffset := 0 }, { name := "A", type := 3, offset := 1, embedded := false, tag := "", pkgPath := "", byteOffset := 8 }, { name := "B", type := 3, offset := 2, embedded := false, tag := "", pkgPath := "", byteOffset := 16 }, { name := "Text", type := 9, offset := 3, embedded := false, tag := "", pkgPath := "", byteOffset := 24 }]) := (tab_und 41).trans Try.underlying41
theorem sz41 : size tab 41 = some 4 := by simp only [size, inf41, Option.map]
theorem ag41 : isAgg tab 41 = some true := by simp only [isAgg, und41]
theorem fo41 : fieldsOf tab 41 = some [{ name := "Kind", type := 3, offset := 0, embedded := false, tag := "", pkgPath := "", byteOffset := 0 }, { name := "A", type := 3, offset := 1, embedded := false, tag := "", pkgPath := "", byteOffset := 8 }, { name := "B", type := 3, offset := 2, embedded := false, tag := "", pkgPath := "", byteOffset := 16 }, { name := "Text", type := 9, offset := 3, embedded := false, tag := "", pkgPath := "", byteOffset := 24 }] := by simp only [fieldsOf, und41]
theorem pl41 : placesL tab [{ name := "Kind", type := 3, offset := 0, embedded := false, tag := "", pkgPath := "", byteOffset := 0 }, { name := "A", type := 3, offset := 1, embedded := false, tag := "", pkgPath := "", byteOffset := 8 }, { name := "B", type := 3, offset := 2, embedded := false, tag := "", pkgPath := "", byteOffset := 16 }, { name := "Text", type := 9, offset := 3, embedded := false, tag := "", pkgPath := "", byteOffset := 24 }] = some [(0, 1), (1, 1), (2, 1), (3, 1)] := by simp only [placesL, sz3, sz9]
theorem bA41 {z : List AV} {ps : List (Nat × AV)} : buildA tab 41 z ps = fillA (fun i => [(0, 1), (1, 1), (2, 1), (3, 1)][i]?) z ps := bA_struct und41 pl41
theorem pT41_0 : partType tab 41 0 = 3 := by simp only [partType, und41]; rfl
theorem pT41_1 : partType tab 41 1 = 3 := by simp only [partType, und41]; rfl
theorem pT41_2 : partType tab 41 2 = 3 := by simp only [partType, und41]; rfl
theorem pT41_3 : partType tab 41 3 = 9 := by simp only [partType, und41]; rfl
theorem und56 : tab.und 56 = some (.slice 9) := (tab_und 56).trans Try.underlying56
theorem sz56 : size tab 56 = some 1 := by simp only [size, inf56, Option.map]
theorem ag56 : isAgg tab 56 = some false := by simp only [isAgg, und56]
theorem pT56 {i : Nat} : partType tab 56 i = 9 := by simp only [partType, und56]
theorem und58 : tab.und 58 = some (.struct #[{ name := "Name", type := 9, offset := 0, embedded := false, tag := "", pkgPath := "", byteOffset := 0 }, { name := "Fields", type := 56, offset := 1, embedded := false, tag := "", pkgPath := "", byteOffset := 16 }, { name := "Skip", type := 32, offset := 2, embedded := false, tag := "", pkgPath := "", byteOffset := 40 }]) := (tab_und 58).trans Try.underlying58
theorem sz58 : size tab 58 = some 8 := by simp only [size, inf58, Option.map]
theorem ag58 : isAgg tab 58 = some true := by simp only [isAgg, und58]
theorem fo58 : fieldsOf tab 58 = some [{ name := "Name", type := 9, offset := 0, embedded := false, tag := "", pkgPath := "", byteOffset := 0 }, { name := "Fields", type := 56, offset := 1, embedded := false, tag := "", pkgPath := "", byteOffset := 16 }, { name := "Skip", type := 32, offset := 2, embedded := false, tag := "", pkgPath := "", byteOffset := 40 }] := by simp only [fieldsOf, und58]
theorem pl58 : placesL tab [{ name := "Name", type := 9, offset := 0, embedded := false, tag := "", pkgPath := "", byteOffset := 0 }, { name := "Fields", type := 56, offset := 1, embedded := false, tag := "", pkgPath := "", byteOffset := 16 }, { name := "Skip", type := 32, offset := 2, embedded := false, tag := "", pkgPath := "", byteOffset := 40 }] = some [(0, 1), (1, 1), (2, 6)] := by simp only [placesL, sz32, sz56, sz9]
theorem bA58 {z : List AV} {ps : List (Nat × AV)} : buildA tab 58 z ps = fillA (fun i => [(0, 1), (1, 1), (2, 6)][i]?) z ps := bA_struct und58 pl58
theorem pT58_0 : partType tab 58 0 = 9 := by simp only [partType, und58]; rfl
theorem pT58_1 : partType tab 58 1 = 56 := by simp only [partType, und58]; rfl
theorem pT58_2 : partType tab 58 2 = 32 := by simp only [partType, und58]; rfl
theorem und65 : tab.und 65 = some (.slice 3) := (tab_und 65).trans Try.underlying65
theorem sz65 : size tab 65 = some 1 := by simp only [size, inf65, Option.map]
theorem ag65 : isAgg tab 65 = some false := by simp only [isAgg, und65]
theorem pT65 {i : Nat} : partType tab 65 i = 3 := by simp only [partType, und65]
theorem und78 : tab.und 78 = some (.pointer 80) := (tab_und 78).trans Try.underlying78
theorem sz78 : size tab 78 = some 1 := by simp only [size, inf78, Option.map]
theorem ag78 : isAgg tab 78 = some false := by simp only [isAgg, und78]
theorem und80 : tab.und 80 = some (.struct #[{ name := "l", type := 22, offset := 0, embedded := false, tag := "", pkgPath := "lychway/lychwaykeep", byteOffset := 0 }, { name := "at", type := 3, offset := 1, embedded := false, tag := "", pkgPath := "lychway/lychwaykeep", byteOffset := 24 }]) := (tab_und 80).trans Try.underlying80
theorem sz80 : size tab 80 = some 2 := by simp only [size, inf80, Option.map]
theorem ag80 : isAgg tab 80 = some true := by simp only [isAgg, und80]
theorem fo80 : fieldsOf tab 80 = some [{ name := "l", type := 22, offset := 0, embedded := false, tag := "", pkgPath := "lychway/lychwaykeep", byteOffset := 0 }, { name := "at", type := 3, offset := 1, embedded := false, tag := "", pkgPath := "lychway/lychwaykeep", byteOffset := 24 }] := by simp only [fieldsOf, und80]
theorem pl80 : placesL tab [{ name := "l", type := 22, offset := 0, embedded := false, tag := "", pkgPath := "lychway/lychwaykeep", byteOffset := 0 }, { name := "at", type := 3, offset := 1, embedded := false, tag := "", pkgPath := "lychway/lychwaykeep", byteOffset := 24 }] = some [(0, 1), (1, 1)] := by simp only [placesL, sz22, sz3]
theorem bA80 {z : List AV} {ps : List (Nat × AV)} : buildA tab 80 z ps = fillA (fun i => [(0, 1), (1, 1)][i]?) z ps := bA_struct und80 pl80
theorem pT80_0 : partType tab 80 0 = 22 := by simp only [partType, und80]; rfl
theorem pT80_1 : partType tab 80 1 = 3 := by simp only [partType, und80]; rfl
theorem und84 : tab.und 84 = some (.slice 5) := (tab_und 84).trans Try.underlying84
theorem sz84 : size tab 84 = some 1 := by simp only [size, inf84, Option.map]
theorem ag84 : isAgg tab 84 = some false := by simp only [isAgg, und84]
theorem pT84 {i : Nat} : partType tab 84 i = 5 := by simp only [partType, und84]
theorem und87 : tab.und 87 = some (.func #[34] #[4] false) := (tab_und 87).trans Try.underlying87
theorem sz87 : size tab 87 = some 1 := by simp only [size, inf87, Option.map]
theorem ag87 : isAgg tab 87 = some false := by simp only [isAgg, und87]
theorem und92 : tab.und 92 = some (.slice 23) := (tab_und 92).trans Try.underlying92
theorem sz92 : size tab 92 = some 1 := by simp only [size, inf92, Option.map]
theorem ag92 : isAgg tab 92 = some false := by simp only [isAgg, und92]
theorem pT92 {i : Nat} : partType tab 92 i = 23 := by simp only [partType, und92]
theorem und122 : tab.und 122 = some (.func #[3, 65] #[32] true) := (tab_und 122).trans Try.underlying122
theorem sz122 : size tab 122 = some 1 := by simp only [size, inf122, Option.map]
theorem ag122 : isAgg tab 122 = some false := by simp only [isAgg, und122]
theorem und127 : tab.und 127 = some (.func #[5] #[4] false) := (tab_und 127).trans Try.underlying127
theorem sz127 : size tab 127 = some 1 := by simp only [size, inf127, Option.map]
theorem ag127 : isAgg tab 127 = some false := by simp only [isAgg, und127]
theorem und150 : tab.und 150 = some (.struct #[{ name := "args", type := 65, offset := 0, embedded := false, tag := "", pkgPath := "lychway/typing", byteOffset := 0 }, { name := "own", type := 3, offset := 1, embedded := false, tag := "", pkgPath := "lychway/typing", byteOffset := 24 }]) := (tab_und 150).trans Try.underlying150
theorem sz150 : size tab 150 = some 2 := by simp only [size, inf150, Option.map]
theorem ag150 : isAgg tab 150 = some true := by simp only [isAgg, und150]
theorem fo150 : fieldsOf tab 150 = some [{ name := "args", type := 65, offset := 0, embedded := false, tag := "", pkgPath := "lychway/typing", byteOffset := 0 }, { name := "own", type := 3, offset := 1, embedded := false, tag := "", pkgPath := "lychway/typing", byteOffset := 24 }] := by simp only [fieldsOf, und150]
theorem pl150 : placesL tab [{ name := "args", type := 65, offset := 0, embedded := false, tag := "", pkgPath := "lychway/typing", byteOffset := 0 }, { name := "own", type := 3, offset := 1, embedded := false, tag := "", pkgPath := "lychway/typing", byteOffset := 24 }] = some [(0, 1), (1, 1)] := by simp only [placesL, sz3, sz65]
theorem bA150 {z : List AV} {ps : List (Nat × AV)} : buildA tab 150 z ps = fillA (fun i => [(0, 1), (1, 1)][i]?) z ps := bA_struct und150 pl150
theorem pT150_0 : partType tab 150 0 = 65 := by simp only [partType, und150]; rfl
theorem pT150_1 : partType tab 150 1 = 3 := by simp only [partType, und150]; rfl
theorem und156 : tab.und 156 = some (.struct #[{ name := "sign", type := 9, offset := 0, embedded := false, tag := "", pkgPath := "lychway/expr", byteOffset := 0 }, { name := "level", type := 3, offset := 1, embedded := false, tag := "", pkgPath := "lychway/expr", byteOffset := 16 }, { name := "args", type := 3, offset := 2, embedded := false, tag := "", pkgPath := "lychway/expr", byteOffset := 24 }]) := (tab_und 156).trans Try.underlying156
theorem sz156 : size tab 156 = some 3 := by simp only [size, inf156, Option.map]
theorem ag156 : isAgg tab 156 = some true := by simp only [isAgg, und156]
theorem fo156 : fieldsOf tab 156 = some [{ name := "sign", type := 9, offset := 0, embedded := false, tag := "", pkgPath := "lychway/expr", byteOffset := 0 }, { name := "level", type := 3, offset := 1, embedded := false, tag := "", pkgPath := "lychway/expr", byteOffset := 16 }, { name := "args", type := 3, offset := 2, embedded := false, tag := "", pkgPath := "lychway/expr", byteOffset := 24 }] := by simp only [fieldsOf, und156]
theorem pl156 : placesL tab [{ name := "sign", type := 9, offset := 0, embedded := false, tag := "", pkgPath := "lychway/expr", byteOffset := 0 }, { name := "level", type := 3, offset := 1, embedded := false, tag := "", pkgPath := "lychway/expr", byteOffset := 16 }, { name := "args", type := 3, offset := 2, embedded := false, tag := "", pkgPath := "lychway/expr", byteOffset := 24 }] = some [(0, 1), (1, 1), (2, 1)] := by simp only [placesL, sz3, sz9]
theorem bA156 {z : List AV} {ps : List (Nat × AV)} : buildA tab 156 z ps = fillA (fun i => [(0, 1), (1, 1), (2, 1)][i]?) z ps := bA_struct und156 pl156
theorem pT156_0 : partType tab 156 0 = 9 := by simp only [partType, und156]; rfl
theorem pT156_1 : partType tab 156 1 = 3 := by simp only [partType, und156]; rfl
theorem pT156_2 : partType tab 156 2 = 3 := by simp only [partType, und156]; rfl
theorem und157 : tab.und 157 = some (.array 19 156) := (tab_und 157).trans Try.underlying157
theorem sz157 : size tab 157 = some 57 := by simp only [size, inf157, Option.map]
theorem ag157 : isAgg tab 157 = some true := by simp only [isAgg, und157]
theorem bA157 {z : List AV} {ps : List (Nat × AV)} : buildA tab 157 z ps = fillA (fun i => some (i * 3, 3)) z ps := by simp only [buildA, und157, sz156]
theorem pT157 {i : Nat} : partType tab 157 i = 156 := by simp only [partType, und157]
theorem und138 : tab.und 138 = some (.map 9 3) := (tab_und 138).trans Try.underlying138
theorem und140 : tab.und 140 = some (.map 3 150) := (tab_und 140).trans Try.underlying140
theorem lv2 : leaves tab 8 2 = some [.int .i64] := by (simp [leaves, leavesF, sized, tab_cmp, cmpsL, tab, und2, sz2]; try rfl)
theorem lv3 : leaves tab 8 3 = some [.int .i64] := by (simp [leaves, leavesF, sized, tab_cmp, cmpsL, tab, und3, sz3]; try rfl)
theorem lv4 : leaves tab 8 4 = some [.bool] := by (simp [leaves, leavesF, sized, tab_cmp, cmpsL, tab, und4, sz4]; try rfl)
theorem lv5 : leaves tab 8 5 = some [.int .u8] := by (simp [leaves, leavesF, sized, tab_cmp, cmpsL, tab, und5, sz5]; try rfl)
theorem lv9 : leaves tab 8 9 = some [.string] := by (simp [leaves, leavesF, sized, tab_cmp, cmpsL, tab, und9, sz9]; try rfl)
theorem lv10 : leaves tab 8 10 = some [.string] := by (simp [leaves, leavesF, sized, tab_cmp, cmpsL, tab, und10, sz10]; try rfl)
theorem lv29 : leaves tab 8 29 = some [.int .i64, .int .i64, .string] := by (simp [leaves, leavesF, sized, tab_cmp, cmpsL, tab, und3, sz3, und9, sz9, und29, sz29]; try rfl)
theorem lv35 : leaves tab 8 35 = some [.int .i64] := by (simp [leaves, leavesF, sized, tab_cmp, cmpsL, tab, und35, sz35]; try rfl)
theorem kp14_23 : tab.keep 14 23 = some ([2, 3, 4, 5, 9, 10, 11, 12, 77, 78, 91, 92, 93], [2, 4, 5, 11, 12, 17, 70, 109, 125]) := tab_keep (by kernel_rfl)
theorem kp14_18 : tab.keep 14 18 = some ([2, 3, 4, 5, 9, 77, 78], [2, 4, 5, 17, 70, 125]) := tab_keep (by kernel_rfl)
theorem kp14_5 : tab.keep 14 5 = some ([2, 3, 4, 5, 25, 26], [2, 4, 5, 17, 70]) := tab_keep (by kernel_rfl)
theorem kp22_11 : tab.keep 22 11 = some ([6, 25, 26, 27], [22, 24, 33]) := tab_keep (by kernel_rfl)
theorem kp22_3 : tab.keep 22 3 = some ([0, 3, 9, 10, 11], [10, 17, 24, 26, 33]) := tab_keep (by kernel_rfl)
theorem kp23_14 : tab.keep 23 14 = some ([0, 38, 39, 40], [4, 12, 15, 22, 32, 39, 46]) := tab_keep (by kernel_rfl)
theorem kp23_4 : tab.keep 23 4 = some ([0, 14, 15, 16], [9, 12, 15, 22, 32, 39, 46]) := tab_keep (by kernel_rfl)
theorem kp44_1 : tab.keep 44 1 = some ([0, 2, 3], [5]) := tab_keep (by kernel_rfl)
theorem kp45_2 : tab.keep 45 2 = some ([0, 1, 7, 8], [7, 16]) := tab_keep (by kernel_rfl)
theorem kp47_3 : tab.keep 47 3 = some ([5, 15, 16, 17], [10, 12, 14, 16, 30]) := tab_keep (by kernel_rfl)
theorem kp70_4 : tab.keep 70 4 = some ([0, 1, 12, 13], [7, 9, 12]) := tab_keep (by kernel_rfl)
theorem kp79_4 : tab.keep 79 4 = some ([1, 6, 7, 8, 13, 14, 15], [6, 7, 12, 14, 27, 30, 35, 40, 45, 46]) := tab_keep (by kernel_rfl)
theorem kp80_3 : tab.keep 80 3 = some ([2, 3, 4, 7, 8, 13, 14, 15], [7, 8, 14, 26, 28]) := tab_keep (by kernel_rfl)
theorem kp86_2 : tab.keep 86 2 = some ([0, 1, 5], [8, 15]) := tab_keep (by kernel_rfl)
theorem kp96_3 : tab.keep 96 3 = some ([4, 5, 11, 12, 13], [1, 12, 19, 27]) := tab_keep (by kernel_rfl)
theorem kp97_5 : tab.keep 97 5 = some ([13, 14, 15], [1, 8, 14, 20]) := tab_keep (by kernel_rfl)
theorem kp103_4 : tab.keep 103 4 = some ([0, 8, 9], [5, 8]) := tab_keep (by kernel_rfl)
theorem kp104_11 : tab.keep 104 11 = some ([1, 2, 3, 10, 37, 38, 39], [3, 15, 38, 47, 56, 71]) := tab_keep (by kernel_rfl)
theorem dr6_3 : tab.drw 6 3 = some [[], [], [], [], [], [], [], [], []] := tab_drw (by kernel_rfl)
theorem dr14_4 : tab.drw 14 4 = some [[], [], [0, 1], [], [], [], []] := tab_drw (by kernel_rfl)
theorem dr14_8 : tab.drw 14 8 = some [[], [], [], [], [0], [0], [2, 3], [], [0, 6], [0, 6], [2, 3], [], [], [0, 2, 3, 4, 5, 6, 8, 9, 10], []] := tab_drw (by kernel_rfl)
theorem dr14_13 : tab.drw 14 13 = some [[], [], [], [], [], [3], [3], [], [], []] := tab_drw (by kernel_rfl)
theorem dr23_9 : tab.drw 23 9 = some [[], [], [], [], [], [], [], [], [], [], []] := tab_drw (by kernel_rfl)
theorem dr41_3 : tab.drw 41 3 = some [[], [], [], [], [], [], [], [], [], [], [], [], [], [], [], [], [1, 2, 3, 5, 6, 7, 9, 10, 11, 12, 14, 15], []] := tab_drw (by kernel_rfl)
theorem dr41_4 : tab.drw 41 4 = some [[], [], [], [], [], [], [], [], [], [], [], [], [], [], []] := tab_drw (by kernel_rfl)
theorem dr44_3 : tab.drw 44 3 = some [[], [], [], [], [], [], [], [], [], [], [], [], [], [], [], []] := tab_drw (by kernel_rfl)
theorem dr70_6 : tab.drw 70 6 = some [[], [], [], [], [], [], [], [], []] := tab_drw (by kernel_rfl)
theorem dr80_5 : tab.drw 80 5 = some [[], [], [], [], [], [], [], [0, 1], [], [], [], []] := tab_drw (by kernel_rfl)
theorem dr84_4 : tab.drw 84 4 = some [[], [], [0], [0], [], [], [], [], []] := tab_drw (by kernel_rfl)
theorem dr104_23 : tab.drw 104 23 = some [[], [], [], [], [], [], [], [], [], [], [], [], [], [], [], [], [], [], []] := tab_drw (by kernel_rfl)
theorem dr104_25 : tab.drw 104 25 = some [[], [], [], [], [], [], [], [], [], [], [], [], []] := tab_drw (by kernel_rfl)
theorem dr109_3 : tab.drw 109 3 = some [[], [], [], [0, 1, 2], [3], [3], [], [], []] := tab_drw (by kernel_rfl)
theorem lv6_0 : tab.lv 6 0 = some 3 := tab_lv (by kernel_rfl)
theorem lv6_1 : tab.lv 6 1 = some 34 := tab_lv (by kernel_rfl)
theorem lv6_2 : tab.lv 6 2 = some 96 := tab_lv (by kernel_rfl)
theorem lv6_3 : tab.lv 6 3 = some 160 := tab_lv (by kernel_rfl)
theorem lv6_4 : tab.lv 6 4 = some 67109024 := tab_lv (by kernel_rfl)
theorem lv6_5 : tab.lv 6 5 = some 16 := tab_lv (by kernel_rfl)
theorem lv6_6 : tab.lv 6 6 = some 16 := tab_lv (by kernel_rfl)
theorem lv14_0 : tab.lv 14 0 = some 5 := tab_lv (by kernel_rfl)
theorem lv14_1 : tab.lv 14 1 = some 12 := tab_lv (by kernel_rfl)
theorem lv14_2 : tab.lv 14 2 = some 28 := tab_lv (by kernel_rfl)
theorem lv14_3 : tab.lv 14 3 = some 60 := tab_lv (by kernel_rfl)
theorem lv14_4 : tab.lv 14 4 = some 100663356 := tab_lv (by kernel_rfl)
theorem lv14_5 : tab.lv 14 5 = some 234881084 := tab_lv (by kernel_rfl)
theorem lv14_6 : tab.lv 14 6 = some 100663420 := tab_lv (by kernel_rfl)
theorem lv14_7 : tab.lv 14 7 = some 100663548 := tab_lv (by kernel_rfl)
theorem lv14_8 : tab.lv 14 8 = some 100663740 := tab_lv (by kernel_rfl)
theorem lv14_9 : tab.lv 14 9 = some 35184472752572 := tab_lv (by kernel_rfl)
theorem lv14_10 : tab.lv 14 10 = some 105553216930236 := tab_lv (by kernel_rfl)
theorem lv14_11 : tab.lv 14 11 = some 100663612 := tab_lv (by kernel_rfl)
theorem lv14_12 : tab.lv 14 12 = some 36028797119627708 := tab_lv (by kernel_rfl)
theorem lv14_13 : tab.lv 14 13 = some 100663612 := tab_lv (by kernel_rfl)
theorem lv14_14 : tab.lv 14 14 = some 100663356 := tab_lv (by kernel_rfl)
theorem lv14_15 : tab.lv 14 15 = some 100663356 := tab_lv (by kernel_rfl)
theorem lv14_16 : tab.lv 14 16 = some 572 := tab_lv (by kernel_rfl)
theorem lv14_17 : tab.lv 14 17 = some 453347182355485940515388 := tab_lv (by kernel_rfl)
theorem lv14_18 : tab.lv 14 18 = some 1057810092162800527868476 := tab_lv (by kernel_rfl)
theorem lv14_19 : tab.lv 14 19 = some 453347182355485940516412 := tab_lv (by kernel_rfl)
theorem lv14_20 : tab.lv 14 20 = some 453347182355485940518460 := tab_lv (by kernel_rfl)
theorem lv14_21 : tab.lv 14 21 = some 453347182355485940522556 := tab_lv (by kernel_rfl)
theorem lv14_22 : tab.lv 14 22 = some 17331613897177679334528261692 := tab_lv (by kernel_rfl)
theorem lv14_23 : tab.lv 14 23 = some 37138654525743763732914249276 := tab_lv (by kernel_rfl)
theorem lv14_24 : tab.lv 14 24 = some 17331613897177679334528286268 := tab_lv (by kernel_rfl)
theorem lv14_25 : tab.lv 14 25 = some 10158536415723012891308153921084 := tab_lv (by kernel_rfl)
theorem lv14_26 : tab.lv 14 26 = some 17331613897177679334528261692 := tab_lv (by kernel_rfl)
theorem lv14_27 : tab.lv 14 27 = some 17331613897177679334528261692 := tab_lv (by kernel_rfl)
theorem lv14_28 : tab.lv 14 28 = some 41538374868731968210599456574280252 := tab_lv (by kernel_rfl)
theorem lv14_29 : tab.lv 14 29 = some 453347182355485940519484 := tab_lv (by kernel_rfl)
theorem lv14_30 : tab.lv 14 30 = some 453347182355485940515388 := tab_lv (by kernel_rfl)
theorem lv14_31 : tab.lv 14 31 = some 453347182355485940515388 := tab_lv (by kernel_rfl)
theorem lv14_32 : tab.lv 14 32 = some 2722258935367507707706996859454145691668 := tab_lv (by kernel_rfl)
theorem lv14_33 : tab.lv 14 33 = some 20 := tab_lv (by kernel_rfl)
theorem lv14_34 : tab.lv 14 34 = some 4 := tab_lv (by kernel_rfl)
theorem lv15_0 : tab.lv 15 0 = some 9 := tab_lv (by kernel_rfl)
theorem lv15_1 : tab.lv 15 1 = some 64 := tab_lv (by kernel_rfl)
theorem lv15_2 : tab.lv 15 2 = some 2112 := tab_lv (by kernel_rfl)
theorem lv15_3 : tab.lv 15 3 = some 48 := tab_lv (by kernel_rfl)
theorem lv15_4 : tab.lv 15 4 = some 48 := tab_lv (by kernel_rfl)
theorem lv17_0 : tab.lv 17 0 = some 25 := tab_lv (by kernel_rfl)
theorem lv17_1 : tab.lv 17 1 = some 56 := tab_lv (by kernel_rfl)
theorem lv17_2 : tab.lv 17 2 = some 120 := tab_lv (by kernel_rfl)
theorem lv17_3 : tab.lv 17 3 = some 2072 := tab_lv (by kernel_rfl)
theorem lv17_4 : tab.lv 17 4 = some 16 := tab_lv (by kernel_rfl)
theorem lv17_5 : tab.lv 17 5 = some 16 := tab_lv (by kernel_rfl)
theorem lv17_6 : tab.lv 17 6 = some 4194328 := tab_lv (by kernel_rfl)
theorem lv17_7 : tab.lv 17 7 = some 16 := tab_lv (by kernel_rfl)
theorem lv17_8 : tab.lv 17 8 = some 16 := tab_lv (by kernel_rfl)
theorem lv18_0 : tab.lv 18 0 = some 3 := tab_lv (by kernel_rfl)
theorem lv18_1 : tab.lv 18 1 = some 67 := tab_lv (by kernel_rfl)
theorem lv18_2 : tab.lv 18 2 = some 3 := tab_lv (by kernel_rfl)
theorem lv18_3 : tab.lv 18 3 = some 16 := tab_lv (by kernel_rfl)
theorem lv22_0 : tab.lv 22 0 = some 1 := tab_lv (by kernel_rfl)
theorem lv22_1 : tab.lv 22 1 = some 9 := tab_lv (by kernel_rfl)
theorem lv22_2 : tab.lv 22 2 = some 3593 := tab_lv (by kernel_rfl)
theorem lv22_3 : tab.lv 22 3 = some 7689 := tab_lv (by kernel_rfl)
theorem lv22_4 : tab.lv 22 4 = some 3625 := tab_lv (by kernel_rfl)
theorem lv22_5 : tab.lv 22 5 = some 3593 := tab_lv (by kernel_rfl)
theorem lv22_6 : tab.lv 22 6 = some 1052169 := tab_lv (by kernel_rfl)
theorem lv22_7 : tab.lv 22 7 = some 3593 := tab_lv (by kernel_rfl)
theorem lv22_8 : tab.lv 22 8 = some 3593 := tab_lv (by kernel_rfl)
theorem lv22_9 : tab.lv 22 9 = some 65 := tab_lv (by kernel_rfl)
theorem lv22_10 : tab.lv 22 10 = some 234881088 := tab_lv (by kernel_rfl)
theorem lv22_11 : tab.lv 22 11 = some 503316544 := tab_lv (by kernel_rfl)
theorem lv22_12 : tab.lv 22 12 = some 234881344 := tab_lv (by kernel_rfl)
theorem lv22_13 : tab.lv 22 13 = some 234881088 := tab_lv (by kernel_rfl)
theorem lv22_14 : tab.lv 22 14 = some 234881088 := tab_lv (by kernel_rfl)
theorem lv22_15 : tab.lv 22 15 = some 4 := tab_lv (by kernel_rfl)
theorem lv23_0 : tab.lv 23 0 = some 1 := tab_lv (by kernel_rfl)
theorem lv23_1 : tab.lv 23 1 = some 8193 := tab_lv (by kernel_rfl)
theorem lv23_2 : tab.lv 23 2 = some 4 := tab_lv (by kernel_rfl)
theorem lv23_3 : tab.lv 23 3 = some 114689 := tab_lv (by kernel_rfl)
theorem lv23_4 : tab.lv 23 4 = some 245761 := tab_lv (by kernel_rfl)
theorem lv23_5 : tab.lv 23 5 = some 114713 := tab_lv (by kernel_rfl)
theorem lv23_6 : tab.lv 23 6 = some 114745 := tab_lv (by kernel_rfl)
theorem lv23_7 : tab.lv 23 7 = some 16891961 := tab_lv (by kernel_rfl)
theorem lv23_8 : tab.lv 23 8 = some 4 := tab_lv (by kernel_rfl)
theorem lv23_9 : tab.lv 23 9 = some 114817 := tab_lv (by kernel_rfl)
theorem lv23_10 : tab.lv 23 10 = some 68719591425 := tab_lv (by kernel_rfl)
theorem lv23_11 : tab.lv 23 11 = some 4 := tab_lv (by kernel_rfl)
theorem lv23_12 : tab.lv 23 12 = some 114689 := tab_lv (by kernel_rfl)
theorem lv23_13 : tab.lv 23 13 = some 1924145348609 := tab_lv (by kernel_rfl)
theorem lv23_14 : tab.lv 23 14 = some 4123168604161 := tab_lv (by kernel_rfl)
theorem lv23_15 : tab.lv 23 15 = some 1924145349121 := tab_lv (by kernel_rfl)
theorem lv23_16 : tab.lv 23 16 = some 1924145349633 := tab_lv (by kernel_rfl)
theorem lv23_17 : tab.lv 23 17 = some 283399122060289 := tab_lv (by kernel_rfl)
theorem lv23_18 : tab.lv 23 18 = some 4 := tab_lv (by kernel_rfl)
theorem lv23_19 : tab.lv 23 19 = some 1924145348609 := tab_lv (by kernel_rfl)
theorem lv23_20 : tab.lv 23 20 = some 4 := tab_lv (by kernel_rfl)
theorem lv41_0 : tab.lv 41 0 = some 5 := tab_lv (by kernel_rfl)
theorem lv41_1 : tab.lv 41 1 = some 517 := tab_lv (by kernel_rfl)
theorem lv41_2 : tab.lv 41 2 = some 4 := tab_lv (by kernel_rfl)
theorem lv41_3 : tab.lv 41 3 = some 13 := tab_lv (by kernel_rfl)
theorem lv41_4 : tab.lv 41 4 = some 13 := tab_lv (by kernel_rfl)
theorem lv41_5 : tab.lv 41 5 = some 12 := tab_lv (by kernel_rfl)
theorem lv41_6 : tab.lv 41 6 = some 4 := tab_lv (by kernel_rfl)
theorem lv42_0 : tab.lv 42 0 = some 0 := tab_lv (by kernel_rfl)
theorem lv42_1 : tab.lv 42 1 = some 1 := tab_lv (by kernel_rfl)
theorem lv43_0 : tab.lv 43 0 = some 466 := tab_lv (by kernel_rfl)
theorem lv43_1 : tab.lv 43 1 = some 978 := tab_lv (by kernel_rfl)
theorem lv43_2 : tab.lv 43 2 = some 8389586 := tab_lv (by kernel_rfl)
theorem lv43_3 : tab.lv 43 3 = some 256 := tab_lv (by kernel_rfl)
theorem lv43_4 : tab.lv 43 4 = some 1794 := tab_lv (by kernel_rfl)
theorem lv43_5 : tab.lv 43 5 = some 4294969090 := tab_lv (by kernel_rfl)
theorem lv43_6 : tab.lv 43 6 = some 256 := tab_lv (by kernel_rfl)
theorem lv43_7 : tab.lv 43 7 = some 274877908736 := tab_lv (by kernel_rfl)
theorem lv43_8 : tab.lv 43 8 = some 824633722624 := tab_lv (by kernel_rfl)
theorem lv43_9 : tab.lv 43 9 = some 3328 := tab_lv (by kernel_rfl)
theorem lv43_10 : tab.lv 43 10 = some 17592186047744 := tab_lv (by kernel_rfl)
theorem lv43_11 : tab.lv 43 11 = some 256 := tab_lv (by kernel_rfl)
theorem lv43_12 : tab.lv 43 12 = some 9024791440788736 := tab_lv (by kernel_rfl)
theorem lv43_13 : tab.lv 43 13 = some 256 := tab_lv (by kernel_rfl)
theorem lv43_14 : tab.lv 43 14 = some 288230376151715072 := tab_lv (by kernel_rfl)
theorem lv43_15 : tab.lv 43 15 = some 256 := tab_lv (by kernel_rfl)
theorem lv43_16 : tab.lv 43 16 = some 9223372036854777600 := tab_lv (by kernel_rfl)
theorem lv43_17 : tab.lv 43 17 = some 5888 := tab_lv (by kernel_rfl)
theorem lv43_18 : tab.lv 43 18 = some 13568 := tab_lv (by kernel_rfl)
theorem lv43_19 : tab.lv 43 19 = some 256 := tab_lv (by kernel_rfl)
theorem lv43_20 : tab.lv 43 20 = some 1208925819614629174712064 := tab_lv (by kernel_rfl)
theorem lv43_21 : tab.lv 43 21 = some 256 := tab_lv (by kernel_rfl)
theorem lv43_22 : tab.lv 43 22 = some 77371252455336267181201152 := tab_lv (by kernel_rfl)
theorem lv43_23 : tab.lv 43 23 = some 256 := tab_lv (by kernel_rfl)
theorem lv43_24 : tab.lv 43 24 = some 256 := tab_lv (by kernel_rfl)
theorem lv44_0 : tab.lv 44 0 = some 13 := tab_lv (by kernel_rfl)
theorem lv44_1 : tab.lv 44 1 = some 525 := tab_lv (by kernel_rfl)
theorem lv44_2 : tab.lv 44 2 = some 13 := tab_lv (by kernel_rfl)
theorem lv44_3 : tab.lv 44 3 = some 13 := tab_lv (by kernel_rfl)
theorem lv45_0 : tab.lv 45 0 = some 3 := tab_lv (by kernel_rfl)
theorem lv45_1 : tab.lv 45 1 = some 387 := tab_lv (by kernel_rfl)
theorem lv45_2 : tab.lv 45 2 = some 899 := tab_lv (by kernel_rfl)
theorem lv45_3 : tab.lv 45 3 = some 419 := tab_lv (by kernel_rfl)
theorem lv45_4 : tab.lv 45 4 = some 65955 := tab_lv (by kernel_rfl)
theorem lv45_5 : tab.lv 45 5 = some 16 := tab_lv (by kernel_rfl)
theorem lv45_6 : tab.lv 45 6 = some 387 := tab_lv (by kernel_rfl)
theorem lv45_7 : tab.lv 45 7 = some 16 := tab_lv (by kernel_rfl)
theorem lv46_0 : tab.lv 46 0 = some 6 := tab_lv (by kernel_rfl)
theorem lv46_1 : tab.lv 46 1 = some 8 := tab_lv (by kernel_rfl)
theorem lv47_0 : tab.lv 47 0 = some 3 := tab_lv (by kernel_rfl)
theorem lv47_1 : tab.lv 47 1 = some 32 := tab_lv (by kernel_rfl)
theorem lv47_2 : tab.lv 47 2 = some 229408 := tab_lv (by kernel_rfl)
theorem lv47_3 : tab.lv 47 3 = some 491552 := tab_lv (by kernel_rfl)
theorem lv47_4 : tab.lv 47 4 = some 229600 := tab_lv (by kernel_rfl)
theorem lv47_5 : tab.lv 47 5 = some 229408 := tab_lv (by kernel_rfl)
theorem lv47_6 : tab.lv 47 6 = some 229408 := tab_lv (by kernel_rfl)
theorem lv47_7 : tab.lv 47 7 = some 16 := tab_lv (by kernel_rfl)
theorem lv48_0 : tab.lv 48 0 = some 2 := tab_lv (by kernel_rfl)
theorem lv48_1 : tab.lv 48 1 = some 4 := tab_lv (by kernel_rfl)
theorem lv51_0 : tab.lv 51 0 = some 3 := tab_lv (by kernel_rfl)
theorem lv51_1 : tab.lv 51 1 = some 67 := tab_lv (by kernel_rfl)
theorem lv51_2 : tab.lv 51 2 = some 3 := tab_lv (by kernel_rfl)
theorem lv51_3 : tab.lv 51 3 = some 3 := tab_lv (by kernel_rfl)
theorem lv51_4 : tab.lv 51 4 = some 65539 := tab_lv (by kernel_rfl)
theorem lv51_5 : tab.lv 51 5 = some 1 := tab_lv (by kernel_rfl)
theorem lv51_6 : tab.lv 51 6 = some 16 := tab_lv (by kernel_rfl)
theorem lv52_0 : tab.lv 52 0 = some 2 := tab_lv (by kernel_rfl)
theorem lv52_1 : tab.lv 52 1 = some 10 := tab_lv (by kernel_rfl)
theorem lv52_2 : tab.lv 52 2 = some 266 := tab_lv (by kernel_rfl)
theorem lv52_3 : tab.lv 52 3 = some 4 := tab_lv (by kernel_rfl)
theorem lv52_4 : tab.lv 52 4 = some 134217730 := tab_lv (by kernel_rfl)
theorem lv52_5 : tab.lv 52 5 = some 4 := tab_lv (by kernel_rfl)
theorem lv52_6 : tab.lv 52 6 = some 1073741826 := tab_lv (by kernel_rfl)
theorem lv52_7 : tab.lv 52 7 = some 17179869184 := tab_lv (by kernel_rfl)
theorem lv52_8 : tab.lv 52 8 = some 4 := tab_lv (by kernel_rfl)
theorem lv52_9 : tab.lv 52 9 = some 4 := tab_lv (by kernel_rfl)
theorem lv52_10 : tab.lv 52 10 = some 4 := tab_lv (by kernel_rfl)
theorem lv53_0 : tab.lv 53 0 = some 6 := tab_lv (by kernel_rfl)
theorem lv53_1 : tab.lv 53 1 = some 262 := tab_lv (by kernel_rfl)
theorem lv53_2 : tab.lv 53 2 = some 774 := tab_lv (by kernel_rfl)
theorem lv53_3 : tab.lv 53 3 = some 16 := tab_lv (by kernel_rfl)
theorem lv53_4 : tab.lv 53 4 = some 131078 := tab_lv (by kernel_rfl)
theorem lv53_5 : tab.lv 53 5 = some 64 := tab_lv (by kernel_rfl)
theorem lv53_6 : tab.lv 53 6 = some 16 := tab_lv (by kernel_rfl)
theorem lv53_7 : tab.lv 53 7 = some 16 := tab_lv (by kernel_rfl)
theorem lv54_0 : tab.lv 54 0 = some 1 := tab_lv (by kernel_rfl)
theorem lv54_1 : tab.lv 54 1 = some 1025 := tab_lv (by kernel_rfl)
theorem lv54_2 : tab.lv 54 2 = some 4 := tab_lv (by kernel_rfl)
theorem lv54_3 : tab.lv 54 3 = some 33554432 := tab_lv (by kernel_rfl)
theorem lv54_4 : tab.lv 54 4 = some 4 := tab_lv (by kernel_rfl)
theorem lv54_5 : tab.lv 54 5 = some 4 := tab_lv (by kernel_rfl)
theorem lv56_0 : tab.lv 56 0 = some 14 := tab_lv (by kernel_rfl)
theorem lv56_1 : tab.lv 56 1 = some 388 := tab_lv (by kernel_rfl)
theorem lv56_2 : tab.lv 56 2 = some 65924 := tab_lv (by kernel_rfl)
theorem lv56_3 : tab.lv 56 3 = some 64 := tab_lv (by kernel_rfl)
theorem lv56_4 : tab.lv 56 4 = some 1048576 := tab_lv (by kernel_rfl)
theorem lv56_5 : tab.lv 56 5 = some 64 := tab_lv (by kernel_rfl)
theorem lv56_6 : tab.lv 56 6 = some 64 := tab_lv (by kernel_rfl)
theorem lv70_0 : tab.lv 70 0 = some 3 := tab_lv (by kernel_rfl)
theorem lv70_1 : tab.lv 70 1 = some 1027 := tab_lv (by kernel_rfl)
theorem lv70_2 : tab.lv 70 2 = some 16 := tab_lv (by kernel_rfl)
theorem lv70_3 : tab.lv 70 3 = some 12291 := tab_lv (by kernel_rfl)
theorem lv70_4 : tab.lv 70 4 = some 28675 := tab_lv (by kernel_rfl)
theorem lv70_5 : tab.lv 70 5 = some 12323 := tab_lv (by kernel_rfl)
theorem lv70_6 : tab.lv 70 6 = some 16789507 := tab_lv (by kernel_rfl)
theorem lv70_7 : tab.lv 70 7 = some 16 := tab_lv (by kernel_rfl)
theorem lv70_8 : tab.lv 70 8 = some 12291 := tab_lv (by kernel_rfl)
theorem lv70_9 : tab.lv 70 9 = some 16 := tab_lv (by kernel_rfl)
theorem lv75_0 : tab.lv 75 0 = some 2 := tab_lv (by kernel_rfl)
theorem lv75_1 : tab.lv 75 1 = some 26 := tab_lv (by kernel_rfl)
theorem lv75_2 : tab.lv 75 2 = some 2066 := tab_lv (by kernel_rfl)
theorem lv75_3 : tab.lv 75 3 = some 4 := tab_lv (by kernel_rfl)
theorem lv75_4 : tab.lv 75 4 = some 8194 := tab_lv (by kernel_rfl)
theorem lv75_5 : tab.lv 75 5 = some 4 := tab_lv (by kernel_rfl)
theorem lv75_6 : tab.lv 75 6 = some 4 := tab_lv (by kernel_rfl)
theorem lv79_0 : tab.lv 79 0 = some 71 := tab_lv (by kernel_rfl)
theorem lv79_1 : tab.lv 79 1 = some 198 := tab_lv (by kernel_rfl)
theorem lv79_2 : tab.lv 79 2 = some 454 := tab_lv (by kernel_rfl)
theorem lv79_3 : tab.lv 79 3 = some 57794 := tab_lv (by kernel_rfl)
theorem lv79_4 : tab.lv 79 4 = some 123330 := tab_lv (by kernel_rfl)
theorem lv79_5 : tab.lv 79 5 = some 58818 := tab_lv (by kernel_rfl)
theorem lv79_6 : tab.lv 79 6 = some 4253122 := tab_lv (by kernel_rfl)
theorem lv79_7 : tab.lv 79 7 = some 57794 := tab_lv (by kernel_rfl)
theorem lv79_8 : tab.lv 79 8 = some 57794 := tab_lv (by kernel_rfl)
theorem lv79_9 : tab.lv 79 9 = some 137438953922 := tab_lv (by kernel_rfl)
theorem lv79_10 : tab.lv 79 10 = some 64 := tab_lv (by kernel_rfl)
theorem lv79_11 : tab.lv 79 11 = some 64 := tab_lv (by kernel_rfl)
theorem lv80_0 : tab.lv 80 0 = some 159 := tab_lv (by kernel_rfl)
theorem lv80_1 : tab.lv 80 1 = some 414 := tab_lv (by kernel_rfl)
theorem lv80_2 : tab.lv 80 2 = some 57756 := tab_lv (by kernel_rfl)
theorem lv80_3 : tab.lv 80 3 = some 123292 := tab_lv (by kernel_rfl)
theorem lv80_4 : tab.lv 80 4 = some 58780 := tab_lv (by kernel_rfl)
theorem lv80_5 : tab.lv 80 5 = some 57756 := tab_lv (by kernel_rfl)
theorem lv80_6 : tab.lv 80 6 = some 57756 := tab_lv (by kernel_rfl)
theorem lv80_7 : tab.lv 80 7 = some 128 := tab_lv (by kernel_rfl)
theorem lv81_0 : tab.lv 81 0 = some 2 := tab_lv (by kernel_rfl)
theorem lv81_1 : tab.lv 81 1 = some 34 := tab_lv (by kernel_rfl)
theorem lv81_2 : tab.lv 81 2 = some 4 := tab_lv (by kernel_rfl)
theorem lv81_3 : tab.lv 81 3 = some 98 := tab_lv (by kernel_rfl)
theorem lv81_4 : tab.lv 81 4 = some 10 := tab_lv (by kernel_rfl)
theorem lv81_5 : tab.lv 81 5 = some 4106 := tab_lv (by kernel_rfl)
theorem lv81_6 : tab.lv 81 6 = some 4 := tab_lv (by kernel_rfl)
theorem lv81_7 : tab.lv 81 7 = some 16418 := tab_lv (by kernel_rfl)
theorem lv81_8 : tab.lv 81 8 = some 8388610 := tab_lv (by kernel_rfl)
theorem lv81_9 : tab.lv 81 9 = some 4 := tab_lv (by kernel_rfl)
theorem lv81_10 : tab.lv 81 10 = some 16777250 := tab_lv (by kernel_rfl)
theorem lv81_11 : tab.lv 81 11 = some 268435458 := tab_lv (by kernel_rfl)
theorem lv81_12 : tab.lv 81 12 = some 4 := tab_lv (by kernel_rfl)
theorem lv81_13 : tab.lv 81 13 = some 4 := tab_lv (by kernel_rfl)
theorem lv81_14 : tab.lv 81 14 = some 4294967330 := tab_lv (by kernel_rfl)
theorem lv81_15 : tab.lv 81 15 = some 68719476738 := tab_lv (by kernel_rfl)
theorem lv81_16 : tab.lv 81 16 = some 4 := tab_lv (by kernel_rfl)
theorem lv81_17 : tab.lv 81 17 = some 137438953474 := tab_lv (by kernel_rfl)
theorem lv81_18 : tab.lv 81 18 = some 70368744177666 := tab_lv (by kernel_rfl)
theorem lv81_19 : tab.lv 81 19 = some 4 := tab_lv (by kernel_rfl)
theorem lv81_20 : tab.lv 81 20 = some 562949953421312 := tab_lv (by kernel_rfl)
theorem lv81_21 : tab.lv 81 21 = some 4 := tab_lv (by kernel_rfl)
theorem lv81_22 : tab.lv 81 22 = some 4 := tab_lv (by kernel_rfl)
theorem lv83_0 : tab.lv 83 0 = some 2 := tab_lv (by kernel_rfl)
theorem lv83_1 : tab.lv 83 1 = some 4 := tab_lv (by kernel_rfl)
theorem lv84_0 : tab.lv 84 0 = some 6 := tab_lv (by kernel_rfl)
theorem lv84_1 : tab.lv 84 1 = some 70 := tab_lv (by kernel_rfl)
theorem lv84_2 : tab.lv 84 2 = some 1094 := tab_lv (by kernel_rfl)
theorem lv84_3 : tab.lv 84 3 = some 48 := tab_lv (by kernel_rfl)
theorem lv84_4 : tab.lv 84 4 = some 48 := tab_lv (by kernel_rfl)
theorem lv85_0 : tab.lv 85 0 = some 1 := tab_lv (by kernel_rfl)
theorem lv85_1 : tab.lv 85 1 = some 4 := tab_lv (by kernel_rfl)
theorem lv86_0 : tab.lv 86 0 = some 3 := tab_lv (by kernel_rfl)
theorem lv86_1 : tab.lv 86 1 = some 35 := tab_lv (by kernel_rfl)
theorem lv86_2 : tab.lv 86 2 = some 65571 := tab_lv (by kernel_rfl)
theorem lv86_3 : tab.lv 86 3 = some 35 := tab_lv (by kernel_rfl)
theorem lv86_4 : tab.lv 86 4 = some 16 := tab_lv (by kernel_rfl)
theorem lv87_0 : tab.lv 87 0 = some 1 := tab_lv (by kernel_rfl)
theorem lv87_1 : tab.lv 87 1 = some 4 := tab_lv (by kernel_rfl)
theorem lv88_0 : tab.lv 88 0 = some 1 := tab_lv (by kernel_rfl)
theorem lv88_1 : tab.lv 88 1 = some 4 := tab_lv (by kernel_rfl)
theorem lv89_0 : tab.lv 89 0 = some 1 := tab_lv (by kernel_rfl)
theorem lv89_1 : tab.lv 89 1 = some 8 := tab_lv (by kernel_rfl)
theorem lv89_2 : tab.lv 89 2 = some 24 := tab_lv (by kernel_rfl)
theorem lv89_3 : tab.lv 89 3 = some 24 := tab_lv (by kernel_rfl)
theorem lv89_4 : tab.lv 89 4 = some 24 := tab_lv (by kernel_rfl)
theorem lv89_5 : tab.lv 89 5 = some 24 := tab_lv (by kernel_rfl)
theorem lv89_6 : tab.lv 89 6 = some 24 := tab_lv (by kernel_rfl)
theorem lv89_7 : tab.lv 89 7 = some 24 := tab_lv (by kernel_rfl)
theorem lv89_8 : tab.lv 89 8 = some 16 := tab_lv (by kernel_rfl)
theorem lv89_9 : tab.lv 89 9 = some 4 := tab_lv (by kernel_rfl)
theorem lv89_10 : tab.lv 89 10 = some 4 := tab_lv (by kernel_rfl)
theorem lv96_0 : tab.lv 96 0 = some 2 := tab_lv (by kernel_rfl)
theorem lv96_1 : tab.lv 96 1 = some 50 := tab_lv (by kernel_rfl)
theorem lv96_2 : tab.lv 96 2 = some 14384 := tab_lv (by kernel_rfl)
theorem lv96_3 : tab.lv 96 3 = some 30768 := tab_lv (by kernel_rfl)
theorem lv96_4 : tab.lv 96 4 = some 14512 := tab_lv (by kernel_rfl)
theorem lv96_5 : tab.lv 96 5 = some 15152 := tab_lv (by kernel_rfl)
theorem lv96_6 : tab.lv 96 6 = some 14384 := tab_lv (by kernel_rfl)
theorem lv96_7 : tab.lv 96 7 = some 14384 := tab_lv (by kernel_rfl)
theorem lv96_8 : tab.lv 96 8 = some 12 := tab_lv (by kernel_rfl)
theorem lv97_0 : tab.lv 97 0 = some 2 := tab_lv (by kernel_rfl)
theorem lv97_1 : tab.lv 97 1 = some 10 := tab_lv (by kernel_rfl)
theorem lv97_2 : tab.lv 97 2 = some 1034 := tab_lv (by kernel_rfl)
theorem lv97_3 : tab.lv 97 3 = some 4 := tab_lv (by kernel_rfl)
theorem lv97_4 : tab.lv 97 4 = some 57344 := tab_lv (by kernel_rfl)
theorem lv97_5 : tab.lv 97 5 = some 122880 := tab_lv (by kernel_rfl)
theorem lv97_6 : tab.lv 97 6 = some 57376 := tab_lv (by kernel_rfl)
theorem lv97_7 : tab.lv 97 7 = some 57408 := tab_lv (by kernel_rfl)
theorem lv97_8 : tab.lv 97 8 = some 4251712 := tab_lv (by kernel_rfl)
theorem lv97_9 : tab.lv 97 9 = some 4 := tab_lv (by kernel_rfl)
theorem lv97_10 : tab.lv 97 10 = some 57344 := tab_lv (by kernel_rfl)
theorem lv97_11 : tab.lv 97 11 = some 4 := tab_lv (by kernel_rfl)
theorem lv101_0 : tab.lv 101 0 = some 25 := tab_lv (by kernel_rfl)
theorem lv101_1 : tab.lv 101 1 = some 49 := tab_lv (by kernel_rfl)
theorem lv101_2 : tab.lv 101 2 = some 1072 := tab_lv (by kernel_rfl)
theorem lv101_3 : tab.lv 101 3 = some 48 := tab_lv (by kernel_rfl)
theorem lv101_4 : tab.lv 101 4 = some 16 := tab_lv (by kernel_rfl)
theorem lv102_0 : tab.lv 102 0 = some 1 := tab_lv (by kernel_rfl)
theorem lv102_1 : tab.lv 102 1 = some 256 := tab_lv (by kernel_rfl)
theorem lv102_2 : tab.lv 102 2 = some 4 := tab_lv (by kernel_rfl)
theorem lv102_3 : tab.lv 102 3 = some 4 := tab_lv (by kernel_rfl)
theorem lv103_0 : tab.lv 103 0 = some 1 := tab_lv (by kernel_rfl)
theorem lv103_1 : tab.lv 103 1 = some 65 := tab_lv (by kernel_rfl)
theorem lv103_2 : tab.lv 103 2 = some 4 := tab_lv (by kernel_rfl)
theorem lv103_3 : tab.lv 103 3 = some 769 := tab_lv (by kernel_rfl)
theorem lv103_4 : tab.lv 103 4 = some 1793 := tab_lv (by kernel_rfl)
theorem lv103_5 : tab.lv 103 5 = some 777 := tab_lv (by kernel_rfl)
theorem lv103_6 : tab.lv 103 6 = some 2097921 := tab_lv (by kernel_rfl)
theorem lv103_7 : tab.lv 103 7 = some 4 := tab_lv (by kernel_rfl)
theorem lv103_8 : tab.lv 103 8 = some 769 := tab_lv (by kernel_rfl)
theorem lv103_9 : tab.lv 103 9 = some 4 := tab_lv (by kernel_rfl)
theorem lv104_0 : tab.lv 104 0 = some 14 := tab_lv (by kernel_rfl)
theorem lv104_1 : tab.lv 104 1 = some 262158 := tab_lv (by kernel_rfl)
theorem lv104_2 : tab.lv 104 2 = some 786446 := tab_lv (by kernel_rfl)
theorem lv104_3 : tab.lv 104 3 = some 192 := tab_lv (by kernel_rfl)
theorem lv104_4 : tab.lv 104 4 = some 16777230 := tab_lv (by kernel_rfl)
theorem lv104_5 : tab.lv 104 5 = some 768 := tab_lv (by kernel_rfl)
theorem lv104_6 : tab.lv 104 6 = some 17179869440 := tab_lv (by kernel_rfl)
theorem lv104_7 : tab.lv 104 7 = some 192 := tab_lv (by kernel_rfl)
theorem lv104_8 : tab.lv 104 8 = some 192 := tab_lv (by kernel_rfl)
theorem lv104_9 : tab.lv 104 9 = some 1038 := tab_lv (by kernel_rfl)
theorem lv104_10 : tab.lv 104 10 = some 962072675342 := tab_lv (by kernel_rfl)
theorem lv104_11 : tab.lv 104 11 = some 2061584303118 := tab_lv (by kernel_rfl)
theorem lv104_12 : tab.lv 104 12 = some 962072679438 := tab_lv (by kernel_rfl)
theorem lv104_13 : tab.lv 104 13 = some 962072699918 := tab_lv (by kernel_rfl)
theorem lv104_14 : tab.lv 104 14 = some 2252761886385166 := tab_lv (by kernel_rfl)
theorem lv104_15 : tab.lv 104 15 = some 192 := tab_lv (by kernel_rfl)
theorem lv104_16 : tab.lv 104 16 = some 962072675342 := tab_lv (by kernel_rfl)
theorem lv104_17 : tab.lv 104 17 = some 962072675342 := tab_lv (by kernel_rfl)
theorem lv104_18 : tab.lv 104 18 = some 99336 := tab_lv (by kernel_rfl)
theorem lv104_19 : tab.lv 104 19 = some 36893488147419202568 := tab_lv (by kernel_rfl)
theorem lv104_20 : tab.lv 104 20 = some 192 := tab_lv (by kernel_rfl)
theorem lv104_21 : tab.lv 104 21 = some 37778931862957161710600 := tab_lv (by kernel_rfl)
theorem lv104_22 : tab.lv 104 22 = some 192 := tab_lv (by kernel_rfl)
theorem lv104_23 : tab.lv 104 23 = some 151115727451828646839304 := tab_lv (by kernel_rfl)
theorem lv104_24 : tab.lv 104 24 = some 192 := tab_lv (by kernel_rfl)
theorem lv104_25 : tab.lv 104 25 = some 633825300114114700748351602688 := tab_lv (by kernel_rfl)
theorem lv104_26 : tab.lv 104 26 = some 192 := tab_lv (by kernel_rfl)
theorem lv104_27 : tab.lv 104 27 = some 192 := tab_lv (by kernel_rfl)
theorem lv109_0 : tab.lv 109 0 = some 2 := tab_lv (by kernel_rfl)
theorem lv109_1 : tab.lv 109 1 = some 1026 := tab_lv (by kernel_rfl)
theorem lv109_2 : tab.lv 109 2 = some 4 := tab_lv (by kernel_rfl)
theorem lv109_3 : tab.lv 109 3 = some 524290 := tab_lv (by kernel_rfl)
theorem lv109_4 : tab.lv 109 4 = some 4 := tab_lv (by kernel_rfl)
theorem lv109_5 : tab.lv 109 5 = some 2097154 := tab_lv (by kernel_rfl)
theorem lv109_6 : tab.lv 109 6 = some 1073741824 := tab_lv (by kernel_rfl)
theorem lv109_7 : tab.lv 109 7 = some 4 := tab_lv (by kernel_rfl)
theorem lv109_8 : tab.lv 109 8 = some 2149580802 := tab_lv (by kernel_rfl)
theorem lv109_9 : tab.lv 109 9 = some 9007199254740992 := tab_lv (by kernel_rfl)
theorem lv109_10 : tab.lv 109 10 = some 4 := tab_lv (by kernel_rfl)
theorem lv109_11 : tab.lv 109 11 = some 18014398509481986 := tab_lv (by kernel_rfl)
theorem lv109_12 : tab.lv 109 12 = some 36893488147419103232 := tab_lv (by kernel_rfl)
theorem lv109_13 : tab.lv 109 13 = some 4 := tab_lv (by kernel_rfl)
theorem lv109_14 : tab.lv 109 14 = some 4 := tab_lv (by kernel_rfl)
theorem lv115_0 : tab.lv 115 0 = some 1 := tab_lv (by kernel_rfl)
theorem lv115_1 : tab.lv 115 1 = some 1 := tab_lv (by kernel_rfl)
theorem mu23_20 : tab.mutA 23 20 = true := tab_mut (by kernel_rfl)
theorem mu23_22 : tab.mutA 23 22 = true := tab_mut (by kernel_rfl)
theorem mu23_25 : tab.mutA 23 25 = true := tab_mut (by kernel_rfl)
theorem mu23_33 : tab.mutA 23 33 = true := tab_mut (by kernel_rfl)
theorem mu23_70 : tab.mutA 23 70 = true := tab_mut (by kernel_rfl)
theorem mu23_17 : tab.mutA 23 17 = false := tab_mut (by kernel_rfl)
theorem mu56_109 : tab.mutA 56 109 = false := tab_mut (by kernel_rfl)
theorem mu24_125 : tab.mutA 24 125 = false := tab_mut (by kernel_rfl)
theorem mu23_29 : tab.mutA 23 29 = false := tab_mut (by kernel_rfl)
theorem mu9_13 : tab.mutA 9 13 = false := tab_mut (by kernel_rfl)
theorem mu56_27 : tab.mutA 56 27 = false := tab_mut (by kernel_rfl)
theorem mu30_28 : tab.mutA 30 28 = false := tab_mut (by kernel_rfl)
theorem mu65_56 : tab.mutA 65 56 = false := tab_mut (by kernel_rfl)
theorem ro3_7_raw_go_91 : tab.ro 3 7 "raw.go:91" = true := tab_ro (by kernel_rfl)
theorem ro9_3_field_go_16 : tab.ro 9 3 "field.go:16" = true := tab_ro (by kernel_rfl)
theorem ro23_6_raw_go_91 : tab.ro 23 6 "raw.go:91" = false := tab_ro (by kernel_rfl)
theorem ro29_1_value_go_14 : tab.ro 29 1 "value.go:14" = false := tab_ro (by kernel_rfl)
theorem ro29_1_value_go_68 : tab.ro 29 1 "value.go:68" = false := tab_ro (by kernel_rfl)
theorem ro32_1_expr_go_40 : tab.ro 32 1 "expr.go:40" = true := tab_ro (by kernel_rfl)
theorem ro32_1_expr_go_50 : tab.ro 32 1 "expr.go:50" = true := tab_ro (by kernel_rfl)
theorem ro32_1_expr_go_75 : tab.ro 32 1 "expr.go:75" = true := tab_ro (by kernel_rfl)
theorem ro32_1_expr_go_88 : tab.ro 32 1 "expr.go:88" = true := tab_ro (by kernel_rfl)
theorem ro32_1_field_go_25 : tab.ro 32 1 "field.go:25" = true := tab_ro (by kernel_rfl)
theorem ro32_2_typing_go_71 : tab.ro 32 2 "typing.go:71" = true := tab_ro (by kernel_rfl)
theorem ro32_3_typing_go_28 : tab.ro 32 3 "typing.go:28" = true := tab_ro (by kernel_rfl)
theorem ro32_3_typing_go_79 : tab.ro 32 3 "typing.go:79" = true := tab_ro (by kernel_rfl)
theorem ro34_1_field_go_30 : tab.ro 34 1 "field.go:30" = true := tab_ro (by kernel_rfl)
theorem ro34_2_field_go_17 : tab.ro 34 2 "field.go:17" = true := tab_ro (by kernel_rfl)
theorem ro34_2_field_go_47 : tab.ro 34 2 "field.go:47" = true := tab_ro (by kernel_rfl)
theorem ro41_3_raw_go_53 : tab.ro 41 3 "raw.go:53" = false := tab_ro (by kernel_rfl)
theorem ro41_3_raw_go_67 : tab.ro 41 3 "raw.go:67" = false := tab_ro (by kernel_rfl)
theorem ro78_4_raw_go_91 : tab.ro 78 4 "raw.go:91" = false := tab_ro (by kernel_rfl)
theorem ro80_17_raw_go_148 : tab.ro 80 17 "raw.go:148" = false := tab_ro (by kernel_rfl)
theorem rs6 : Try.f6.results.toList = [.tmp 4] := rfl
theorem rs14 : Try.f14.results.toList = [.cell 2 26] := rfl
theorem rs15 : Try.f15.results.toList = [.tmp 4, .tmp 5] := rfl
theorem rs17 : Try.f17.results.toList = [.cell 4 29] := rfl
theorem rs18 : Try.f18.results.toList = [.tmp 4] := rfl
theorem rs22 : Try.f22.results.toList = [.tmp 2] := rfl
theorem rs23 : Try.f23.results.toList = [.tmp 2] := rfl
theorem rs41 : Try.f41.results.toList = [.cell 2 41] := rfl
theorem rs42 : Try.f42.results.toList = [.tmp 0] := rfl
theorem rs43 : Try.f43.results.toList = [.cell 8 32] := rfl
theorem rs44 : Try.f44.results.toList = [] := rfl
theorem rs45 : Try.f45.results.toList = [.tmp 4] := rfl
theorem rs46 : Try.f46.results.toList = [.tmp 3] := rfl
theorem rs47 : Try.f47.results.toList = [.tmp 4] := rfl
theorem rs48 : Try.f48.results.toList = [.tmp 2] := rfl
theorem rs51 : Try.f51.results.toList = [.tmp 4] := rfl
theorem rs52 : Try.f52.results.toList = [.tmp 2] := rfl
theorem rs53 : Try.f53.results.toList = [.tmp 4] := rfl
theorem rs54 : Try.f54.results.toList = [.tmp 2] := rfl
theorem rs56 : Try.f56.results.toList = [.tmp 6] := rfl
theorem rs70 : Try.f70.results.toList = [.tmp 4] := rfl
theorem rs75 : Try.f75.results.toList = [.tmp 2] := rfl
theorem rs79 : Try.f79.results.toList = [.cell 6 32] := rfl
theorem rs80 : Try.f80.results.toList = [.cell 7 32] := rfl
theorem rs81 : Try.f81.results.toList = [.tmp 2] := rfl
theorem rs83 : Try.f83.results.toList = [.tmp 2] := rfl
theorem rs84 : Try.f84.results.toList = [.tmp 4, .tmp 5] := rfl
theorem rs85 : Try.f85.results.toList = [.tmp 2] := rfl
theorem rs86 : Try.f86.results.toList = [.tmp 4] := rfl
theorem rs87 : Try.f87.results.toList = [.tmp 2] := rfl
theorem rs88 : Try.f88.results.toList = [.tmp 2] := rfl
theorem rs89 : Try.f89.results.toList = [.tmp 2] := rfl
theorem rs96 : Try.f96.results.toList = [.tmp 2, .tmp 3] := rfl
theorem rs97 : Try.f97.results.toList = [.tmp 2] := rfl
theorem rs101 : Try.f101.results.toList = [.cell 4 32] := rfl
theorem rs102 : Try.f102.results.toList = [.tmp 2] := rfl
theorem rs103 : Try.f103.results.toList = [.tmp 2] := rfl
theorem rs104 : Try.f104.results.toList = [.tmp 6, .tmp 7] := rfl
theorem rs109 : Try.f109.results.toList = [.tmp 2] := rfl
theorem rs115 : Try.f115.results.toList = [.cell 0 157] := rfl
theorem tt1 : type_of% (ai (ai @und1 @sz1) (ai @ag1 @inf1)) := (ai (ai @und1 @sz1) (ai @ag1 @inf1))
theorem tt2 : type_of% (ai (ai @und2 @sz2) (ai @ag2 (ai @lv2 @inf2))) := (ai (ai @und2 @sz2) (ai @ag2 (ai @lv2 @inf2)))
theorem tt3 : type_of% (ai (ai @und3 @sz3) (ai @ag3 (ai @lv3 @inf3))) := (ai (ai @und3 @sz3) (ai @ag3 (ai @lv3 @inf3)))
theorem tt4 : type_of% (ai (ai @und4 @sz4) (ai @ag4 (ai @lv4 @inf4))) := (ai (ai @und4 @sz4) (ai @ag4 (ai @lv4 @inf4)))
theorem tt5 : type_of% (ai (ai @und5 @sz5) (ai @ag5 (ai @lv5 @inf5))) := (ai (ai @und5 @sz5) (ai @ag5 (ai @lv5 @inf5)))
theorem tt9 : type_of% (ai (ai @und9 @sz9) (ai @ag9 (ai @lv9 @inf9))) := (ai (ai @und9 @sz9) (ai @ag9 (ai @lv9 @inf9)))
theorem tt10 : type_of% (ai (ai @und10 @sz10) (ai @ag10 (ai @lv10 @inf10))) := (ai (ai @und10 @sz10) (ai @ag10 (ai @lv10 @inf10)))
theorem tt22 : type_of% (ai (ai @und22 @sz22) (ai @ag22 (ai @pT22 @inf22))) := (ai (ai @und22 @sz22) (ai @ag22 (ai @pT22 @inf22)))
theorem tt23 : type_of% (ai (ai @und23 @sz23) (ai @ag23 (ai @pT23 @inf23))) := (ai (ai @und23 @sz23) (ai @ag23 (ai @pT23 @inf23)))
theorem tt24 : type_of% (ai (ai @und24 @sz24) (ai @ag24 (ai @pT24 @inf24))) := (ai (ai @und24 @sz24) (ai @ag24 (ai @pT24 @inf24)))
theorem tt26 : type_of% (ai (ai (ai @und26 @sz26) (ai @ag26 @fo26)) (ai (ai @bA26 @pT26_0) (ai @pT26_1 @inf26))) := (ai (ai (ai @und26 @sz26) (ai @ag26 @fo26)) (ai (ai @bA26 @pT26_0) (ai @pT26_1 @inf26)))
theorem tt29 : type_of% (ai (ai (ai @und29 @sz29) (ai @ag29 (ai @fo29 @bA29))) (ai (ai @pT29_0 @pT29_1) (ai @pT29_2 (ai @lv29 @inf29)))) := (ai (ai (ai @und29 @sz29) (ai @ag29 (ai @fo29 @bA29))) (ai (ai @pT29_0 @pT29_1) (ai @pT29_2 (ai @lv29 @inf29))))
theorem tt30 : type_of% (ai (ai @und30 @sz30) (ai @ag30 (ai @pT30 @inf30))) := (ai (ai @und30 @sz30) (ai @ag30 (ai @pT30 @inf30)))
theorem tt32 : type_of% (ai (ai (ai @und32 @sz32) (ai @ag32 (ai @fo32 @bA32))) (ai (ai @pT32_0 @pT32_1) (ai @pT32_2 (ai @pT32_3 @inf32)))) := (ai (ai (ai @und32 @sz32) (ai @ag32 (ai @fo32 @bA32))) (ai (ai @pT32_0 @pT32_1) (ai @pT32_2 (ai @pT32_3 @inf32))))
theorem tt34 : type_of% (ai (ai (ai @und34 @sz34) (ai @ag34 (ai @fo34 @bA34))) (ai (ai @pT34_0 @pT34_1) (ai @pT34_2 (ai @pT34_3 @inf34)))) := (ai (ai (ai @und34 @sz34) (ai @ag34 (ai @fo34 @bA34))) (ai (ai @pT34_0 @pT34_1) (ai @pT34_2 (ai @pT34_3 @inf34))))
theorem tt35 : type_of% (ai (ai @und35 @sz35) (ai @ag35 (ai @lv35 @inf35))) := (ai (ai @und35 @sz35) (ai @ag35 (ai @lv35 @inf35)))
theorem tt41 : type_of% (ai (ai (ai @und41 @sz41) (ai @ag41 (ai @fo41 @bA41))) (ai (ai @pT41_0 @pT41_1) (ai @pT41_2 (ai @pT41_3 @inf41)))) := (ai (ai (ai @und41 @sz41) (ai @ag41 (ai @fo41 @bA41))) (ai (ai @pT41_0 @pT41_1) (ai @pT41_2 (ai @pT41_3 @inf41))))
theorem tt56 : type_of% (ai (ai @und56 @sz56) (ai @ag56 (ai @pT56 @inf56))) := (ai (ai @und56 @sz56) (ai @ag56 (ai @pT56 @inf56)))
theorem tt58 : type_of% (ai (ai (ai @und58 @sz58) (ai @ag58 @fo58)) (ai (ai @bA58 @pT58_0) (ai @pT58_1 (ai @pT58_2 @inf58)))) := (ai (ai (ai @und58 @sz58) (ai @ag58 @fo58)) (ai (ai @bA58 @pT58_0) (ai @pT58_1 (ai @pT58_2 @inf58))))
theorem tt65 : type_of% (ai (ai @und65 @sz65) (ai @ag65 (ai @pT65 @inf65))) := (ai (ai @und65 @sz65) (ai @ag65 (ai @pT65 @inf65)))
theorem tt78 : type_of% (ai (ai @und78 @sz78) (ai @ag78 @inf78)) := (ai (ai @und78 @sz78) (ai @ag78 @inf78))
theorem tt80 : type_of% (ai (ai (ai @und80 @sz80) (ai @ag80 @fo80)) (ai (ai @bA80 @pT80_0) (ai @pT80_1 @inf80))) := (ai (ai (ai @und80 @sz80) (ai @ag80 @fo80)) (ai (ai @bA80 @pT80_0) (ai @pT80_1 @inf80)))
theorem tt84 : type_of% (ai (ai @und84 @sz84) (ai @ag84 (ai @pT84 @inf84))) := (ai (ai @und84 @sz84) (ai @ag84 (ai @pT84 @inf84)))
theorem tt87 : type_of% (ai (ai @und87 @sz87) (ai @ag87 @inf87)) := (ai (ai @und87 @sz87) (ai @ag87 @inf87))
theorem tt92 : type_of% (ai (ai @und92 @sz92) (ai @ag92 (ai @pT92 @inf92))) := (ai (ai @und92 @sz92) (ai @ag92 (ai @pT92 @inf92)))
theorem tt122 : type_of% (ai (ai @und122 @sz122) (ai @ag122 @inf122)) := (ai (ai @und122 @sz122) (ai @ag122 @inf122))
theorem tt127 : type_of% (ai (ai @und127 @sz127) (ai @ag127 @inf127)) := (ai (ai @und127 @sz127) (ai @ag127 @inf127))
theorem tt138 : type_of% @und138 := @und138
theorem tt140 : type_of% @und140 := @und140
theorem tt150 : type_of% (ai (ai (ai @und150 @sz150) (ai @ag150 @fo150)) (ai (ai @bA150 @pT150_0) (ai @pT150_1 @inf150))) := (ai (ai (ai @und150 @sz150) (ai @ag150 @fo150)) (ai (ai @bA150 @pT150_0) (ai @pT150_1 @inf150)))
theorem tt156 : type_of% (ai (ai (ai @und156 @sz156) (ai @ag156 @fo156)) (ai (ai @bA156 @pT156_0) (ai @pT156_1 (ai @pT156_2 @inf156)))) := (ai (ai (ai @und156 @sz156) (ai @ag156 @fo156)) (ai (ai @bA156 @pT156_0) (ai @pT156_1 (ai @pT156_2 @inf156))))
theorem tt157 : type_of% (ai (ai @und157 (ai @sz157 @ag157)) (ai @bA157 (ai @pT157 @inf157))) := (ai (ai @und157 (ai @sz157 @ag157)) (ai @bA157 (ai @pT157 @inf157)))
end Go.Proofs.Ytnombkkfijlkfaa.Am
