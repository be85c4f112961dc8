/- The table's entries, one by one. Printed by genty.py. -/
import Derived.Test.YtjjjkoknodcaaaaAmRule
set_option linter.unusedVariables false
set_option linter.unusedSimpArgs false
namespace Go.Proofs.Ytjjjkoknodcaaaa.Am
open Go Go.RowKit
set_option maxRecDepth 100000
theorem und1 : tab.und 1 = some (.func #[] #[] false) := (tab_und 1).trans Try.underlying1
theorem sz1 : size tab 1 = some 1 := by simp only [size, inf1, Option.map]
theorem ag1 : isAgg tab 1 = some false := by simp only [isAgg, und1]
theorem und2 : tab.und 2 = some (.int .i64) := (tab_und 2).trans Try.underlying2
theorem sz2 : size tab 2 = some 1 := by simp only [size, inf2, Option.map]
theorem ag2 : isAgg tab 2 = some false := by simp only [isAgg, und2]
theorem und3 : tab.und 3 = some (.int .i64) := (tab_und 3).trans Try.underlying3
theorem sz3 : size tab 3 = some 1 := by simp only [size, inf3, Option.map]
theorem ag3 : isAgg tab 3 = some false := by simp only [isAgg, und3]
theorem und4 : tab.und 4 = some (.bool) := (tab_und 4).trans Try.underlying4
theorem sz4 : size tab 4 = some 1 := by simp only [size, inf4, Option.map]
theorem ag4 : isAgg tab 4 = some false := by simp only [isAgg, und4]
theorem und5 : tab.und 5 = some (.int .u8) := (tab_und 5).trans Try.underlying5
theorem sz5 : size tab 5 = some 1 := by simp only [size, inf5, Option.map]
theorem ag5 : isAgg tab 5 = some false := by simp only [isAgg, und5]
theorem und6 : tab.und 6 = some (.int .u8) := (tab_und 6).trans Try.underlying6
theorem sz6 : size tab 6 = some 1 := by simp only [size, inf6, Option.map]
theorem ag6 : isAgg tab 6 = some false := by simp only [isAgg, und6]
theorem und9 : tab.und 9 = some (.string) := (tab_und 9).trans Try.underlying9
theorem sz9 : size tab 9 = some 1 := by simp only [size, inf9, Option.map]
theorem ag9 : isAgg tab 9 = some false := by simp only [isAgg, und9]
theorem und22 : tab.und 22 = some (.slice 99) := (tab_und 22).trans Try.underlying22
theorem sz22 : size tab 22 = some 1 := by simp only [size, inf22, Option.map]
theorem ag22 : isAgg tab 22 = some false := by simp only [isAgg, und22]
theorem pT22 {i : Nat} : partType tab 22 i = 99 := by simp only [partType, und22]
theorem und24 : tab.und 24 = some (.struct #[{ name := "Kind", type := 3, offset := 0, embedded := false, tag := "", pkgPath := "", byteOffset := 0 }, { name := "N", type := 3, offset := 1, embedded := false, tag := "", pkgPath := "", byteOffset := 8 }, { name := "S", type := 9, offset := 2, embedded := false, tag := "", pkgPath := "", byteOffset := 16 }]) := (tab_und 24).trans Try.underlying24
theorem sz24 : size tab 24 = some 3 := by simp only [size, inf24, Option.map]
theorem ag24 : isAgg tab 24 = some true := by simp only [isAgg, und24]
theorem fo24 : fieldsOf tab 24 = some [{ name := "Kind", type := 3, offset := 0, embedded := false, tag := "", pkgPath := "", byteOffset := 0 }, { name := "N", type := 3, offset := 1, embedded := false, tag := "", pkgPath := "", byteOffset := 8 }, { name := "S", type := 9, offset := 2, embedded := false, tag := "", pkgPath := "", byteOffset := 16 }] := by simp only [fieldsOf, und24]
theorem pl24 : placesL tab [{ name := "Kind", type := 3, offset := 0, embedded := false, tag := "", pkgPath := "", byteOffset := 0 }, { name := "N", type := 3, offset := 1, embedded := false, tag := "", pkgPath := "", byteOffset := 8 }, { name := "S", type := 9, offset := 2, embedded := false, tag := "", pkgPath := "", byteOffset := 16 }] = some [(0, 1), (1, 1), (2, 1)] := by simp only [placesL, sz3, sz9]
theorem bA24 {z : List AV} {ps : List (Nat × AV)} : buildA tab 24 z ps = fillA (fun i => [(0, 1), (1, 1), (2, 1)][i]?) z ps := bA_struct und24 pl24
theorem pT24_0 : partType tab 24 0 = 3 := by simp only [partType, und24]; rfl
theorem pT24_1 : partType tab 24 1 = 3 := by simp only [partType, und24]; rfl
theorem pT24_2 : partType tab 24 2 = 9 := by simp only [partType, und24]; rfl
theorem und25 : tab.und 25 = some (.slice 27) := (tab_und 25).trans Try.underlying25
theorem sz25 : size tab 25 = some 1 := by simp only [size, inf25, Option.map]
theorem ag25 : isAgg tab 25 = some false := by simp only [isAgg, und25]
theorem pT25 {i : Nat} : partType tab 25 i = 27 := by simp only [partType, und25]
theorem und27 : tab.und 27 = some (.struct #[{ name := "Op", type := 3, offset := 0, embedded := false, tag := "", pkgPath := "", byteOffset := 0 }, { name := "V", type := 24, offset := 1, embedded := false, tag := "", pkgPath := "", byteOffset := 8 }, { name := "Name", type := 9, offset := 4, embedded := false, tag := "", pkgPath := "", byteOffset := 40 }, { name := "Args", type := 25, offset := 5, embedded := false, tag := "", pkgPath := "", byteOffset := 56 }]) := (tab_und 27).trans Try.underlying27
theorem sz27 : size tab 27 = some 6 := by simp only [size, inf27, Option.map]
theorem ag27 : isAgg tab 27 = some true := by simp only [isAgg, und27]
theorem fo27 : fieldsOf tab 27 = some [{ name := "Op", type := 3, offset := 0, embedded := false, tag := "", pkgPath := "", byteOffset := 0 }, { name := "V", type := 24, offset := 1, embedded := false, tag := "", pkgPath := "", byteOffset := 8 }, { name := "Name", type := 9, offset := 4, embedded := false, tag := "", pkgPath := "", byteOffset := 40 }, { name := "Args", type := 25, offset := 5, embedded := false, tag := "", pkgPath := "", byteOffset := 56 }] := by simp only [fieldsOf, und27]
theorem pl27 : placesL tab [{ name := "Op", type := 3, offset := 0, embedded := false, tag := "", pkgPath := "", byteOffset := 0 }, { name := "V", type := 24, offset := 1, embedded := false, tag := "", pkgPath := "", byteOffset := 8 }, { name := "Name", type := 9, offset := 4, embedded := false, tag := "", pkgPath := "", byteOffset := 40 }, { name := "Args", type := 25, offset := 5, embedded := false, tag := "", pkgPath := "", byteOffset := 56 }] = some [(0, 1), (1, 3), (4, 1), (5, 1)] := by simp only [placesL, sz24, sz25, sz3, sz9]
theorem bA27 {z : List AV} {ps : List (Nat × AV)} : buildA tab 27 z ps = fillA (fun i => [(0, 1), (1, 3), (4, 1), (5, 1)][i]?) z ps := bA_struct und27 pl27
theorem pT27_0 : partType tab 27 0 = 3 := by simp only [partType, und27]; rfl
theorem pT27_1 : partType tab 27 1 = 24 := by simp only [partType, und27]; rfl
theorem pT27_2 : partType tab 27 2 = 9 := by simp only [partType, und27]; rfl
theorem pT27_3 : partType tab 27 3 = 25 := by simp only [partType, und27]; rfl
theorem und29 : tab.und 29 = some (.func #[3, 3] #[3] false) := (tab_und 29).trans Try.underlying29
theorem sz29 : size tab 29 = some 1 := by simp only [size, inf29, Option.map]
theorem ag29 : isAgg tab 29 = some false := by simp only [isAgg, und29]
theorem und30 : tab.und 30 = some (.slice 49) := (tab_und 30).trans Try.underlying30
theorem sz30 : size tab 30 = some 1 := by simp only [size, inf30, Option.map]
theorem ag30 : isAgg tab 30 = some false := by simp only [isAgg, und30]
theorem pT30 {i : Nat} : partType tab 30 i = 49 := by simp only [partType, und30]
theorem und34 : tab.und 34 = some (.int .i64) := (tab_und 34).trans Try.underlying34
theorem sz34 : size tab 34 = some 1 := by simp only [size, inf34, Option.map]
theorem ag34 : isAgg tab 34 = some false := by simp only [isAgg, und34]
theorem und39 : tab.und 39 = some (.func #[27, 27] #[4] false) := (tab_und 39).trans Try.underlying39
theorem sz39 : size tab 39 = some 1 := by simp only [size, inf39, Option.map]
theorem ag39 : isAgg tab 39 = some false := by simp only [isAgg, und39]
theorem und42 : tab.und 42 = some (.slice 9) := (tab_und 42).trans Try.underlying42
theorem sz42 : size tab 42 = some 1 := by simp only [size, inf42, Option.map]
theorem ag42 : isAgg tab 42 = some false := by simp only [isAgg, und42]
theorem pT42 {i : Nat} : partType tab 42 i = 9 := by simp only [partType, und42]
theorem und49 : tab.und 49 = some (.struct #[{ name := "Name", type := 9, offset := 0, embedded := false, tag := "", pkgPath := "", byteOffset := 0 }, { name := "Kind", type := 3, offset := 1, embedded := false, tag := "", pkgPath := "", byteOffset := 16 }, { name := "Type", type := 3, offset := 2, embedded := false, tag := "", pkgPath := "", byteOffset := 24 }, { name := "Source", type := 27, offset := 3, embedded := false, tag := "", pkgPath := "", byteOffset := 32 }]) := (tab_und 49).trans Try.underlying49
theorem sz49 : size tab 49 = some 9 := by simp only [size, inf49, Option.map]
theorem ag49 : isAgg tab 49 = some true := by simp only [isAgg, und49]
theorem fo49 : fieldsOf tab 49 = some [{ name := "Name", type := 9, offset := 0, embedded := false, tag := "", pkgPath := "", byteOffset := 0 }, { name := "Kind", type := 3, offset := 1, embedded := false, tag := "", pkgPath := "", byteOffset := 16 }, { name := "Type", type := 3, offset := 2, embedded := false, tag := "", pkgPath := "", byteOffset := 24 }, { name := "Source", type := 27, offset := 3, embedded := false, tag := "", pkgPath := "", byteOffset := 32 }] := by simp only [fieldsOf, und49]
theorem pl49 : placesL tab [{ name := "Name", type := 9, offset := 0, embedded := false, tag := "", pkgPath := "", byteOffset := 0 }, { name := "Kind", type := 3, offset := 1, embedded := false, tag := "", pkgPath := "", byteOffset := 16 }, { name := "Type", type := 3, offset := 2, embedded := false, tag := "", pkgPath := "", byteOffset := 24 }, { name := "Source", type := 27, offset := 3, embedded := false, tag := "", pkgPath := "", byteOffset := 32 }] = some [(0, 1), (1, 1), (2, 1), (3, 6)] := by simp only [placesL, sz27, sz3, sz9]
theorem bA49 {z : List AV} {ps : List (Nat × AV)} : buildA tab 49 z ps = fillA (fun i => [(0, 1), (1, 1), (2, 1), (3, 6)][i]?) z ps := bA_struct und49 pl49
theorem pT49_0 : partType tab 49 0 = 9 := by simp only [partType, und49]; rfl
theorem pT49_1 : partType tab 49 1 = 3 := by simp only [partType, und49]; rfl
theorem pT49_2 : partType tab 49 2 = 3 := by simp only [partType, und49]; rfl
theorem pT49_3 : partType tab 49 3 = 27 := by simp only [partType, und49]; rfl
theorem und56 : tab.und 56 = some (.slice 65) := (tab_und 56).trans Try.underlying56
theorem sz56 : size tab 56 = some 1 := by simp only [size, inf56, Option.map]
theorem ag56 : isAgg tab 56 = some false := by simp only [isAgg, und56]
theorem pT56 {i : Nat} : partType tab 56 i = 65 := by simp only [partType, und56]
theorem und65 : tab.und 65 = some (.struct #[{ name := "Name", type := 9, offset := 0, embedded := false, tag := "", pkgPath := "", byteOffset := 0 }, { name := "Key", type := 24, offset := 1, embedded := false, tag := "", pkgPath := "", byteOffset := 16 }, { name := "Has", type := 24, offset := 4, embedded := false, tag := "", pkgPath := "", byteOffset := 48 }]) := (tab_und 65).trans Try.underlying65
theorem sz65 : size tab 65 = some 7 := by simp only [size, inf65, Option.map]
theorem ag65 : isAgg tab 65 = some true := by simp only [isAgg, und65]
theorem fo65 : fieldsOf tab 65 = some [{ name := "Name", type := 9, offset := 0, embedded := false, tag := "", pkgPath := "", byteOffset := 0 }, { name := "Key", type := 24, offset := 1, embedded := false, tag := "", pkgPath := "", byteOffset := 16 }, { name := "Has", type := 24, offset := 4, embedded := false, tag := "", pkgPath := "", byteOffset := 48 }] := by simp only [fieldsOf, und65]
theorem pl65 : placesL tab [{ name := "Name", type := 9, offset := 0, embedded := false, tag := "", pkgPath := "", byteOffset := 0 }, { name := "Key", type := 24, offset := 1, embedded := false, tag := "", pkgPath := "", byteOffset := 16 }, { name := "Has", type := 24, offset := 4, embedded := false, tag := "", pkgPath := "", byteOffset := 48 }] = some [(0, 1), (1, 3), (4, 3)] := by simp only [placesL, sz24, sz9]
theorem bA65 {z : List AV} {ps : List (Nat × AV)} : buildA tab 65 z ps = fillA (fun i => [(0, 1), (1, 3), (4, 3)][i]?) z ps := bA_struct und65 pl65
theorem pT65_0 : partType tab 65 0 = 9 := by simp only [partType, und65]; rfl
theorem pT65_1 : partType tab 65 1 = 24 := by simp only [partType, und65]; rfl
theorem pT65_2 : partType tab 65 2 = 24 := by simp only [partType, und65]; rfl
theorem und66 : tab.und 66 = some (.func #[9] #[27] false) := (tab_und 66).trans Try.underlying66
theorem sz66 : size tab 66 = some 1 := by simp only [size, inf66, Option.map]
theorem ag66 : isAgg tab 66 = some false := by simp only [isAgg, und66]
theorem und67 : tab.und 67 = some (.slice 3) := (tab_und 67).trans Try.underlying67
theorem sz67 : size tab 67 = some 1 := by simp only [size, inf67, Option.map]
theorem ag67 : isAgg tab 67 = some false := by simp only [isAgg, und67]
theorem pT67 {i : Nat} : partType tab 67 i = 3 := by simp only [partType, und67]
theorem und71 : tab.und 71 = some (.pointer 73) := (tab_und 71).trans Try.underlying71
theorem sz71 : size tab 71 = some 1 := by simp only [size, inf71, Option.map]
theorem ag71 : isAgg tab 71 = some false := by simp only [isAgg, und71]
theorem und73 : tab.und 73 = some (.struct #[{ name := "l", type := 22, offset := 0, embedded := false, tag := "", pkgPath := "lychway/lychwaykeep", byteOffset := 0 }, { name := "at", type := 3, offset := 1, embedded := false, tag := "", pkgPath := "lychway/lychwaykeep", byteOffset := 24 }]) := (tab_und 73).trans Try.underlying73
theorem sz73 : size tab 73 = some 2 := by simp only [size, inf73, Option.map]
theorem ag73 : isAgg tab 73 = some true := by simp only [isAgg, und73]
theorem fo73 : fieldsOf tab 73 = some [{ name := "l", type := 22, offset := 0, embedded := false, tag := "", pkgPath := "lychway/lychwaykeep", byteOffset := 0 }, { name := "at", type := 3, offset := 1, embedded := false, tag := "", pkgPath := "lychway/lychwaykeep", byteOffset := 24 }] := by simp only [fieldsOf, und73]
theorem pl73 : placesL tab [{ name := "l", type := 22, offset := 0, embedded := false, tag := "", pkgPath := "lychway/lychwaykeep", byteOffset := 0 }, { name := "at", type := 3, offset := 1, embedded := false, tag := "", pkgPath := "lychway/lychwaykeep", byteOffset := 24 }] = some [(0, 1), (1, 1)] := by simp only [placesL, sz22, sz3]
theorem bA73 {z : List AV} {ps : List (Nat × AV)} : buildA tab 73 z ps = fillA (fun i => [(0, 1), (1, 1)][i]?) z ps := bA_struct und73 pl73
theorem pT73_0 : partType tab 73 0 = 22 := by simp only [partType, und73]; rfl
theorem pT73_1 : partType tab 73 1 = 3 := by simp only [partType, und73]; rfl
theorem und75 : tab.und 75 = some (.array 2 27) := (tab_und 75).trans Try.underlying75
theorem sz75 : size tab 75 = some 12 := by simp only [size, inf75, Option.map]
theorem ag75 : isAgg tab 75 = some true := by simp only [isAgg, und75]
theorem bA75 {z : List AV} {ps : List (Nat × AV)} : buildA tab 75 z ps = fillA (fun i => some (i * 6, 6)) z ps := by simp only [buildA, und75, sz27]
theorem pT75 {i : Nat} : partType tab 75 i = 27 := by simp only [partType, und75]
theorem und79 : tab.und 79 = some (.func #[106] #[] false) := (tab_und 79).trans Try.underlying79
theorem sz79 : size tab 79 = some 1 := by simp only [size, inf79, Option.map]
theorem ag79 : isAgg tab 79 = some false := by simp only [isAgg, und79]
theorem und80 : tab.und 80 = some (.func #[106] #[] false) := (tab_und 80).trans Try.underlying80
theorem sz80 : size tab 80 = some 1 := by simp only [size, inf80, Option.map]
theorem ag80 : isAgg tab 80 = some false := by simp only [isAgg, und80]
theorem und99 : tab.und 99 = some (.struct #[{ name := "Kind", type := 3, offset := 0, embedded := false, tag := "", pkgPath := "", byteOffset := 0 }, { name := "A", type := 3, offset := 1, embedded := false, tag := "", pkgPath := "", byteOffset := 8 }, { name := "B", type := 3, offset := 2, embedded := false, tag := "", pkgPath := "", byteOffset := 16 }, { name := "Text", type := 9, offset := 3, embedded := false, tag := "", pkgPath := "", byteOffset := 24 }]) := (tab_und 99).trans Try.underlying99
theorem sz99 : size tab 99 = some 4 := by simp only [size, inf99, Option.map]
theorem ag99 : isAgg tab 99 = some true := by simp only [isAgg, und99]
theorem fo99 : fieldsOf tab 99 = some [{ name := "Kind", type := 3, offset := 0, embedded := false, tag := "", pkgPath := "", byteOffset := 0 }, { name := "A", type := 3, offset := 1, embedded := false, tag := "", pkgPath := "", byteOffset := 8 }, { name := "B", type := 3, offset := 2, embedded := false, tag := "", pkgPath := "", byteOffset := 16 }, { name := "Text", type := 9, offset := 3, embedded := false, tag := "", pkgPath := "", byteOffset := 24 }] := by simp only [fieldsOf, und99]
theorem pl99 : placesL tab [{ name := "Kind", type := 3, offset := 0, embedded := false, tag := "", pkgPath := "", byteOffset := 0 }, { name := "A", type := 3, offset := 1, embedded := false, tag := "", pkgPath := "", byteOffset := 8 }, { name := "B", type := 3, offset := 2, embedded := false, tag := "", pkgPath := "", byteOffset := 16 }, { name := "Text", type := 9, offset := 3, embedded := false, tag := "", pkgPath := "", byteOffset := 24 }] = some [(0, 1), (1, 1), (2, 1), (3, 1)] := by simp only [placesL, sz3, sz9]
theorem bA99 {z : List AV} {ps : List (Nat × AV)} : buildA tab 99 z ps = fillA (fun i => [(0, 1), (1, 1), (2, 1), (3, 1)][i]?) z ps := bA_struct und99 pl99
theorem pT99_0 : partType tab 99 0 = 3 := by simp only [partType, und99]; rfl
theorem pT99_1 : partType tab 99 1 = 3 := by simp only [partType, und99]; rfl
theorem pT99_2 : partType tab 99 2 = 3 := by simp only [partType, und99]; rfl
theorem pT99_3 : partType tab 99 3 = 9 := by simp only [partType, und99]; rfl
theorem und103 : tab.und 103 = some (.func #[3, 67] #[27] true) := (tab_und 103).trans Try.underlying103
theorem sz103 : size tab 103 = some 1 := by simp only [size, inf103, Option.map]
theorem ag103 : isAgg tab 103 = some false := by simp only [isAgg, und103]
theorem und104 : tab.und 104 = some (.func #[5] #[4] false) := (tab_und 104).trans Try.underlying104
theorem sz104 : size tab 104 = some 1 := by simp only [size, inf104, Option.map]
theorem ag104 : isAgg tab 104 = some false := by simp only [isAgg, und104]
theorem und106 : tab.und 106 = some (.func #[9] #[4] false) := (tab_und 106).trans Try.underlying106
theorem sz106 : size tab 106 = some 1 := by simp only [size, inf106, Option.map]
theorem ag106 : isAgg tab 106 = some false := by simp only [isAgg, und106]
theorem und108 : tab.und 108 = some (.func #[27] #[4] false) := (tab_und 108).trans Try.underlying108
theorem sz108 : size tab 108 = some 1 := by simp only [size, inf108, Option.map]
theorem ag108 : isAgg tab 108 = some false := by simp only [isAgg, und108]
theorem und112 : tab.und 112 = some (.struct #[{ name := "args", type := 67, offset := 0, embedded := false, tag := "", pkgPath := "lychway/typing", byteOffset := 0 }, { name := "own", type := 3, offset := 1, embedded := false, tag := "", pkgPath := "lychway/typing", byteOffset := 24 }]) := (tab_und 112).trans Try.underlying112
theorem sz112 : size tab 112 = some 2 := by simp only [size, inf112, Option.map]
theorem ag112 : isAgg tab 112 = some true := by simp only [isAgg, und112]
theorem fo112 : fieldsOf tab 112 = some [{ name := "args", type := 67, offset := 0, embedded := false, tag := "", pkgPath := "lychway/typing", byteOffset := 0 }, { name := "own", type := 3, offset := 1, embedded := false, tag := "", pkgPath := "lychway/typing", byteOffset := 24 }] := by simp only [fieldsOf, und112]
theorem pl112 : placesL tab [{ name := "args", type := 67, offset := 0, embedded := false, tag := "", pkgPath := "lychway/typing", byteOffset := 0 }, { name := "own", type := 3, offset := 1, embedded := false, tag := "", pkgPath := "lychway/typing", byteOffset := 24 }] = some [(0, 1), (1, 1)] := by simp only [placesL, sz3, sz67]
theorem bA112 {z : List AV} {ps : List (Nat × AV)} : buildA tab 112 z ps = fillA (fun i => [(0, 1), (1, 1)][i]?) z ps := bA_struct und112 pl112
theorem pT112_0 : partType tab 112 0 = 67 := by simp only [partType, und112]; rfl
theorem pT112_1 : partType tab 112 1 = 3 := by simp only [partType, und112]; rfl
theorem und115 : tab.und 115 = some (.func #[136] #[] false) := (tab_und 115).trans Try.underlying115
theorem sz115 : size tab 115 = some 1 := by simp only [size, inf115, Option.map]
theorem ag115 : isAgg tab 115 = some false := by simp only [isAgg, und115]
theorem und116 : tab.und 116 = some (.func #[136] #[] false) := (tab_und 116).trans Try.underlying116
theorem sz116 : size tab 116 = some 1 := by simp only [size, inf116, Option.map]
theorem ag116 : isAgg tab 116 = some false := by simp only [isAgg, und116]
theorem und121 : tab.und 121 = some (.slice 24) := (tab_und 121).trans Try.underlying121
theorem sz121 : size tab 121 = some 1 := by simp only [size, inf121, Option.map]
theorem ag121 : isAgg tab 121 = some false := by simp only [isAgg, und121]
theorem pT121 {i : Nat} : partType tab 121 i = 24 := by simp only [partType, und121]
theorem und129 : tab.und 129 = some (.struct #[{ name := "sign", type := 9, offset := 0, embedded := false, tag := "", pkgPath := "lychway/expr", byteOffset := 0 }, { name := "level", type := 3, offset := 1, embedded := false, tag := "", pkgPath := "lychway/expr", byteOffset := 16 }, { name := "args", type := 3, offset := 2, embedded := false, tag := "", pkgPath := "lychway/expr", byteOffset := 24 }]) := (tab_und 129).trans Try.underlying129
theorem sz129 : size tab 129 = some 3 := by simp only [size, inf129, Option.map]
theorem ag129 : isAgg tab 129 = some true := by simp only [isAgg, und129]
theorem fo129 : fieldsOf tab 129 = some [{ name := "sign", type := 9, offset := 0, embedded := false, tag := "", pkgPath := "lychway/expr", byteOffset := 0 }, { name := "level", type := 3, offset := 1, embedded := false, tag := "", pkgPath := "lychway/expr", byteOffset := 16 }, { name := "args", type := 3, offset := 2, embedded := false, tag := "", pkgPath := "lychway/expr", byteOffset := 24 }] := by simp only [fieldsOf, und129]
theorem pl129 : placesL tab [{ name := "sign", type := 9, offset := 0, embedded := false, tag := "", pkgPath := "lychway/expr", byteOffset := 0 }, { name := "level", type := 3, offset := 1, embedded := false, tag := "", pkgPath := "lychway/expr", byteOffset := 16 }, { name := "args", type := 3, offset := 2, embedded := false, tag := "", pkgPath := "lychway/expr", byteOffset := 24 }] = some [(0, 1), (1, 1), (2, 1)] := by simp only [placesL, sz3, sz9]
theorem bA129 {z : List AV} {ps : List (Nat × AV)} : buildA tab 129 z ps = fillA (fun i => [(0, 1), (1, 1), (2, 1)][i]?) z ps := bA_struct und129 pl129
theorem pT129_0 : partType tab 129 0 = 9 := by simp only [partType, und129]; rfl
theorem pT129_1 : partType tab 129 1 = 3 := by simp only [partType, und129]; rfl
theorem pT129_2 : partType tab 129 2 = 3 := by simp only [partType, und129]; rfl
theorem und130 : tab.und 130 = some (.array 19 129) := (tab_und 130).trans Try.underlying130
theorem sz130 : size tab 130 = some 57 := by simp only [size, inf130, Option.map]
theorem ag130 : isAgg tab 130 = some true := by simp only [isAgg, und130]
theorem bA130 {z : List AV} {ps : List (Nat × AV)} : buildA tab 130 z ps = fillA (fun i => some (i * 3, 3)) z ps := by simp only [buildA, und130, sz129]
theorem pT130 {i : Nat} : partType tab 130 i = 129 := by simp only [partType, und130]
theorem und136 : tab.und 136 = some (.func #[3, 49] #[4] false) := (tab_und 136).trans Try.underlying136
theorem sz136 : size tab 136 = some 1 := by simp only [size, inf136, Option.map]
theorem ag136 : isAgg tab 136 = some false := by simp only [isAgg, und136]
theorem und140 : tab.und 140 = some (.func #[3, 3] #[3, 34] false) := (tab_und 140).trans Try.underlying140
theorem sz140 : size tab 140 = some 1 := by simp only [size, inf140, Option.map]
theorem ag140 : isAgg tab 140 = some false := by simp only [isAgg, und140]
theorem und142 : tab.und 142 = some (.slice 5) := (tab_und 142).trans Try.underlying142
theorem sz142 : size tab 142 = some 1 := by simp only [size, inf142, Option.map]
theorem ag142 : isAgg tab 142 = some false := by simp only [isAgg, und142]
theorem pT142 {i : Nat} : partType tab 142 i = 5 := by simp only [partType, und142]
theorem und82 : tab.und 82 = some (.map 9 4) := (tab_und 82).trans Try.underlying82
theorem und88 : tab.und 88 = some (.map 9 3) := (tab_und 88).trans Try.underlying88
theorem und90 : tab.und 90 = some (.map 3 112) := (tab_und 90).trans Try.underlying90
theorem und92 : tab.und 92 = some (.map 9 24) := (tab_und 92).trans Try.underlying92
theorem und95 : tab.und 95 = some (.map 9 24) := (tab_und 95).trans Try.underlying95
theorem und141 : tab.und 141 = some (.map 3 140) := (tab_und 141).trans Try.underlying141
theorem lv2 : leaves tab 8 2 = some [.int .i64] := by (simp [leaves, leavesF, sized, tab_cmp, cmpsL, tab, und2, sz2]; try rfl)
theorem lv3 : leaves tab 8 3 = some [.int .i64] := by (simp [leaves, leavesF, sized, tab_cmp, cmpsL, tab, und3, sz3]; try rfl)
theorem lv4 : leaves tab 8 4 = some [.bool] := by (simp [leaves, leavesF, sized, tab_cmp, cmpsL, tab, und4, sz4]; try rfl)
theorem lv5 : leaves tab 8 5 = some [.int .u8] := by (simp [leaves, leavesF, sized, tab_cmp, cmpsL, tab, und5, sz5]; try rfl)
theorem lv6 : leaves tab 8 6 = some [.int .u8] := by (simp [leaves, leavesF, sized, tab_cmp, cmpsL, tab, und6, sz6]; try rfl)
theorem lv9 : leaves tab 8 9 = some [.string] := by (simp [leaves, leavesF, sized, tab_cmp, cmpsL, tab, und9, sz9]; try rfl)
theorem lv24 : leaves tab 8 24 = some [.int .i64, .int .i64, .string] := by (simp [leaves, leavesF, sized, tab_cmp, cmpsL, tab, und3, sz3, und9, sz9, und24, sz24]; try rfl)
theorem lv34 : leaves tab 8 34 = some [.int .i64] := by (simp [leaves, leavesF, sized, tab_cmp, cmpsL, tab, und34, sz34]; try rfl)
theorem kp3_5 : tab.keep 3 5 = some ([5, 6, 7, 8, 9, 26, 27, 28], [5, 18, 19, 22, 27, 34, 42, 59]) := tab_keep (by kernel_rfl)
theorem kp5_7 : tab.keep 5 7 = some ([5, 6, 54, 55, 56], [5, 16, 17, 20, 42, 47, 48, 49, 51, 54, 55, 63, 67]) := tab_keep (by kernel_rfl)
theorem kp6_4 : tab.keep 6 4 = some ([5, 6, 14], [5, 12, 13, 18, 20]) := tab_keep (by kernel_rfl)
theorem kp13_4 : tab.keep 13 4 = some ([9, 10, 11, 30, 31], [9, 13, 15, 23, 24, 26, 28, 30, 40, 52, 58]) := tab_keep (by kernel_rfl)
theorem kp18_3 : tab.keep 18 3 = some ([4, 5, 11, 12, 13], [1, 12, 19, 27]) := tab_keep (by kernel_rfl)
theorem kp20_2 : tab.keep 20 2 = some ([1, 3, 5, 6, 16, 17], [3, 5, 6, 12, 21, 28, 36, 38]) := tab_keep (by kernel_rfl)
theorem kp24_4 : tab.keep 24 4 = some ([0, 1, 12, 13], [7, 9, 12]) := tab_keep (by kernel_rfl)
theorem kp25_2 : tab.keep 25 2 = some ([0, 3], [5, 20]) := tab_keep (by kernel_rfl)
theorem kp26_9 : tab.keep 26 9 = some ([0, 3, 4, 5], [7, 12, 31]) := tab_keep (by kernel_rfl)
theorem kp26_4 : tab.keep 26 4 = some ([0, 3], [7, 12, 31]) := tab_keep (by kernel_rfl)
theorem kp32_4 : tab.keep 32 4 = some ([3, 4, 10, 11, 12], [9, 10, 11, 22, 23, 26]) := tab_keep (by kernel_rfl)
theorem kp40_5 : tab.keep 40 5 = some ([13, 14, 15], [1, 8, 14, 20]) := tab_keep (by kernel_rfl)
theorem kp42_6 : tab.keep 42 6 = some ([1, 5, 6, 7, 24, 25, 26], [3, 5, 6, 7, 20, 25, 35, 37]) := tab_keep (by kernel_rfl)
theorem kp43_4 : tab.keep 43 4 = some ([1, 2, 15, 16, 17], [11, 13, 16, 29]) := tab_keep (by kernel_rfl)
theorem kp48_2 : tab.keep 48 2 = some ([0, 1, 7, 8], [7]) := tab_keep (by kernel_rfl)
theorem kp49_11 : tab.keep 49 11 = some ([1, 2, 3, 10, 37, 38, 39], [3, 15, 38, 47, 56, 71]) := tab_keep (by kernel_rfl)
theorem kp52_3 : tab.keep 52 3 = some ([4, 11, 12, 13], [10, 12, 19]) := tab_keep (by kernel_rfl)
theorem kp57_4 : tab.keep 57 4 = some ([1, 6, 7, 8, 13, 14, 15], [6, 7, 12, 14, 27, 30, 35, 40, 45, 46]) := tab_keep (by kernel_rfl)
theorem kp58_3 : tab.keep 58 3 = some ([2, 3, 4, 7, 8, 13, 14, 15], [7, 8, 14, 26, 28]) := tab_keep (by kernel_rfl)
theorem kp61_2 : tab.keep 61 2 = some ([0, 1, 5], [8, 15]) := tab_keep (by kernel_rfl)
theorem kp65_4 : tab.keep 65 4 = some ([2, 3, 9, 10, 11], [1, 2, 3, 10, 18, 20]) := tab_keep (by kernel_rfl)
theorem kp67_4 : tab.keep 67 4 = some ([2, 18, 19, 20], [3, 14, 19, 26]) := tab_keep (by kernel_rfl)
theorem kp72_4 : tab.keep 72 4 = some ([0, 1, 12, 13], [7, 9, 12]) := tab_keep (by kernel_rfl)
theorem kp77_4 : tab.keep 77 4 = some ([0, 5, 6, 7, 11, 12, 13], [5, 7, 12, 19, 31]) := tab_keep (by kernel_rfl)
theorem kp79_3 : tab.keep 79 3 = some ([5, 15, 16, 17], [10, 12, 14, 16, 30]) := tab_keep (by kernel_rfl)
theorem kp81_4 : tab.keep 81 4 = some ([0, 8, 9], [5, 8]) := tab_keep (by kernel_rfl)
theorem kp87_1 : tab.keep 87 1 = some ([0, 1, 3], [5, 17]) := tab_keep (by kernel_rfl)
theorem kp90_2 : tab.keep 90 2 = some ([1, 7, 8, 9], [8]) := tab_keep (by kernel_rfl)
theorem kp106_3 : tab.keep 106 3 = some ([3, 6, 7, 8], [7]) := tab_keep (by kernel_rfl)
theorem dr4_9 : tab.drw 4 9 = some [[], [], [], [], [], [], [], [], [], [], [], [], [], [], [], [], [], [], [17], [], [], [], [], [], [], [], [], [], []] := tab_drw (by kernel_rfl)
theorem dr5_9 : tab.drw 5 9 = some [[], [], [], [], [], [3], [3], [], []] := tab_drw (by kernel_rfl)
theorem dr6_6 : tab.drw 6 6 = some [[], [0], [], [], []] := tab_drw (by kernel_rfl)
theorem dr7_3 : tab.drw 7 3 = some [[], [0], [], [], [], [], [], []] := tab_drw (by kernel_rfl)
theorem dr7_4 : tab.drw 7 4 = some [[], [], [0], [0], [], [], [], [], [0, 2, 3, 4], [], []] := tab_drw (by kernel_rfl)
theorem dr7_7 : tab.drw 7 7 = some [[], [0], [], [], [], [], [], []] := tab_drw (by kernel_rfl)
theorem dr8_3 : tab.drw 8 3 = some [[], [], [0], [], [], [], [], [0, 2, 3], [], []] := tab_drw (by kernel_rfl)
theorem dr8_4 : tab.drw 8 4 = some [[], [0], [], [], [], [], [], [6], [], [], [], [], [], [], [], [], [], []] := tab_drw (by kernel_rfl)
theorem dr9_3 : tab.drw 9 3 = some [[], [0], [0], [], [], [], [], [], [], [], [0, 1, 2, 4, 6], [], []] := tab_drw (by kernel_rfl)
theorem dr9_4 : tab.drw 9 4 = some [[], [0], [0], [], [], [], [], [], [], [], [0, 1, 2, 4, 6], [], []] := tab_drw (by kernel_rfl)
theorem dr9_6 : tab.drw 9 6 = some [[], [0], [], [], [], [], [], [], [], [0, 1, 3, 5], [], []] := tab_drw (by kernel_rfl)
theorem dr9_7 : tab.drw 9 7 = some [[], [0], [], [], [], [], [], [], [], [0, 1, 3, 5], [], []] := tab_drw (by kernel_rfl)
theorem dr9_8 : tab.drw 9 8 = some [[], [], [], [], [], [], [], [], [], [], [], [], [], [], [], [], [], [], [], [], [], [], [], [], [], [], [], [], [], [], [], [], [], [], [], [34], [], [], [], [], [], [40], [], [], [], []] := tab_drw (by kernel_rfl)
theorem dr10_4 : tab.drw 10 4 = some [[], [], [], [2], [], [], [], [], [], [], [], [], [], [0, 2, 3, 5, 7, 9], [], []] := tab_drw (by kernel_rfl)
theorem dr13_6 : tab.drw 13 6 = some [[], [], [], [], [], [], []] := tab_drw (by kernel_rfl)
theorem dr14_4 : tab.drw 14 4 = some [[], [], [0], [], [], [], [], [0, 2, 3], [], []] := tab_drw (by kernel_rfl)
theorem dr14_9 : tab.drw 14 9 = some [[], [], [0], [], [], [], [], [0, 2, 3], [], []] := tab_drw (by kernel_rfl)
theorem dr14_10 : tab.drw 14 10 = some [[], [], [], [], [], [0, 1], [0], [], [], [], [], [0, 1, 5, 6, 7], [], []] := tab_drw (by kernel_rfl)
theorem dr24_6 : tab.drw 24 6 = some [[], [], [], [], [], [], [], [], []] := tab_drw (by kernel_rfl)
theorem dr25_4 : tab.drw 25 4 = some [[], [], [], [], [], [], [], [], [], []] := tab_drw (by kernel_rfl)
theorem dr26_6 : tab.drw 26 6 = some [[], [], [], [], [], [], [], [], [], []] := tab_drw (by kernel_rfl)
theorem dr26_11 : tab.drw 26 11 = some [[], [], [], [], [], [], [], [], [], []] := tab_drw (by kernel_rfl)
theorem dr30_4 : tab.drw 30 4 = some [[], [], [0], [0], [], [], [], [], []] := tab_drw (by kernel_rfl)
theorem dr32_6 : tab.drw 32 6 = some [[], [], [], [], [], [], [1, 2, 3, 4], [1, 2], [], [], [], []] := tab_drw (by kernel_rfl)
theorem dr42_8 : tab.drw 42 8 = some [[], [], [], [], [], [0, 1], [], [], [], []] := tab_drw (by kernel_rfl)
theorem dr49_23 : tab.drw 49 23 = some [[], [], [], [], [], [], [], [], [], [], [], [], [], [], [], [], [], [], []] := tab_drw (by kernel_rfl)
theorem dr49_25 : tab.drw 49 25 = some [[], [], [], [], [], [], [], [], [], [], [], [], []] := tab_drw (by kernel_rfl)
theorem dr51_2 : tab.drw 51 2 = some [[], [], [0], [], [], [], [0, 4], [], [2, 4], [], [0, 4, 8], [], [2, 4, 6, 8], [], [], [2, 4, 6, 8, 10, 12], [], [], [2, 4, 6, 8, 10, 12, 15], [], [], [2, 4, 6, 8, 10, 12, 15, 18], [], [], [2, 4, 6, 8, 10, 12, 15, 18, 21], [], [], [2, 4, 6, 8, 10, 12, 15, 18, 21, 24], [], [], [2, 4, 6, 8, 10, 12, 15, 18, 21, 24, 27], [], [], [2, 4, 6, 8, 10, 12, 15, 18, 21, 24, 27, 30], [], [], [2, 4, 6, 8, 10, 12, 15, 18, 21, 24, 27, 30, 33], [], []] := tab_drw (by kernel_rfl)
theorem dr55_3 : tab.drw 55 3 = some [[], [], [], [], [], [], [], [], [], [], [], [], [], [], [], [], [1, 2, 3, 5, 6, 7, 9, 10, 11, 12, 14, 15], []] := tab_drw (by kernel_rfl)
theorem dr55_4 : tab.drw 55 4 = some [[], [], [], [], [], [], [], [], [], [], [], [], [], [], []] := tab_drw (by kernel_rfl)
theorem dr58_5 : tab.drw 58 5 = some [[], [], [], [], [], [], [], [0, 1], [], [], [], []] := tab_drw (by kernel_rfl)
theorem dr59_3 : tab.drw 59 3 = some [[], [], [], [0, 1, 2], [3], [3], [], [], []] := tab_drw (by kernel_rfl)
theorem dr65_6 : tab.drw 65 6 = some [[], [], [], [0, 1], [], [], [], []] := tab_drw (by kernel_rfl)
theorem dr72_6 : tab.drw 72 6 = some [[], [], [], [], [], [], [], [], []] := tab_drw (by kernel_rfl)
theorem dr75_4 : tab.drw 75 4 = some [[], [], [], [], [1, 2], []] := tab_drw (by kernel_rfl)
theorem dr77_8 : tab.drw 77 8 = some [[], [], []] := tab_drw (by kernel_rfl)
theorem dr77_13 : tab.drw 77 13 = some [[], [], [], []] := tab_drw (by kernel_rfl)
theorem dr78_6 : tab.drw 78 6 = some [[], [], [], [], [], [], [], [], [], [], [], []] := tab_drw (by kernel_rfl)
theorem dr78_20 : tab.drw 78 20 = some [[], [], [], [], [], [], [], [], [], [], [], []] := tab_drw (by kernel_rfl)
theorem dr78_22 : tab.drw 78 22 = some [[], [], [], [], [], [], [], [], [], [], []] := tab_drw (by kernel_rfl)
theorem dr78_26 : tab.drw 78 26 = some [[], [], [], [], [], [], [], [], [], [], [], [], []] := tab_drw (by kernel_rfl)
theorem dr88_3 : tab.drw 88 3 = some [[], [], [], [], [], [4], [4], [4], [4], [], [], [], [], []] := tab_drw (by kernel_rfl)
theorem dr112_1 : tab.drw 112 1 = some [[], [], [], [], [], [], [], []] := tab_drw (by kernel_rfl)
theorem lv3_0 : tab.lv 3 0 = some 3 := tab_lv (by kernel_rfl)
theorem lv3_1 : tab.lv 3 1 = some 32 := tab_lv (by kernel_rfl)
theorem lv3_2 : tab.lv 3 2 = some 224 := tab_lv (by kernel_rfl)
theorem lv3_3 : tab.lv 3 3 = some 992 := tab_lv (by kernel_rfl)
theorem lv3_4 : tab.lv 3 4 = some 469763040 := tab_lv (by kernel_rfl)
theorem lv3_5 : tab.lv 3 5 = some 1006633952 := tab_lv (by kernel_rfl)
theorem lv3_6 : tab.lv 3 6 = some 469765088 := tab_lv (by kernel_rfl)
theorem lv3_7 : tab.lv 3 7 = some 469775328 := tab_lv (by kernel_rfl)
theorem lv3_8 : tab.lv 3 8 = some 469763040 := tab_lv (by kernel_rfl)
theorem lv3_9 : tab.lv 3 9 = some 469763040 := tab_lv (by kernel_rfl)
theorem lv3_10 : tab.lv 3 10 = some 16 := tab_lv (by kernel_rfl)
theorem lv4_0 : tab.lv 4 0 = some 7 := tab_lv (by kernel_rfl)
theorem lv4_1 : tab.lv 4 1 = some 130 := tab_lv (by kernel_rfl)
theorem lv4_2 : tab.lv 4 2 = some 384 := tab_lv (by kernel_rfl)
theorem lv4_3 : tab.lv 4 3 = some 1920 := tab_lv (by kernel_rfl)
theorem lv4_4 : tab.lv 4 4 = some 8064 := tab_lv (by kernel_rfl)
theorem lv4_5 : tab.lv 4 5 = some 4398046513024 := tab_lv (by kernel_rfl)
theorem lv4_6 : tab.lv 4 6 = some 64 := tab_lv (by kernel_rfl)
theorem lv4_7 : tab.lv 4 7 = some 17592186046336 := tab_lv (by kernel_rfl)
theorem lv4_8 : tab.lv 4 8 = some 64 := tab_lv (by kernel_rfl)
theorem lv4_9 : tab.lv 4 9 = some 64 := tab_lv (by kernel_rfl)
theorem lv5_0 : tab.lv 5 0 = some 3 := tab_lv (by kernel_rfl)
theorem lv5_1 : tab.lv 5 1 = some 32 := tab_lv (by kernel_rfl)
theorem lv5_2 : tab.lv 5 2 = some 224 := tab_lv (by kernel_rfl)
theorem lv5_3 : tab.lv 5 3 = some 992 := tab_lv (by kernel_rfl)
theorem lv5_4 : tab.lv 5 4 = some 9007199254741088 := tab_lv (by kernel_rfl)
theorem lv5_5 : tab.lv 5 5 = some 16 := tab_lv (by kernel_rfl)
theorem lv5_6 : tab.lv 5 6 = some 126100789566373984 := tab_lv (by kernel_rfl)
theorem lv5_7 : tab.lv 5 7 = some 270215977642229856 := tab_lv (by kernel_rfl)
theorem lv5_8 : tab.lv 5 8 = some 126100789566376032 := tab_lv (by kernel_rfl)
theorem lv5_9 : tab.lv 5 9 = some 295274005968919199840 := tab_lv (by kernel_rfl)
theorem lv5_10 : tab.lv 5 10 = some 16 := tab_lv (by kernel_rfl)
theorem lv5_11 : tab.lv 5 11 = some 126100789566373984 := tab_lv (by kernel_rfl)
theorem lv5_12 : tab.lv 5 12 = some 16 := tab_lv (by kernel_rfl)
theorem lv6_0 : tab.lv 6 0 = some 3 := tab_lv (by kernel_rfl)
theorem lv6_1 : tab.lv 6 1 = some 32 := tab_lv (by kernel_rfl)
theorem lv6_2 : tab.lv 6 2 = some 96 := tab_lv (by kernel_rfl)
theorem lv6_3 : tab.lv 6 3 = some 16480 := tab_lv (by kernel_rfl)
theorem lv6_4 : tab.lv 6 4 = some 49248 := tab_lv (by kernel_rfl)
theorem lv6_5 : tab.lv 6 5 = some 16608 := tab_lv (by kernel_rfl)
theorem lv6_6 : tab.lv 6 6 = some 2113632 := tab_lv (by kernel_rfl)
theorem lv6_7 : tab.lv 6 7 = some 16480 := tab_lv (by kernel_rfl)
theorem lv6_8 : tab.lv 6 8 = some 16480 := tab_lv (by kernel_rfl)
theorem lv6_9 : tab.lv 6 9 = some 16 := tab_lv (by kernel_rfl)
theorem lv7_0 : tab.lv 7 0 = some 7 := tab_lv (by kernel_rfl)
theorem lv7_1 : tab.lv 7 1 = some 7 := tab_lv (by kernel_rfl)
theorem lv7_2 : tab.lv 7 2 = some 134 := tab_lv (by kernel_rfl)
theorem lv7_3 : tab.lv 7 3 = some 902 := tab_lv (by kernel_rfl)
theorem lv7_4 : tab.lv 7 4 = some 3844 := tab_lv (by kernel_rfl)
theorem lv7_5 : tab.lv 7 5 = some 2199023258628 := tab_lv (by kernel_rfl)
theorem lv7_6 : tab.lv 7 6 = some 64 := tab_lv (by kernel_rfl)
theorem lv7_7 : tab.lv 7 7 = some 14340 := tab_lv (by kernel_rfl)
theorem lv7_8 : tab.lv 7 8 = some 64 := tab_lv (by kernel_rfl)
theorem lv8_0 : tab.lv 8 0 = some 7 := tab_lv (by kernel_rfl)
theorem lv8_1 : tab.lv 8 1 = some 7 := tab_lv (by kernel_rfl)
theorem lv8_2 : tab.lv 8 2 = some 134 := tab_lv (by kernel_rfl)
theorem lv8_3 : tab.lv 8 3 = some 900 := tab_lv (by kernel_rfl)
theorem lv8_4 : tab.lv 8 4 = some 2199023255812 := tab_lv (by kernel_rfl)
theorem lv8_5 : tab.lv 8 5 = some 64 := tab_lv (by kernel_rfl)
theorem lv8_6 : tab.lv 8 6 = some 64 := tab_lv (by kernel_rfl)
theorem lv9_0 : tab.lv 9 0 = some 15 := tab_lv (by kernel_rfl)
theorem lv9_1 : tab.lv 9 1 = some 3584 := tab_lv (by kernel_rfl)
theorem lv9_2 : tab.lv 9 2 = some 15872 := tab_lv (by kernel_rfl)
theorem lv9_3 : tab.lv 9 3 = some 65024 := tab_lv (by kernel_rfl)
theorem lv9_4 : tab.lv 9 4 = some 260096 := tab_lv (by kernel_rfl)
theorem lv9_5 : tab.lv 9 5 = some 522240 := tab_lv (by kernel_rfl)
theorem lv9_6 : tab.lv 9 6 = some 2095104 := tab_lv (by kernel_rfl)
theorem lv9_7 : tab.lv 9 7 = some 8122368 := tab_lv (by kernel_rfl)
theorem lv9_8 : tab.lv 9 8 = some 256 := tab_lv (by kernel_rfl)
theorem lv10_0 : tab.lv 10 0 = some 15 := tab_lv (by kernel_rfl)
theorem lv10_1 : tab.lv 10 1 = some 3599 := tab_lv (by kernel_rfl)
theorem lv10_2 : tab.lv 10 2 = some 15872 := tab_lv (by kernel_rfl)
theorem lv10_3 : tab.lv 10 3 = some 114176 := tab_lv (by kernel_rfl)
theorem lv10_4 : tab.lv 10 4 = some 505856 := tab_lv (by kernel_rfl)
theorem lv10_5 : tab.lv 10 5 = some 2078720 := tab_lv (by kernel_rfl)
theorem lv10_6 : tab.lv 10 6 = some 8355840 := tab_lv (by kernel_rfl)
theorem lv10_7 : tab.lv 10 7 = some 649037107316853453566312043937792 := tab_lv (by kernel_rfl)
theorem lv10_8 : tab.lv 10 8 = some 256 := tab_lv (by kernel_rfl)
theorem lv10_9 : tab.lv 10 9 = some 256 := tab_lv (by kernel_rfl)
theorem lv11_0 : tab.lv 11 0 = some 7 := tab_lv (by kernel_rfl)
theorem lv11_1 : tab.lv 11 1 = some 388 := tab_lv (by kernel_rfl)
theorem lv11_2 : tab.lv 11 2 = some 900 := tab_lv (by kernel_rfl)
theorem lv11_3 : tab.lv 11 3 = some 1924 := tab_lv (by kernel_rfl)
theorem lv11_4 : tab.lv 11 4 = some 1924 := tab_lv (by kernel_rfl)
theorem lv11_5 : tab.lv 11 5 = some 8068 := tab_lv (by kernel_rfl)
theorem lv11_6 : tab.lv 11 6 = some 32644 := tab_lv (by kernel_rfl)
theorem lv11_7 : tab.lv 11 7 = some 129408 := tab_lv (by kernel_rfl)
theorem lv11_8 : tab.lv 11 8 = some 64 := tab_lv (by kernel_rfl)
theorem lv12_0 : tab.lv 12 0 = some 15 := tab_lv (by kernel_rfl)
theorem lv12_1 : tab.lv 12 1 = some 522 := tab_lv (by kernel_rfl)
theorem lv12_2 : tab.lv 12 2 = some 1544 := tab_lv (by kernel_rfl)
theorem lv12_3 : tab.lv 12 3 = some 3592 := tab_lv (by kernel_rfl)
theorem lv12_4 : tab.lv 12 4 = some 3584 := tab_lv (by kernel_rfl)
theorem lv12_5 : tab.lv 12 5 = some 14848 := tab_lv (by kernel_rfl)
theorem lv12_6 : tab.lv 12 6 = some 61440 := tab_lv (by kernel_rfl)
theorem lv12_7 : tab.lv 12 7 = some 258048 := tab_lv (by kernel_rfl)
theorem lv12_8 : tab.lv 12 8 = some 256 := tab_lv (by kernel_rfl)
theorem lv13_0 : tab.lv 13 0 = some 15 := tab_lv (by kernel_rfl)
theorem lv13_1 : tab.lv 13 1 = some 518 := tab_lv (by kernel_rfl)
theorem lv13_2 : tab.lv 13 2 = some 3584 := tab_lv (by kernel_rfl)
theorem lv13_3 : tab.lv 13 3 = some 3221229056 := tab_lv (by kernel_rfl)
theorem lv13_4 : tab.lv 13 4 = some 7516196352 := tab_lv (by kernel_rfl)
theorem lv13_5 : tab.lv 13 5 = some 3221233152 := tab_lv (by kernel_rfl)
theorem lv13_6 : tab.lv 13 6 = some 1102732860928 := tab_lv (by kernel_rfl)
theorem lv13_7 : tab.lv 13 7 = some 3221229056 := tab_lv (by kernel_rfl)
theorem lv13_8 : tab.lv 13 8 = some 3221229056 := tab_lv (by kernel_rfl)
theorem lv13_9 : tab.lv 13 9 = some 27136 := tab_lv (by kernel_rfl)
theorem lv13_10 : tab.lv 13 10 = some 122880 := tab_lv (by kernel_rfl)
theorem lv13_11 : tab.lv 13 11 = some 516096 := tab_lv (by kernel_rfl)
theorem lv13_12 : tab.lv 13 12 = some 256 := tab_lv (by kernel_rfl)
theorem lv14_0 : tab.lv 14 0 = some 15 := tab_lv (by kernel_rfl)
theorem lv14_1 : tab.lv 14 1 = some 518 := tab_lv (by kernel_rfl)
theorem lv14_2 : tab.lv 14 2 = some 1538 := tab_lv (by kernel_rfl)
theorem lv14_3 : tab.lv 14 3 = some 7682 := tab_lv (by kernel_rfl)
theorem lv14_4 : tab.lv 14 4 = some 31234 := tab_lv (by kernel_rfl)
theorem lv14_5 : tab.lv 14 5 = some 281474976725506 := tab_lv (by kernel_rfl)
theorem lv14_6 : tab.lv 14 6 = some 256 := tab_lv (by kernel_rfl)
theorem lv14_7 : tab.lv 14 7 = some 1125899906853378 := tab_lv (by kernel_rfl)
theorem lv14_8 : tab.lv 14 8 = some 256 := tab_lv (by kernel_rfl)
theorem lv14_9 : tab.lv 14 9 = some 107010 := tab_lv (by kernel_rfl)
theorem lv14_10 : tab.lv 14 10 = some 491520 := tab_lv (by kernel_rfl)
theorem lv14_11 : tab.lv 14 11 = some 256 := tab_lv (by kernel_rfl)
theorem lv15_0 : tab.lv 15 0 = some 71 := tab_lv (by kernel_rfl)
theorem lv15_1 : tab.lv 15 1 = some 198 := tab_lv (by kernel_rfl)
theorem lv15_2 : tab.lv 15 2 = some 64 := tab_lv (by kernel_rfl)
theorem lv16_0 : tab.lv 16 0 = some 3 := tab_lv (by kernel_rfl)
theorem lv16_1 : tab.lv 16 1 = some 67 := tab_lv (by kernel_rfl)
theorem lv16_2 : tab.lv 16 2 = some 3 := tab_lv (by kernel_rfl)
theorem lv16_3 : tab.lv 16 3 = some 16 := tab_lv (by kernel_rfl)
theorem lv17_0 : tab.lv 17 0 = some 0 := tab_lv (by kernel_rfl)
theorem lv17_1 : tab.lv 17 1 = some 1 := tab_lv (by kernel_rfl)
theorem lv18_0 : tab.lv 18 0 = some 2 := tab_lv (by kernel_rfl)
theorem lv18_1 : tab.lv 18 1 = some 50 := tab_lv (by kernel_rfl)
theorem lv18_2 : tab.lv 18 2 = some 14384 := tab_lv (by kernel_rfl)
theorem lv18_3 : tab.lv 18 3 = some 30768 := tab_lv (by kernel_rfl)
theorem lv18_4 : tab.lv 18 4 = some 14512 := tab_lv (by kernel_rfl)
theorem lv18_5 : tab.lv 18 5 = some 15152 := tab_lv (by kernel_rfl)
theorem lv18_6 : tab.lv 18 6 = some 14384 := tab_lv (by kernel_rfl)
theorem lv18_7 : tab.lv 18 7 = some 14384 := tab_lv (by kernel_rfl)
theorem lv18_8 : tab.lv 18 8 = some 12 := tab_lv (by kernel_rfl)
theorem lv19_0 : tab.lv 19 0 = some 2 := tab_lv (by kernel_rfl)
theorem lv19_1 : tab.lv 19 1 = some 26 := tab_lv (by kernel_rfl)
theorem lv19_2 : tab.lv 19 2 = some 2066 := tab_lv (by kernel_rfl)
theorem lv19_3 : tab.lv 19 3 = some 4 := tab_lv (by kernel_rfl)
theorem lv19_4 : tab.lv 19 4 = some 8194 := tab_lv (by kernel_rfl)
theorem lv19_5 : tab.lv 19 5 = some 4 := tab_lv (by kernel_rfl)
theorem lv19_6 : tab.lv 19 6 = some 4 := tab_lv (by kernel_rfl)
theorem lv20_0 : tab.lv 20 0 = some 106 := tab_lv (by kernel_rfl)
theorem lv20_1 : tab.lv 20 1 = some 196714 := tab_lv (by kernel_rfl)
theorem lv20_2 : tab.lv 20 2 = some 458858 := tab_lv (by kernel_rfl)
theorem lv20_3 : tab.lv 20 3 = some 197226 := tab_lv (by kernel_rfl)
theorem lv20_4 : tab.lv 20 4 = some 197738 := tab_lv (by kernel_rfl)
theorem lv20_5 : tab.lv 20 5 = some 8586346 := tab_lv (by kernel_rfl)
theorem lv20_6 : tab.lv 20 6 = some 192 := tab_lv (by kernel_rfl)
theorem lv20_7 : tab.lv 20 7 = some 196714 := tab_lv (by kernel_rfl)
theorem lv20_8 : tab.lv 20 8 = some 2154 := tab_lv (by kernel_rfl)
theorem lv20_9 : tab.lv 20 9 = some 1073743978 := tab_lv (by kernel_rfl)
theorem lv20_10 : tab.lv 20 10 = some 192 := tab_lv (by kernel_rfl)
theorem lv20_11 : tab.lv 20 11 = some 4160 := tab_lv (by kernel_rfl)
theorem lv20_12 : tab.lv 20 12 = some 12352 := tab_lv (by kernel_rfl)
theorem lv20_13 : tab.lv 20 13 = some 1099511640128 := tab_lv (by kernel_rfl)
theorem lv20_14 : tab.lv 20 14 = some 192 := tab_lv (by kernel_rfl)
theorem lv20_15 : tab.lv 20 15 = some 192 := tab_lv (by kernel_rfl)
theorem lv21_0 : tab.lv 21 0 = some 12 := tab_lv (by kernel_rfl)
theorem lv21_1 : tab.lv 21 1 = some 16 := tab_lv (by kernel_rfl)
theorem lv22_0 : tab.lv 22 0 = some 20 := tab_lv (by kernel_rfl)
theorem lv22_1 : tab.lv 22 1 = some 16 := tab_lv (by kernel_rfl)
theorem lv22_5 : tab.lv 22 5 = some 16 := tab_lv (by kernel_rfl)
theorem lv23_0 : tab.lv 23 0 = some 2 := tab_lv (by kernel_rfl)
theorem lv23_1 : tab.lv 23 1 = some 18 := tab_lv (by kernel_rfl)
theorem lv23_2 : tab.lv 23 2 = some 1042 := tab_lv (by kernel_rfl)
theorem lv23_3 : tab.lv 23 3 = some 12 := tab_lv (by kernel_rfl)
theorem lv23_4 : tab.lv 23 4 = some 34 := tab_lv (by kernel_rfl)
theorem lv23_5 : tab.lv 23 5 = some 32 := tab_lv (by kernel_rfl)
theorem lv23_8 : tab.lv 23 8 = some 12 := tab_lv (by kernel_rfl)
theorem lv24_0 : tab.lv 24 0 = some 3 := tab_lv (by kernel_rfl)
theorem lv24_1 : tab.lv 24 1 = some 1027 := tab_lv (by kernel_rfl)
theorem lv24_2 : tab.lv 24 2 = some 16 := tab_lv (by kernel_rfl)
theorem lv24_3 : tab.lv 24 3 = some 12291 := tab_lv (by kernel_rfl)
theorem lv24_4 : tab.lv 24 4 = some 28675 := tab_lv (by kernel_rfl)
theorem lv24_5 : tab.lv 24 5 = some 12323 := tab_lv (by kernel_rfl)
theorem lv24_6 : tab.lv 24 6 = some 16789507 := tab_lv (by kernel_rfl)
theorem lv24_7 : tab.lv 24 7 = some 16 := tab_lv (by kernel_rfl)
theorem lv24_8 : tab.lv 24 8 = some 12291 := tab_lv (by kernel_rfl)
theorem lv24_9 : tab.lv 24 9 = some 16 := tab_lv (by kernel_rfl)
theorem lv25_0 : tab.lv 25 0 = some 1 := tab_lv (by kernel_rfl)
theorem lv25_1 : tab.lv 25 1 = some 9 := tab_lv (by kernel_rfl)
theorem lv25_2 : tab.lv 25 2 = some 265 := tab_lv (by kernel_rfl)
theorem lv25_3 : tab.lv 25 3 = some 9 := tab_lv (by kernel_rfl)
theorem lv25_4 : tab.lv 25 4 = some 1048585 := tab_lv (by kernel_rfl)
theorem lv25_5 : tab.lv 25 5 = some 4 := tab_lv (by kernel_rfl)
theorem lv25_6 : tab.lv 25 6 = some 4 := tab_lv (by kernel_rfl)
theorem lv26_0 : tab.lv 26 0 = some 1 := tab_lv (by kernel_rfl)
theorem lv26_1 : tab.lv 26 1 = some 257 := tab_lv (by kernel_rfl)
theorem lv26_2 : tab.lv 26 2 = some 4 := tab_lv (by kernel_rfl)
theorem lv26_3 : tab.lv 26 3 = some 9 := tab_lv (by kernel_rfl)
theorem lv26_4 : tab.lv 26 4 = some 8201 := tab_lv (by kernel_rfl)
theorem lv26_5 : tab.lv 26 5 = some 9 := tab_lv (by kernel_rfl)
theorem lv26_6 : tab.lv 26 6 = some 33554441 := tab_lv (by kernel_rfl)
theorem lv26_7 : tab.lv 26 7 = some 25 := tab_lv (by kernel_rfl)
theorem lv26_8 : tab.lv 26 8 = some 57 := tab_lv (by kernel_rfl)
theorem lv26_9 : tab.lv 26 9 = some 4294967353 := tab_lv (by kernel_rfl)
theorem lv26_10 : tab.lv 26 10 = some 57 := tab_lv (by kernel_rfl)
theorem lv26_11 : tab.lv 26 11 = some 17592186044473 := tab_lv (by kernel_rfl)
theorem lv26_12 : tab.lv 26 12 = some 57 := tab_lv (by kernel_rfl)
theorem lv26_13 : tab.lv 26 13 = some 57 := tab_lv (by kernel_rfl)
theorem lv26_14 : tab.lv 26 14 = some 9 := tab_lv (by kernel_rfl)
theorem lv26_15 : tab.lv 26 15 = some 4 := tab_lv (by kernel_rfl)
theorem lv26_16 : tab.lv 26 16 = some 4 := tab_lv (by kernel_rfl)
theorem lv27_0 : tab.lv 27 0 = some 1 := tab_lv (by kernel_rfl)
theorem lv27_1 : tab.lv 27 1 = some 17 := tab_lv (by kernel_rfl)
theorem lv27_2 : tab.lv 27 2 = some 4 := tab_lv (by kernel_rfl)
theorem lv27_3 : tab.lv 27 3 = some 4 := tab_lv (by kernel_rfl)
theorem lv28_0 : tab.lv 28 0 = some 3 := tab_lv (by kernel_rfl)
theorem lv28_1 : tab.lv 28 1 = some 16 := tab_lv (by kernel_rfl)
theorem lv29_0 : tab.lv 29 0 = some 14 := tab_lv (by kernel_rfl)
theorem lv29_1 : tab.lv 29 1 = some 388 := tab_lv (by kernel_rfl)
theorem lv29_2 : tab.lv 29 2 = some 65924 := tab_lv (by kernel_rfl)
theorem lv29_3 : tab.lv 29 3 = some 64 := tab_lv (by kernel_rfl)
theorem lv29_4 : tab.lv 29 4 = some 1048576 := tab_lv (by kernel_rfl)
theorem lv29_5 : tab.lv 29 5 = some 64 := tab_lv (by kernel_rfl)
theorem lv29_6 : tab.lv 29 6 = some 64 := tab_lv (by kernel_rfl)
theorem lv30_0 : tab.lv 30 0 = some 6 := tab_lv (by kernel_rfl)
theorem lv30_1 : tab.lv 30 1 = some 70 := tab_lv (by kernel_rfl)
theorem lv30_2 : tab.lv 30 2 = some 1094 := tab_lv (by kernel_rfl)
theorem lv30_3 : tab.lv 30 3 = some 48 := tab_lv (by kernel_rfl)
theorem lv30_4 : tab.lv 30 4 = some 48 := tab_lv (by kernel_rfl)
theorem lv31_0 : tab.lv 31 0 = some 22 := tab_lv (by kernel_rfl)
theorem lv31_1 : tab.lv 31 1 = some 86 := tab_lv (by kernel_rfl)
theorem lv31_2 : tab.lv 31 2 = some 4182 := tab_lv (by kernel_rfl)
theorem lv31_3 : tab.lv 31 3 = some 48 := tab_lv (by kernel_rfl)
theorem lv31_4 : tab.lv 31 4 = some 404 := tab_lv (by kernel_rfl)
theorem lv31_5 : tab.lv 31 5 = some 2097556 := tab_lv (by kernel_rfl)
theorem lv31_6 : tab.lv 31 6 = some 48 := tab_lv (by kernel_rfl)
theorem lv31_7 : tab.lv 31 7 = some 48 := tab_lv (by kernel_rfl)
theorem lv32_0 : tab.lv 32 0 = some 1 := tab_lv (by kernel_rfl)
theorem lv32_1 : tab.lv 32 1 = some 8 := tab_lv (by kernel_rfl)
theorem lv32_2 : tab.lv 32 2 = some 24 := tab_lv (by kernel_rfl)
theorem lv32_3 : tab.lv 32 3 = some 7192 := tab_lv (by kernel_rfl)
theorem lv32_4 : tab.lv 32 4 = some 15384 := tab_lv (by kernel_rfl)
theorem lv32_5 : tab.lv 32 5 = some 7256 := tab_lv (by kernel_rfl)
theorem lv32_6 : tab.lv 32 6 = some 7192 := tab_lv (by kernel_rfl)
theorem lv32_7 : tab.lv 32 7 = some 7192 := tab_lv (by kernel_rfl)
theorem lv32_8 : tab.lv 32 8 = some 4 := tab_lv (by kernel_rfl)
theorem lv33_0 : tab.lv 33 0 = some 2 := tab_lv (by kernel_rfl)
theorem lv33_1 : tab.lv 33 1 = some 4 := tab_lv (by kernel_rfl)
theorem lv34_0 : tab.lv 34 0 = some 783 := tab_lv (by kernel_rfl)
theorem lv34_1 : tab.lv 34 1 = some 2830 := tab_lv (by kernel_rfl)
theorem lv34_2 : tab.lv 34 2 = some 6924 := tab_lv (by kernel_rfl)
theorem lv34_3 : tab.lv 34 3 = some 1792 := tab_lv (by kernel_rfl)
theorem lv35_0 : tab.lv 35 0 = some 19 := tab_lv (by kernel_rfl)
theorem lv35_1 : tab.lv 35 1 = some 16 := tab_lv (by kernel_rfl)
theorem lv36_0 : tab.lv 36 0 = some 5 := tab_lv (by kernel_rfl)
theorem lv36_1 : tab.lv 36 1 = some 13 := tab_lv (by kernel_rfl)
theorem lv36_2 : tab.lv 36 2 = some 44 := tab_lv (by kernel_rfl)
theorem lv36_3 : tab.lv 36 3 = some 12 := tab_lv (by kernel_rfl)
theorem lv36_4 : tab.lv 36 4 = some 4 := tab_lv (by kernel_rfl)
theorem lv37_0 : tab.lv 37 0 = some 5 := tab_lv (by kernel_rfl)
theorem lv37_1 : tab.lv 37 1 = some 4 := tab_lv (by kernel_rfl)
theorem lv38_0 : tab.lv 38 0 = some 1 := tab_lv (by kernel_rfl)
theorem lv38_1 : tab.lv 38 1 = some 17 := tab_lv (by kernel_rfl)
theorem lv38_2 : tab.lv 38 2 = some 4 := tab_lv (by kernel_rfl)
theorem lv38_3 : tab.lv 38 3 = some 4 := tab_lv (by kernel_rfl)
theorem lv39_0 : tab.lv 39 0 = some 466 := tab_lv (by kernel_rfl)
theorem lv39_1 : tab.lv 39 1 = some 978 := tab_lv (by kernel_rfl)
theorem lv39_2 : tab.lv 39 2 = some 8389586 := tab_lv (by kernel_rfl)
theorem lv39_3 : tab.lv 39 3 = some 256 := tab_lv (by kernel_rfl)
theorem lv39_4 : tab.lv 39 4 = some 1794 := tab_lv (by kernel_rfl)
theorem lv39_5 : tab.lv 39 5 = some 4294969090 := tab_lv (by kernel_rfl)
theorem lv39_6 : tab.lv 39 6 = some 256 := tab_lv (by kernel_rfl)
theorem lv39_7 : tab.lv 39 7 = some 274877908736 := tab_lv (by kernel_rfl)
theorem lv39_8 : tab.lv 39 8 = some 824633722624 := tab_lv (by kernel_rfl)
theorem lv39_9 : tab.lv 39 9 = some 3328 := tab_lv (by kernel_rfl)
theorem lv39_10 : tab.lv 39 10 = some 17592186047744 := tab_lv (by kernel_rfl)
theorem lv39_11 : tab.lv 39 11 = some 256 := tab_lv (by kernel_rfl)
theorem lv39_12 : tab.lv 39 12 = some 9024791440788736 := tab_lv (by kernel_rfl)
theorem lv39_13 : tab.lv 39 13 = some 256 := tab_lv (by kernel_rfl)
theorem lv39_14 : tab.lv 39 14 = some 288230376151715072 := tab_lv (by kernel_rfl)
theorem lv39_15 : tab.lv 39 15 = some 256 := tab_lv (by kernel_rfl)
theorem lv39_16 : tab.lv 39 16 = some 9223372036854777600 := tab_lv (by kernel_rfl)
theorem lv39_17 : tab.lv 39 17 = some 5888 := tab_lv (by kernel_rfl)
theorem lv39_18 : tab.lv 39 18 = some 13568 := tab_lv (by kernel_rfl)
theorem lv39_19 : tab.lv 39 19 = some 256 := tab_lv (by kernel_rfl)
theorem lv39_20 : tab.lv 39 20 = some 1208925819614629174712064 := tab_lv (by kernel_rfl)
theorem lv39_21 : tab.lv 39 21 = some 256 := tab_lv (by kernel_rfl)
theorem lv39_22 : tab.lv 39 22 = some 77371252455336267181201152 := tab_lv (by kernel_rfl)
theorem lv39_23 : tab.lv 39 23 = some 256 := tab_lv (by kernel_rfl)
theorem lv39_24 : tab.lv 39 24 = some 256 := tab_lv (by kernel_rfl)
theorem lv40_0 : tab.lv 40 0 = some 2 := tab_lv (by kernel_rfl)
theorem lv40_1 : tab.lv 40 1 = some 10 := tab_lv (by kernel_rfl)
theorem lv40_2 : tab.lv 40 2 = some 1034 := tab_lv (by kernel_rfl)
theorem lv40_3 : tab.lv 40 3 = some 4 := tab_lv (by kernel_rfl)
theorem lv40_4 : tab.lv 40 4 = some 57344 := tab_lv (by kernel_rfl)
theorem lv40_5 : tab.lv 40 5 = some 122880 := tab_lv (by kernel_rfl)
theorem lv40_6 : tab.lv 40 6 = some 57376 := tab_lv (by kernel_rfl)
theorem lv40_7 : tab.lv 40 7 = some 57408 := tab_lv (by kernel_rfl)
theorem lv40_8 : tab.lv 40 8 = some 4251712 := tab_lv (by kernel_rfl)
theorem lv40_9 : tab.lv 40 9 = some 4 := tab_lv (by kernel_rfl)
theorem lv40_10 : tab.lv 40 10 = some 57344 := tab_lv (by kernel_rfl)
theorem lv40_11 : tab.lv 40 11 = some 4 := tab_lv (by kernel_rfl)
theorem lv41_0 : tab.lv 41 0 = some 1 := tab_lv (by kernel_rfl)
theorem lv41_1 : tab.lv 41 1 = some 1025 := tab_lv (by kernel_rfl)
theorem lv41_2 : tab.lv 41 2 = some 4 := tab_lv (by kernel_rfl)
theorem lv41_3 : tab.lv 41 3 = some 33554432 := tab_lv (by kernel_rfl)
theorem lv41_4 : tab.lv 41 4 = some 4 := tab_lv (by kernel_rfl)
theorem lv41_5 : tab.lv 41 5 = some 4 := tab_lv (by kernel_rfl)
theorem lv42_0 : tab.lv 42 0 = some 106 := tab_lv (by kernel_rfl)
theorem lv42_1 : tab.lv 42 1 = some 262250 := tab_lv (by kernel_rfl)
theorem lv42_2 : tab.lv 42 2 = some 64 := tab_lv (by kernel_rfl)
theorem lv42_3 : tab.lv 42 3 = some 234 := tab_lv (by kernel_rfl)
theorem lv42_4 : tab.lv 42 4 = some 234 := tab_lv (by kernel_rfl)
theorem lv42_5 : tab.lv 42 5 = some 117440738 := tab_lv (by kernel_rfl)
theorem lv42_6 : tab.lv 42 6 = some 251658466 := tab_lv (by kernel_rfl)
theorem lv42_7 : tab.lv 42 7 = some 117441250 := tab_lv (by kernel_rfl)
theorem lv42_8 : tab.lv 42 8 = some 117440738 := tab_lv (by kernel_rfl)
theorem lv42_9 : tab.lv 42 9 = some 117440738 := tab_lv (by kernel_rfl)
theorem lv42_10 : tab.lv 42 10 = some 64 := tab_lv (by kernel_rfl)
theorem lv43_0 : tab.lv 43 0 = some 7 := tab_lv (by kernel_rfl)
theorem lv43_1 : tab.lv 43 1 = some 16391 := tab_lv (by kernel_rfl)
theorem lv43_2 : tab.lv 43 2 = some 64 := tab_lv (by kernel_rfl)
theorem lv43_3 : tab.lv 43 3 = some 229382 := tab_lv (by kernel_rfl)
theorem lv43_4 : tab.lv 43 4 = some 491526 := tab_lv (by kernel_rfl)
theorem lv43_5 : tab.lv 43 5 = some 229766 := tab_lv (by kernel_rfl)
theorem lv43_6 : tab.lv 43 6 = some 230150 := tab_lv (by kernel_rfl)
theorem lv43_7 : tab.lv 43 7 = some 1073971206 := tab_lv (by kernel_rfl)
theorem lv43_8 : tab.lv 43 8 = some 64 := tab_lv (by kernel_rfl)
theorem lv43_9 : tab.lv 43 9 = some 229382 := tab_lv (by kernel_rfl)
theorem lv43_10 : tab.lv 43 10 = some 64 := tab_lv (by kernel_rfl)
theorem lv44_0 : tab.lv 44 0 = some 2 := tab_lv (by kernel_rfl)
theorem lv44_1 : tab.lv 44 1 = some 4 := tab_lv (by kernel_rfl)
theorem lv47_0 : tab.lv 47 0 = some 3 := tab_lv (by kernel_rfl)
theorem lv47_1 : tab.lv 47 1 = some 16 := tab_lv (by kernel_rfl)
theorem lv48_0 : tab.lv 48 0 = some 3 := tab_lv (by kernel_rfl)
theorem lv48_1 : tab.lv 48 1 = some 387 := tab_lv (by kernel_rfl)
theorem lv48_2 : tab.lv 48 2 = some 899 := tab_lv (by kernel_rfl)
theorem lv48_3 : tab.lv 48 3 = some 419 := tab_lv (by kernel_rfl)
theorem lv48_4 : tab.lv 48 4 = some 65955 := tab_lv (by kernel_rfl)
theorem lv48_5 : tab.lv 48 5 = some 16 := tab_lv (by kernel_rfl)
theorem lv48_6 : tab.lv 48 6 = some 387 := tab_lv (by kernel_rfl)
theorem lv48_7 : tab.lv 48 7 = some 16 := tab_lv (by kernel_rfl)
theorem lv49_0 : tab.lv 49 0 = some 14 := tab_lv (by kernel_rfl)
theorem lv49_1 : tab.lv 49 1 = some 262158 := tab_lv (by kernel_rfl)
theorem lv49_2 : tab.lv 49 2 = some 786446 := tab_lv (by kernel_rfl)
theorem lv49_3 : tab.lv 49 3 = some 192 := tab_lv (by kernel_rfl)
theorem lv49_4 : tab.lv 49 4 = some 16777230 := tab_lv (by kernel_rfl)
theorem lv49_5 : tab.lv 49 5 = some 768 := tab_lv (by kernel_rfl)
theorem lv49_6 : tab.lv 49 6 = some 17179869440 := tab_lv (by kernel_rfl)
theorem lv49_7 : tab.lv 49 7 = some 192 := tab_lv (by kernel_rfl)
theorem lv49_8 : tab.lv 49 8 = some 192 := tab_lv (by kernel_rfl)
theorem lv49_9 : tab.lv 49 9 = some 1038 := tab_lv (by kernel_rfl)
theorem lv49_10 : tab.lv 49 10 = some 962072675342 := tab_lv (by kernel_rfl)
theorem lv49_11 : tab.lv 49 11 = some 2061584303118 := tab_lv (by kernel_rfl)
theorem lv49_12 : tab.lv 49 12 = some 962072679438 := tab_lv (by kernel_rfl)
theorem lv49_13 : tab.lv 49 13 = some 962072699918 := tab_lv (by kernel_rfl)
theorem lv49_14 : tab.lv 49 14 = some 2252761886385166 := tab_lv (by kernel_rfl)
theorem lv49_15 : tab.lv 49 15 = some 192 := tab_lv (by kernel_rfl)
theorem lv49_16 : tab.lv 49 16 = some 962072675342 := tab_lv (by kernel_rfl)
theorem lv49_17 : tab.lv 49 17 = some 962072675342 := tab_lv (by kernel_rfl)
theorem lv49_18 : tab.lv 49 18 = some 99336 := tab_lv (by kernel_rfl)
theorem lv49_19 : tab.lv 49 19 = some 36893488147419202568 := tab_lv (by kernel_rfl)
theorem lv49_20 : tab.lv 49 20 = some 192 := tab_lv (by kernel_rfl)
theorem lv49_21 : tab.lv 49 21 = some 37778931862957161710600 := tab_lv (by kernel_rfl)
theorem lv49_22 : tab.lv 49 22 = some 192 := tab_lv (by kernel_rfl)
theorem lv49_23 : tab.lv 49 23 = some 151115727451828646839304 := tab_lv (by kernel_rfl)
theorem lv49_24 : tab.lv 49 24 = some 192 := tab_lv (by kernel_rfl)
theorem lv49_25 : tab.lv 49 25 = some 633825300114114700748351602688 := tab_lv (by kernel_rfl)
theorem lv49_26 : tab.lv 49 26 = some 192 := tab_lv (by kernel_rfl)
theorem lv49_27 : tab.lv 49 27 = some 192 := tab_lv (by kernel_rfl)
theorem lv50_0 : tab.lv 50 0 = some 1 := tab_lv (by kernel_rfl)
theorem lv50_1 : tab.lv 50 1 = some 9 := tab_lv (by kernel_rfl)
theorem lv50_2 : tab.lv 50 2 = some 8 := tab_lv (by kernel_rfl)
theorem lv50_5 : tab.lv 50 5 = some 4 := tab_lv (by kernel_rfl)
theorem lv51_0 : tab.lv 51 0 = some 0 := tab_lv (by kernel_rfl)
theorem lv51_1 : tab.lv 51 1 = some 14 := tab_lv (by kernel_rfl)
theorem lv51_2 : tab.lv 51 2 = some 1 := tab_lv (by kernel_rfl)
theorem lv52_0 : tab.lv 52 0 = some 1 := tab_lv (by kernel_rfl)
theorem lv52_1 : tab.lv 52 1 = some 17 := tab_lv (by kernel_rfl)
theorem lv52_2 : tab.lv 52 2 = some 14352 := tab_lv (by kernel_rfl)
theorem lv52_3 : tab.lv 52 3 = some 30736 := tab_lv (by kernel_rfl)
theorem lv52_4 : tab.lv 52 4 = some 14416 := tab_lv (by kernel_rfl)
theorem lv52_5 : tab.lv 52 5 = some 14544 := tab_lv (by kernel_rfl)
theorem lv52_6 : tab.lv 52 6 = some 2111696 := tab_lv (by kernel_rfl)
theorem lv52_7 : tab.lv 52 7 = some 12 := tab_lv (by kernel_rfl)
theorem lv52_8 : tab.lv 52 8 = some 14928 := tab_lv (by kernel_rfl)
theorem lv52_9 : tab.lv 52 9 = some 2147498064 := tab_lv (by kernel_rfl)
theorem lv52_10 : tab.lv 52 10 = some 14352 := tab_lv (by kernel_rfl)
theorem lv52_11 : tab.lv 52 11 = some 14352 := tab_lv (by kernel_rfl)
theorem lv52_12 : tab.lv 52 12 = some 12 := tab_lv (by kernel_rfl)
theorem lv53_0 : tab.lv 53 0 = some 25 := tab_lv (by kernel_rfl)
theorem lv53_1 : tab.lv 53 1 = some 16409 := tab_lv (by kernel_rfl)
theorem lv53_2 : tab.lv 53 2 = some 49177 := tab_lv (by kernel_rfl)
theorem lv53_3 : tab.lv 53 3 = some 16 := tab_lv (by kernel_rfl)
theorem lv53_4 : tab.lv 53 4 = some 540697 := tab_lv (by kernel_rfl)
theorem lv53_5 : tab.lv 53 5 = some 112 := tab_lv (by kernel_rfl)
theorem lv53_6 : tab.lv 53 6 = some 268435504 := tab_lv (by kernel_rfl)
theorem lv53_7 : tab.lv 53 7 = some 16 := tab_lv (by kernel_rfl)
theorem lv53_8 : tab.lv 53 8 = some 16 := tab_lv (by kernel_rfl)
theorem lv53_9 : tab.lv 53 9 = some 2147500057 := tab_lv (by kernel_rfl)
theorem lv53_10 : tab.lv 53 10 = some 2147500057 := tab_lv (by kernel_rfl)
theorem lv53_11 : tab.lv 53 11 = some 409 := tab_lv (by kernel_rfl)
theorem lv53_12 : tab.lv 53 12 = some 1125899906842777 := tab_lv (by kernel_rfl)
theorem lv53_13 : tab.lv 53 13 = some 16 := tab_lv (by kernel_rfl)
theorem lv53_14 : tab.lv 53 14 = some 16 := tab_lv (by kernel_rfl)
theorem lv53_15 : tab.lv 53 15 = some 288230376151711769 := tab_lv (by kernel_rfl)
theorem lv53_16 : tab.lv 53 16 = some 1561 := tab_lv (by kernel_rfl)
theorem lv53_17 : tab.lv 53 17 = some 147573952589676413465 := tab_lv (by kernel_rfl)
theorem lv53_18 : tab.lv 53 18 = some 16 := tab_lv (by kernel_rfl)
theorem lv53_19 : tab.lv 53 19 = some 16 := tab_lv (by kernel_rfl)
theorem lv53_20 : tab.lv 53 20 = some 6168 := tab_lv (by kernel_rfl)
theorem lv53_21 : tab.lv 53 21 = some 154742504910672534362396696 := tab_lv (by kernel_rfl)
theorem lv53_22 : tab.lv 53 22 = some 16 := tab_lv (by kernel_rfl)
theorem lv53_23 : tab.lv 53 23 = some 16 := tab_lv (by kernel_rfl)
theorem lv54_0 : tab.lv 54 0 = some 25 := tab_lv (by kernel_rfl)
theorem lv54_1 : tab.lv 54 1 = some 56 := tab_lv (by kernel_rfl)
theorem lv54_2 : tab.lv 54 2 = some 120 := tab_lv (by kernel_rfl)
theorem lv54_3 : tab.lv 54 3 = some 2072 := tab_lv (by kernel_rfl)
theorem lv54_4 : tab.lv 54 4 = some 16 := tab_lv (by kernel_rfl)
theorem lv54_5 : tab.lv 54 5 = some 16 := tab_lv (by kernel_rfl)
theorem lv54_6 : tab.lv 54 6 = some 4194328 := tab_lv (by kernel_rfl)
theorem lv54_7 : tab.lv 54 7 = some 16 := tab_lv (by kernel_rfl)
theorem lv54_8 : tab.lv 54 8 = some 16 := tab_lv (by kernel_rfl)
theorem lv55_0 : tab.lv 55 0 = some 5 := tab_lv (by kernel_rfl)
theorem lv55_1 : tab.lv 55 1 = some 517 := tab_lv (by kernel_rfl)
theorem lv55_2 : tab.lv 55 2 = some 4 := tab_lv (by kernel_rfl)
theorem lv55_3 : tab.lv 55 3 = some 13 := tab_lv (by kernel_rfl)
theorem lv55_4 : tab.lv 55 4 = some 13 := tab_lv (by kernel_rfl)
theorem lv55_5 : tab.lv 55 5 = some 12 := tab_lv (by kernel_rfl)
theorem lv55_6 : tab.lv 55 6 = some 4 := tab_lv (by kernel_rfl)
theorem lv56_0 : tab.lv 56 0 = some 2 := tab_lv (by kernel_rfl)
theorem lv56_1 : tab.lv 56 1 = some 34 := tab_lv (by kernel_rfl)
theorem lv56_2 : tab.lv 56 2 = some 4 := tab_lv (by kernel_rfl)
theorem lv56_3 : tab.lv 56 3 = some 98 := tab_lv (by kernel_rfl)
theorem lv56_4 : tab.lv 56 4 = some 10 := tab_lv (by kernel_rfl)
theorem lv56_5 : tab.lv 56 5 = some 4106 := tab_lv (by kernel_rfl)
theorem lv56_6 : tab.lv 56 6 = some 4 := tab_lv (by kernel_rfl)
theorem lv56_7 : tab.lv 56 7 = some 16418 := tab_lv (by kernel_rfl)
theorem lv56_8 : tab.lv 56 8 = some 8388610 := tab_lv (by kernel_rfl)
theorem lv56_9 : tab.lv 56 9 = some 4 := tab_lv (by kernel_rfl)
theorem lv56_10 : tab.lv 56 10 = some 16777250 := tab_lv (by kernel_rfl)
theorem lv56_11 : tab.lv 56 11 = some 268435458 := tab_lv (by kernel_rfl)
theorem lv56_12 : tab.lv 56 12 = some 4 := tab_lv (by kernel_rfl)
theorem lv56_13 : tab.lv 56 13 = some 4 := tab_lv (by kernel_rfl)
theorem lv56_14 : tab.lv 56 14 = some 4294967330 := tab_lv (by kernel_rfl)
theorem lv56_15 : tab.lv 56 15 = some 68719476738 := tab_lv (by kernel_rfl)
theorem lv56_16 : tab.lv 56 16 = some 4 := tab_lv (by kernel_rfl)
theorem lv56_17 : tab.lv 56 17 = some 137438953474 := tab_lv (by kernel_rfl)
theorem lv56_18 : tab.lv 56 18 = some 70368744177666 := tab_lv (by kernel_rfl)
theorem lv56_19 : tab.lv 56 19 = some 4 := tab_lv (by kernel_rfl)
theorem lv56_20 : tab.lv 56 20 = some 562949953421312 := tab_lv (by kernel_rfl)
theorem lv56_21 : tab.lv 56 21 = some 4 := tab_lv (by kernel_rfl)
theorem lv56_22 : tab.lv 56 22 = some 4 := tab_lv (by kernel_rfl)
theorem lv57_0 : tab.lv 57 0 = some 71 := tab_lv (by kernel_rfl)
theorem lv57_1 : tab.lv 57 1 = some 198 := tab_lv (by kernel_rfl)
theorem lv57_2 : tab.lv 57 2 = some 454 := tab_lv (by kernel_rfl)
theorem lv57_3 : tab.lv 57 3 = some 57794 := tab_lv (by kernel_rfl)
theorem lv57_4 : tab.lv 57 4 = some 123330 := tab_lv (by kernel_rfl)
theorem lv57_5 : tab.lv 57 5 = some 58818 := tab_lv (by kernel_rfl)
theorem lv57_6 : tab.lv 57 6 = some 4253122 := tab_lv (by kernel_rfl)
theorem lv57_7 : tab.lv 57 7 = some 57794 := tab_lv (by kernel_rfl)
theorem lv57_8 : tab.lv 57 8 = some 57794 := tab_lv (by kernel_rfl)
theorem lv57_9 : tab.lv 57 9 = some 137438953922 := tab_lv (by kernel_rfl)
theorem lv57_10 : tab.lv 57 10 = some 64 := tab_lv (by kernel_rfl)
theorem lv57_11 : tab.lv 57 11 = some 64 := tab_lv (by kernel_rfl)
theorem lv58_0 : tab.lv 58 0 = some 159 := tab_lv (by kernel_rfl)
theorem lv58_1 : tab.lv 58 1 = some 414 := tab_lv (by kernel_rfl)
theorem lv58_2 : tab.lv 58 2 = some 57756 := tab_lv (by kernel_rfl)
theorem lv58_3 : tab.lv 58 3 = some 123292 := tab_lv (by kernel_rfl)
theorem lv58_4 : tab.lv 58 4 = some 58780 := tab_lv (by kernel_rfl)
theorem lv58_5 : tab.lv 58 5 = some 57756 := tab_lv (by kernel_rfl)
theorem lv58_6 : tab.lv 58 6 = some 57756 := tab_lv (by kernel_rfl)
theorem lv58_7 : tab.lv 58 7 = some 128 := tab_lv (by kernel_rfl)
theorem lv59_0 : tab.lv 59 0 = some 2 := tab_lv (by kernel_rfl)
theorem lv59_1 : tab.lv 59 1 = some 1026 := tab_lv (by kernel_rfl)
theorem lv59_2 : tab.lv 59 2 = some 4 := tab_lv (by kernel_rfl)
theorem lv59_3 : tab.lv 59 3 = some 524290 := tab_lv (by kernel_rfl)
theorem lv59_4 : tab.lv 59 4 = some 4 := tab_lv (by kernel_rfl)
theorem lv59_5 : tab.lv 59 5 = some 2097154 := tab_lv (by kernel_rfl)
theorem lv59_6 : tab.lv 59 6 = some 1073741824 := tab_lv (by kernel_rfl)
theorem lv59_7 : tab.lv 59 7 = some 4 := tab_lv (by kernel_rfl)
theorem lv59_8 : tab.lv 59 8 = some 2149580802 := tab_lv (by kernel_rfl)
theorem lv59_9 : tab.lv 59 9 = some 9007199254740992 := tab_lv (by kernel_rfl)
theorem lv59_10 : tab.lv 59 10 = some 4 := tab_lv (by kernel_rfl)
theorem lv59_11 : tab.lv 59 11 = some 18014398509481986 := tab_lv (by kernel_rfl)
theorem lv59_12 : tab.lv 59 12 = some 36893488147419103232 := tab_lv (by kernel_rfl)
theorem lv59_13 : tab.lv 59 13 = some 4 := tab_lv (by kernel_rfl)
theorem lv59_14 : tab.lv 59 14 = some 4 := tab_lv (by kernel_rfl)
theorem lv60_0 : tab.lv 60 0 = some 1 := tab_lv (by kernel_rfl)
theorem lv60_1 : tab.lv 60 1 = some 4 := tab_lv (by kernel_rfl)
theorem lv61_0 : tab.lv 61 0 = some 3 := tab_lv (by kernel_rfl)
theorem lv61_1 : tab.lv 61 1 = some 35 := tab_lv (by kernel_rfl)
theorem lv61_2 : tab.lv 61 2 = some 65571 := tab_lv (by kernel_rfl)
theorem lv61_3 : tab.lv 61 3 = some 35 := tab_lv (by kernel_rfl)
theorem lv61_4 : tab.lv 61 4 = some 16 := tab_lv (by kernel_rfl)
theorem lv62_0 : tab.lv 62 0 = some 1 := tab_lv (by kernel_rfl)
theorem lv62_1 : tab.lv 62 1 = some 4 := tab_lv (by kernel_rfl)
theorem lv63_0 : tab.lv 63 0 = some 1 := tab_lv (by kernel_rfl)
theorem lv63_1 : tab.lv 63 1 = some 4 := tab_lv (by kernel_rfl)
theorem lv64_0 : tab.lv 64 0 = some 1 := tab_lv (by kernel_rfl)
theorem lv64_1 : tab.lv 64 1 = some 8 := tab_lv (by kernel_rfl)
theorem lv64_2 : tab.lv 64 2 = some 24 := tab_lv (by kernel_rfl)
theorem lv64_3 : tab.lv 64 3 = some 24 := tab_lv (by kernel_rfl)
theorem lv64_4 : tab.lv 64 4 = some 24 := tab_lv (by kernel_rfl)
theorem lv64_5 : tab.lv 64 5 = some 24 := tab_lv (by kernel_rfl)
theorem lv64_6 : tab.lv 64 6 = some 24 := tab_lv (by kernel_rfl)
theorem lv64_7 : tab.lv 64 7 = some 24 := tab_lv (by kernel_rfl)
theorem lv64_8 : tab.lv 64 8 = some 16 := tab_lv (by kernel_rfl)
theorem lv64_9 : tab.lv 64 9 = some 4 := tab_lv (by kernel_rfl)
theorem lv64_10 : tab.lv 64 10 = some 4 := tab_lv (by kernel_rfl)
theorem lv65_0 : tab.lv 65 0 = some 6 := tab_lv (by kernel_rfl)
theorem lv65_1 : tab.lv 65 1 = some 14 := tab_lv (by kernel_rfl)
theorem lv65_2 : tab.lv 65 2 = some 14 := tab_lv (by kernel_rfl)
theorem lv65_3 : tab.lv 65 3 = some 3596 := tab_lv (by kernel_rfl)
theorem lv65_4 : tab.lv 65 4 = some 7692 := tab_lv (by kernel_rfl)
theorem lv65_5 : tab.lv 65 5 = some 3628 := tab_lv (by kernel_rfl)
theorem lv65_6 : tab.lv 65 6 = some 3596 := tab_lv (by kernel_rfl)
theorem lv65_7 : tab.lv 65 7 = some 3596 := tab_lv (by kernel_rfl)
theorem lv65_8 : tab.lv 65 8 = some 4 := tab_lv (by kernel_rfl)
theorem lv66_0 : tab.lv 66 0 = some 6 := tab_lv (by kernel_rfl)
theorem lv66_1 : tab.lv 66 1 = some 14 := tab_lv (by kernel_rfl)
theorem lv66_2 : tab.lv 66 2 = some 10 := tab_lv (by kernel_rfl)
theorem lv66_3 : tab.lv 66 3 = some 0 := tab_lv (by kernel_rfl)
theorem lv67_0 : tab.lv 67 0 = some 14 := tab_lv (by kernel_rfl)
theorem lv67_1 : tab.lv 67 1 = some 65548 := tab_lv (by kernel_rfl)
theorem lv67_2 : tab.lv 67 2 = some 16 := tab_lv (by kernel_rfl)
theorem lv67_3 : tab.lv 67 3 = some 1835012 := tab_lv (by kernel_rfl)
theorem lv67_4 : tab.lv 67 4 = some 3932164 := tab_lv (by kernel_rfl)
theorem lv67_5 : tab.lv 67 5 = some 1835076 := tab_lv (by kernel_rfl)
theorem lv67_6 : tab.lv 67 6 = some 136052740 := tab_lv (by kernel_rfl)
theorem lv67_7 : tab.lv 67 7 = some 16 := tab_lv (by kernel_rfl)
theorem lv67_8 : tab.lv 67 8 = some 1835012 := tab_lv (by kernel_rfl)
theorem lv67_9 : tab.lv 67 9 = some 16 := tab_lv (by kernel_rfl)
theorem lv71_0 : tab.lv 71 0 = some 1 := tab_lv (by kernel_rfl)
theorem lv71_1 : tab.lv 71 1 = some 4 := tab_lv (by kernel_rfl)
theorem lv72_0 : tab.lv 72 0 = some 3 := tab_lv (by kernel_rfl)
theorem lv72_1 : tab.lv 72 1 = some 1027 := tab_lv (by kernel_rfl)
theorem lv72_2 : tab.lv 72 2 = some 16 := tab_lv (by kernel_rfl)
theorem lv72_3 : tab.lv 72 3 = some 12291 := tab_lv (by kernel_rfl)
theorem lv72_4 : tab.lv 72 4 = some 28675 := tab_lv (by kernel_rfl)
theorem lv72_5 : tab.lv 72 5 = some 12323 := tab_lv (by kernel_rfl)
theorem lv72_6 : tab.lv 72 6 = some 16789507 := tab_lv (by kernel_rfl)
theorem lv72_7 : tab.lv 72 7 = some 16 := tab_lv (by kernel_rfl)
theorem lv72_8 : tab.lv 72 8 = some 12291 := tab_lv (by kernel_rfl)
theorem lv72_9 : tab.lv 72 9 = some 16 := tab_lv (by kernel_rfl)
theorem lv73_0 : tab.lv 73 0 = some 2 := tab_lv (by kernel_rfl)
theorem lv73_1 : tab.lv 73 1 = some 4 := tab_lv (by kernel_rfl)
theorem lv74_0 : tab.lv 74 0 = some 5 := tab_lv (by kernel_rfl)
theorem lv74_1 : tab.lv 74 1 = some 4 := tab_lv (by kernel_rfl)
theorem lv75_0 : tab.lv 75 0 = some 25 := tab_lv (by kernel_rfl)
theorem lv75_1 : tab.lv 75 1 = some 80 := tab_lv (by kernel_rfl)
theorem lv75_2 : tab.lv 75 2 = some 33554512 := tab_lv (by kernel_rfl)
theorem lv75_3 : tab.lv 75 3 = some 48 := tab_lv (by kernel_rfl)
theorem lv75_4 : tab.lv 75 4 = some 48 := tab_lv (by kernel_rfl)
theorem lv76_0 : tab.lv 76 0 = some 25 := tab_lv (by kernel_rfl)
theorem lv76_1 : tab.lv 76 1 = some 48 := tab_lv (by kernel_rfl)
theorem lv76_2 : tab.lv 76 2 = some 65584 := tab_lv (by kernel_rfl)
theorem lv76_3 : tab.lv 76 3 = some 16 := tab_lv (by kernel_rfl)
theorem lv76_4 : tab.lv 76 4 = some 16 := tab_lv (by kernel_rfl)
theorem lv77_0 : tab.lv 77 0 = some 35 := tab_lv (by kernel_rfl)
theorem lv77_1 : tab.lv 77 1 = some 99 := tab_lv (by kernel_rfl)
theorem lv77_2 : tab.lv 77 2 = some 227 := tab_lv (by kernel_rfl)
theorem lv77_3 : tab.lv 77 3 = some 14561 := tab_lv (by kernel_rfl)
theorem lv77_4 : tab.lv 77 4 = some 30945 := tab_lv (by kernel_rfl)
theorem lv77_5 : tab.lv 77 5 = some 15073 := tab_lv (by kernel_rfl)
theorem lv77_6 : tab.lv 77 6 = some 15585 := tab_lv (by kernel_rfl)
theorem lv77_7 : tab.lv 77 7 = some 4209889 := tab_lv (by kernel_rfl)
theorem lv77_8 : tab.lv 77 8 = some 48 := tab_lv (by kernel_rfl)
theorem lv77_9 : tab.lv 77 9 = some 67124449 := tab_lv (by kernel_rfl)
theorem lv77_10 : tab.lv 77 10 = some 15585 := tab_lv (by kernel_rfl)
theorem lv77_11 : tab.lv 77 11 = some 14561 := tab_lv (by kernel_rfl)
theorem lv77_12 : tab.lv 77 12 = some 14561 := tab_lv (by kernel_rfl)
theorem lv77_13 : tab.lv 77 13 = some 48 := tab_lv (by kernel_rfl)
theorem lv78_0 : tab.lv 78 0 = some 19 := tab_lv (by kernel_rfl)
theorem lv78_1 : tab.lv 78 1 = some 4115 := tab_lv (by kernel_rfl)
theorem lv78_2 : tab.lv 78 2 = some 12307 := tab_lv (by kernel_rfl)
theorem lv78_3 : tab.lv 78 3 = some 12307 := tab_lv (by kernel_rfl)
theorem lv78_4 : tab.lv 78 4 = some 12307 := tab_lv (by kernel_rfl)
theorem lv78_5 : tab.lv 78 5 = some 12307 := tab_lv (by kernel_rfl)
theorem lv78_6 : tab.lv 78 6 = some 113 := tab_lv (by kernel_rfl)
theorem lv78_7 : tab.lv 78 7 = some 536871025 := tab_lv (by kernel_rfl)
theorem lv78_8 : tab.lv 78 8 = some 16 := tab_lv (by kernel_rfl)
theorem lv78_9 : tab.lv 78 9 = some 16 := tab_lv (by kernel_rfl)
theorem lv78_10 : tab.lv 78 10 = some 9223372036854779923 := tab_lv (by kernel_rfl)
theorem lv78_11 : tab.lv 78 11 = some 147573952589676412946 := tab_lv (by kernel_rfl)
theorem lv78_12 : tab.lv 78 12 = some 16 := tab_lv (by kernel_rfl)
theorem lv78_13 : tab.lv 78 13 = some 16 := tab_lv (by kernel_rfl)
theorem lv78_14 : tab.lv 78 14 = some 37778931862957161713683 := tab_lv (by kernel_rfl)
theorem lv78_15 : tab.lv 78 15 = some 37778931862957161709587 := tab_lv (by kernel_rfl)
theorem lv78_16 : tab.lv 78 16 = some 1208925819614629174706195 := tab_lv (by kernel_rfl)
theorem lv78_17 : tab.lv 78 17 = some 16 := tab_lv (by kernel_rfl)
theorem lv78_18 : tab.lv 78 18 = some 9671406556917033397649426 := tab_lv (by kernel_rfl)
theorem lv78_19 : tab.lv 78 19 = some 16 := tab_lv (by kernel_rfl)
theorem lv78_20 : tab.lv 78 20 = some 2535301200456458802993406410770 := tab_lv (by kernel_rfl)
theorem lv78_21 : tab.lv 78 21 = some 16 := tab_lv (by kernel_rfl)
theorem lv78_22 : tab.lv 78 22 = some 16 := tab_lv (by kernel_rfl)
theorem lv78_23 : tab.lv 78 23 = some 41538374868278621028243970633760787 := tab_lv (by kernel_rfl)
theorem lv78_24 : tab.lv 78 24 = some 16 := tab_lv (by kernel_rfl)
theorem lv78_25 : tab.lv 78 25 = some 147 := tab_lv (by kernel_rfl)
theorem lv78_26 : tab.lv 78 26 = some 913 := tab_lv (by kernel_rfl)
theorem lv78_27 : tab.lv 78 27 = some 10889035741470030830827987437816582767504 := tab_lv (by kernel_rfl)
theorem lv78_28 : tab.lv 78 28 = some 912 := tab_lv (by kernel_rfl)
theorem lv78_29 : tab.lv 78 29 = some 3088 := tab_lv (by kernel_rfl)
theorem lv78_30 : tab.lv 78 30 = some 5575186299632655785383929568162090376498192 := tab_lv (by kernel_rfl)
theorem lv78_31 : tab.lv 78 31 = some 16 := tab_lv (by kernel_rfl)
theorem lv78_32 : tab.lv 78 32 = some 16 := tab_lv (by kernel_rfl)
theorem lv79_0 : tab.lv 79 0 = some 3 := tab_lv (by kernel_rfl)
theorem lv79_1 : tab.lv 79 1 = some 32 := tab_lv (by kernel_rfl)
theorem lv79_2 : tab.lv 79 2 = some 229408 := tab_lv (by kernel_rfl)
theorem lv79_3 : tab.lv 79 3 = some 491552 := tab_lv (by kernel_rfl)
theorem lv79_4 : tab.lv 79 4 = some 229600 := tab_lv (by kernel_rfl)
theorem lv79_5 : tab.lv 79 5 = some 229408 := tab_lv (by kernel_rfl)
theorem lv79_6 : tab.lv 79 6 = some 229408 := tab_lv (by kernel_rfl)
theorem lv79_7 : tab.lv 79 7 = some 16 := tab_lv (by kernel_rfl)
theorem lv80_0 : tab.lv 80 0 = some 1 := tab_lv (by kernel_rfl)
theorem lv80_1 : tab.lv 80 1 = some 256 := tab_lv (by kernel_rfl)
theorem lv80_2 : tab.lv 80 2 = some 4 := tab_lv (by kernel_rfl)
theorem lv80_3 : tab.lv 80 3 = some 4 := tab_lv (by kernel_rfl)
theorem lv81_0 : tab.lv 81 0 = some 1 := tab_lv (by kernel_rfl)
theorem lv81_1 : tab.lv 81 1 = some 65 := tab_lv (by kernel_rfl)
theorem lv81_2 : tab.lv 81 2 = some 4 := tab_lv (by kernel_rfl)
theorem lv81_3 : tab.lv 81 3 = some 769 := tab_lv (by kernel_rfl)
theorem lv81_4 : tab.lv 81 4 = some 1793 := tab_lv (by kernel_rfl)
theorem lv81_5 : tab.lv 81 5 = some 777 := tab_lv (by kernel_rfl)
theorem lv81_6 : tab.lv 81 6 = some 2097921 := tab_lv (by kernel_rfl)
theorem lv81_7 : tab.lv 81 7 = some 4 := tab_lv (by kernel_rfl)
theorem lv81_8 : tab.lv 81 8 = some 769 := tab_lv (by kernel_rfl)
theorem lv81_9 : tab.lv 81 9 = some 4 := tab_lv (by kernel_rfl)
theorem lv82_0 : tab.lv 82 0 = some 25 := tab_lv (by kernel_rfl)
theorem lv82_1 : tab.lv 82 1 = some 49 := tab_lv (by kernel_rfl)
theorem lv82_2 : tab.lv 82 2 = some 1072 := tab_lv (by kernel_rfl)
theorem lv82_3 : tab.lv 82 3 = some 48 := tab_lv (by kernel_rfl)
theorem lv82_4 : tab.lv 82 4 = some 16 := tab_lv (by kernel_rfl)
theorem lv83_0 : tab.lv 83 0 = some 1 := tab_lv (by kernel_rfl)
theorem lv83_1 : tab.lv 83 1 = some 1 := tab_lv (by kernel_rfl)
theorem lv87_0 : tab.lv 87 0 = some 11 := tab_lv (by kernel_rfl)
theorem lv87_1 : tab.lv 87 1 = some 267 := tab_lv (by kernel_rfl)
theorem lv87_2 : tab.lv 87 2 = some 11 := tab_lv (by kernel_rfl)
theorem lv87_3 : tab.lv 87 3 = some 262155 := tab_lv (by kernel_rfl)
theorem lv88_0 : tab.lv 88 0 = some 12 := tab_lv (by kernel_rfl)
theorem lv88_1 : tab.lv 88 1 = some 1048588 := tab_lv (by kernel_rfl)
theorem lv88_2 : tab.lv 88 2 = some 48 := tab_lv (by kernel_rfl)
theorem lv88_3 : tab.lv 88 3 = some 48 := tab_lv (by kernel_rfl)
theorem lv89_0 : tab.lv 89 0 = some 5 := tab_lv (by kernel_rfl)
theorem lv89_1 : tab.lv 89 1 = some 12 := tab_lv (by kernel_rfl)
theorem lv89_2 : tab.lv 89 2 = some 4 := tab_lv (by kernel_rfl)
theorem lv89_3 : tab.lv 89 3 = some 4 := tab_lv (by kernel_rfl)
theorem lv90_0 : tab.lv 90 0 = some 3 := tab_lv (by kernel_rfl)
theorem lv90_1 : tab.lv 90 1 = some 898 := tab_lv (by kernel_rfl)
theorem lv90_2 : tab.lv 90 2 = some 1922 := tab_lv (by kernel_rfl)
theorem lv90_3 : tab.lv 90 3 = some 962 := tab_lv (by kernel_rfl)
theorem lv90_4 : tab.lv 90 4 = some 66434 := tab_lv (by kernel_rfl)
theorem lv90_5 : tab.lv 90 5 = some 16 := tab_lv (by kernel_rfl)
theorem lv90_6 : tab.lv 90 6 = some 898 := tab_lv (by kernel_rfl)
theorem lv90_7 : tab.lv 90 7 = some 16 := tab_lv (by kernel_rfl)
theorem lv91_0 : tab.lv 91 0 = some 3 := tab_lv (by kernel_rfl)
theorem lv91_1 : tab.lv 91 1 = some 48 := tab_lv (by kernel_rfl)
theorem lv92_0 : tab.lv 92 0 = some 3 := tab_lv (by kernel_rfl)
theorem lv92_1 : tab.lv 92 1 = some 4099 := tab_lv (by kernel_rfl)
theorem lv92_2 : tab.lv 92 2 = some 48 := tab_lv (by kernel_rfl)
theorem lv92_3 : tab.lv 92 3 = some 48 := tab_lv (by kernel_rfl)
theorem lv93_0 : tab.lv 93 0 = some 3 := tab_lv (by kernel_rfl)
theorem lv93_1 : tab.lv 93 1 = some 4099 := tab_lv (by kernel_rfl)
theorem lv93_2 : tab.lv 93 2 = some 48 := tab_lv (by kernel_rfl)
theorem lv93_3 : tab.lv 93 3 = some 48 := tab_lv (by kernel_rfl)
theorem lv94_0 : tab.lv 94 0 = some 3 := tab_lv (by kernel_rfl)
theorem lv94_1 : tab.lv 94 1 = some 48 := tab_lv (by kernel_rfl)
theorem lv95_0 : tab.lv 95 0 = some 3 := tab_lv (by kernel_rfl)
theorem lv95_1 : tab.lv 95 1 = some 48 := tab_lv (by kernel_rfl)
theorem lv106_0 : tab.lv 106 0 = some 1 := tab_lv (by kernel_rfl)
theorem lv106_1 : tab.lv 106 1 = some 9 := tab_lv (by kernel_rfl)
theorem lv106_2 : tab.lv 106 2 = some 456 := tab_lv (by kernel_rfl)
theorem lv106_3 : tab.lv 106 3 = some 968 := tab_lv (by kernel_rfl)
theorem lv106_4 : tab.lv 106 4 = some 488 := tab_lv (by kernel_rfl)
theorem lv106_5 : tab.lv 106 5 = some 16872 := tab_lv (by kernel_rfl)
theorem lv106_6 : tab.lv 106 6 = some 4 := tab_lv (by kernel_rfl)
theorem lv106_7 : tab.lv 106 7 = some 456 := tab_lv (by kernel_rfl)
theorem lv106_8 : tab.lv 106 8 = some 4 := tab_lv (by kernel_rfl)
theorem lv107_0 : tab.lv 107 0 = some 3 := tab_lv (by kernel_rfl)
theorem lv107_1 : tab.lv 107 1 = some 35 := tab_lv (by kernel_rfl)
theorem lv107_2 : tab.lv 107 2 = some 99 := tab_lv (by kernel_rfl)
theorem lv107_3 : tab.lv 107 3 = some 2115 := tab_lv (by kernel_rfl)
theorem lv107_4 : tab.lv 107 4 = some 4096 := tab_lv (by kernel_rfl)
theorem lv107_5 : tab.lv 107 5 = some 16 := tab_lv (by kernel_rfl)
theorem lv107_6 : tab.lv 107 6 = some 16 := tab_lv (by kernel_rfl)
theorem lv107_7 : tab.lv 107 7 = some 8195 := tab_lv (by kernel_rfl)
theorem lv107_8 : tab.lv 107 8 = some 16 := tab_lv (by kernel_rfl)
theorem lv107_9 : tab.lv 107 9 = some 65539 := tab_lv (by kernel_rfl)
theorem lv107_10 : tab.lv 107 10 = some 16 := tab_lv (by kernel_rfl)
theorem lv107_11 : tab.lv 107 11 = some 524288 := tab_lv (by kernel_rfl)
theorem lv107_12 : tab.lv 107 12 = some 16 := tab_lv (by kernel_rfl)
theorem lv107_13 : tab.lv 107 13 = some 16 := tab_lv (by kernel_rfl)
theorem lv108_0 : tab.lv 108 0 = some 3 := tab_lv (by kernel_rfl)
theorem lv108_1 : tab.lv 108 1 = some 35 := tab_lv (by kernel_rfl)
theorem lv108_2 : tab.lv 108 2 = some 99 := tab_lv (by kernel_rfl)
theorem lv108_3 : tab.lv 108 3 = some 2115 := tab_lv (by kernel_rfl)
theorem lv108_4 : tab.lv 108 4 = some 4096 := tab_lv (by kernel_rfl)
theorem lv108_5 : tab.lv 108 5 = some 16 := tab_lv (by kernel_rfl)
theorem lv108_6 : tab.lv 108 6 = some 16 := tab_lv (by kernel_rfl)
theorem lv108_7 : tab.lv 108 7 = some 8195 := tab_lv (by kernel_rfl)
theorem lv108_8 : tab.lv 108 8 = some 16 := tab_lv (by kernel_rfl)
theorem lv108_9 : tab.lv 108 9 = some 65539 := tab_lv (by kernel_rfl)
theorem lv108_10 : tab.lv 108 10 = some 16 := tab_lv (by kernel_rfl)
theorem lv108_11 : tab.lv 108 11 = some 524288 := tab_lv (by kernel_rfl)
theorem lv108_12 : tab.lv 108 12 = some 16 := tab_lv (by kernel_rfl)
theorem lv108_13 : tab.lv 108 13 = some 16 := tab_lv (by kernel_rfl)
theorem lv109_0 : tab.lv 109 0 = some 7 := tab_lv (by kernel_rfl)
theorem lv109_1 : tab.lv 109 1 = some 131079 := tab_lv (by kernel_rfl)
theorem lv109_2 : tab.lv 109 2 = some 192 := tab_lv (by kernel_rfl)
theorem lv109_3 : tab.lv 109 3 = some 256 := tab_lv (by kernel_rfl)
theorem lv109_4 : tab.lv 109 4 = some 768 := tab_lv (by kernel_rfl)
theorem lv109_5 : tab.lv 109 5 = some 33555200 := tab_lv (by kernel_rfl)
theorem lv109_6 : tab.lv 109 6 = some 192 := tab_lv (by kernel_rfl)
theorem lv109_7 : tab.lv 109 7 = some 192 := tab_lv (by kernel_rfl)
theorem lv110_0 : tab.lv 110 0 = some 3 := tab_lv (by kernel_rfl)
theorem lv110_1 : tab.lv 110 1 = some 274877906947 := tab_lv (by kernel_rfl)
theorem lv110_2 : tab.lv 110 2 = some 16 := tab_lv (by kernel_rfl)
theorem lv110_3 : tab.lv 110 3 = some 16 := tab_lv (by kernel_rfl)
theorem lv111_0 : tab.lv 111 0 = some 3 := tab_lv (by kernel_rfl)
theorem lv111_1 : tab.lv 111 1 = some 32 := tab_lv (by kernel_rfl)
theorem lv111_2 : tab.lv 111 2 = some 16 := tab_lv (by kernel_rfl)
theorem lv112_0 : tab.lv 112 0 = some 3 := tab_lv (by kernel_rfl)
theorem lv112_1 : tab.lv 112 1 = some 194 := tab_lv (by kernel_rfl)
theorem lv112_2 : tab.lv 112 2 = some 4194498 := tab_lv (by kernel_rfl)
theorem lv112_3 : tab.lv 112 3 = some 48 := tab_lv (by kernel_rfl)
theorem lv112_4 : tab.lv 112 4 = some 48 := tab_lv (by kernel_rfl)
theorem lv113_0 : tab.lv 113 0 = some 3 := tab_lv (by kernel_rfl)
theorem lv113_1 : tab.lv 113 1 = some 64 := tab_lv (by kernel_rfl)
theorem lv113_2 : tab.lv 113 2 = some 16 := tab_lv (by kernel_rfl)
theorem lv114_0 : tab.lv 114 0 = some 3 := tab_lv (by kernel_rfl)
theorem lv114_1 : tab.lv 114 1 = some 16 := tab_lv (by kernel_rfl)
theorem lv115_0 : tab.lv 115 0 = some 3 := tab_lv (by kernel_rfl)
theorem lv115_1 : tab.lv 115 1 = some 16 := tab_lv (by kernel_rfl)
theorem lv121_0 : tab.lv 121 0 = some 1 := tab_lv (by kernel_rfl)
theorem lv121_1 : tab.lv 121 1 = some 4 := tab_lv (by kernel_rfl)
theorem mu42_7 : tab.mutA 42 7 = true := tab_mut (by kernel_rfl)
theorem mu56_7 : tab.mutA 56 7 = true := tab_mut (by kernel_rfl)
theorem mu56_26 : tab.mutA 56 26 = true := tab_mut (by kernel_rfl)
theorem mu30_21 : tab.mutA 30 21 = false := tab_mut (by kernel_rfl)
theorem mu30_27 : tab.mutA 30 27 = false := tab_mut (by kernel_rfl)
theorem mu56_65 : tab.mutA 56 65 = false := tab_mut (by kernel_rfl)
theorem mu42_28 : tab.mutA 42 28 = false := tab_mut (by kernel_rfl)
theorem mu42_56 : tab.mutA 42 56 = false := tab_mut (by kernel_rfl)
theorem mu42_59 : tab.mutA 42 59 = false := tab_mut (by kernel_rfl)
theorem mu25_37 : tab.mutA 25 37 = false := tab_mut (by kernel_rfl)
theorem mu67_56 : tab.mutA 67 56 = false := tab_mut (by kernel_rfl)
theorem mu67_9 : tab.mutA 67 9 = false := tab_mut (by kernel_rfl)
theorem mu67_12 : tab.mutA 67 12 = false := tab_mut (by kernel_rfl)
theorem mu67_15 : tab.mutA 67 15 = false := tab_mut (by kernel_rfl)
theorem mu42_27 : tab.mutA 42 27 = false := tab_mut (by kernel_rfl)
theorem mu25_28 : tab.mutA 25 28 = false := tab_mut (by kernel_rfl)
theorem mu25_20 : tab.mutA 25 20 = false := tab_mut (by kernel_rfl)
theorem mu121_31 : tab.mutA 121 31 = false := tab_mut (by kernel_rfl)
theorem mu9_13 : tab.mutA 9 13 = false := tab_mut (by kernel_rfl)
theorem ro3_7_raw_go_91 : tab.ro 3 7 "raw.go:91" = true := tab_ro (by kernel_rfl)
theorem ro9_3_names_go_46 : tab.ro 9 3 "names.go:46" = true := tab_ro (by kernel_rfl)
theorem ro24_1_value_go_14 : tab.ro 24 1 "value.go:14" = false := tab_ro (by kernel_rfl)
theorem ro24_1_value_go_68 : tab.ro 24 1 "value.go:68" = false := tab_ro (by kernel_rfl)
theorem ro24_2_value_go_126 : tab.ro 24 2 "value.go:126" = false := tab_ro (by kernel_rfl)
theorem ro24_3_value_go_126 : tab.ro 24 3 "value.go:126" = false := tab_ro (by kernel_rfl)
theorem ro27_1_expr_go_40 : tab.ro 27 1 "expr.go:40" = true := tab_ro (by kernel_rfl)
theorem ro27_1_expr_go_50 : tab.ro 27 1 "expr.go:50" = true := tab_ro (by kernel_rfl)
theorem ro27_1_expr_go_75 : tab.ro 27 1 "expr.go:75" = true := tab_ro (by kernel_rfl)
theorem ro27_1_expr_go_88 : tab.ro 27 1 "expr.go:88" = true := tab_ro (by kernel_rfl)
theorem ro27_1_names_go_15 : tab.ro 27 1 "names.go:15" = true := tab_ro (by kernel_rfl)
theorem ro27_1_names_go_34 : tab.ro 27 1 "names.go:34" = true := tab_ro (by kernel_rfl)
theorem ro27_1_names_go_86 : tab.ro 27 1 "names.go:86" = true := tab_ro (by kernel_rfl)
theorem ro27_2_eval_go_156 : tab.ro 27 2 "eval.go:156" = true := tab_ro (by kernel_rfl)
theorem ro27_2_names_go_46 : tab.ro 27 2 "names.go:46" = true := tab_ro (by kernel_rfl)
theorem ro27_2_raw_go_247 : tab.ro 27 2 "raw.go:247" = true := tab_ro (by kernel_rfl)
theorem ro27_2_typing_go_71 : tab.ro 27 2 "typing.go:71" = true := tab_ro (by kernel_rfl)
theorem ro27_3_eval_go_43 : tab.ro 27 3 "eval.go:43" = true := tab_ro (by kernel_rfl)
theorem ro27_3_eval_go_52 : tab.ro 27 3 "eval.go:52" = true := tab_ro (by kernel_rfl)
theorem ro27_3_eval_go_61 : tab.ro 27 3 "eval.go:61" = true := tab_ro (by kernel_rfl)
theorem ro27_3_names_go_18 : tab.ro 27 3 "names.go:18" = true := tab_ro (by kernel_rfl)
theorem ro27_3_names_go_56 : tab.ro 27 3 "names.go:56" = true := tab_ro (by kernel_rfl)
theorem ro27_3_names_go_69 : tab.ro 27 3 "names.go:69" = true := tab_ro (by kernel_rfl)
theorem ro27_3_raw_go_247 : tab.ro 27 3 "raw.go:247" = true := tab_ro (by kernel_rfl)
theorem ro27_3_typing_go_28 : tab.ro 27 3 "typing.go:28" = true := tab_ro (by kernel_rfl)
theorem ro27_3_typing_go_79 : tab.ro 27 3 "typing.go:79" = true := tab_ro (by kernel_rfl)
theorem ro27_5_names_go_56 : tab.ro 27 5 "names.go:56" = true := tab_ro (by kernel_rfl)
theorem ro27_5_names_go_69 : tab.ro 27 5 "names.go:69" = true := tab_ro (by kernel_rfl)
theorem ro30_1_iter_go_26 : tab.ro 30 1 "iter.go:26" = false := tab_ro (by kernel_rfl)
theorem ro30_6_raw_go_91 : tab.ro 30 6 "raw.go:91" = true := tab_ro (by kernel_rfl)
theorem ro71_4_raw_go_91 : tab.ro 71 4 "raw.go:91" = false := tab_ro (by kernel_rfl)
theorem ro73_9_low_go_267 : tab.ro 73 9 "low.go:267" = false := tab_ro (by kernel_rfl)
theorem ro73_10_raw_go_132 : tab.ro 73 10 "raw.go:132" = false := tab_ro (by kernel_rfl)
theorem ro73_15_more_go_74 : tab.ro 73 15 "more.go:74" = false := tab_ro (by kernel_rfl)
theorem ro73_18_more_go_75 : tab.ro 73 18 "more.go:75" = false := tab_ro (by kernel_rfl)
theorem ro99_3_raw_go_53 : tab.ro 99 3 "raw.go:53" = false := tab_ro (by kernel_rfl)
theorem ro99_3_raw_go_67 : tab.ro 99 3 "raw.go:67" = false := tab_ro (by kernel_rfl)
theorem ro106_2_names_go_16 : tab.ro 106 2 "names.go:16" = true := tab_ro (by kernel_rfl)
theorem rs3 : Try.f3.results.toList = [.tmp 4] := rfl
theorem rs4 : Try.f4.results.toList = [.tmp 6] := rfl
theorem rs5 : Try.f5.results.toList = [.tmp 4] := rfl
theorem rs6 : Try.f6.results.toList = [.tmp 4] := rfl
theorem rs7 : Try.f7.results.toList = [.tmp 6] := rfl
theorem rs8 : Try.f8.results.toList = [.tmp 6] := rfl
theorem rs9 : Try.f9.results.toList = [.tmp 8] := rfl
theorem rs10 : Try.f10.results.toList = [.tmp 8] := rfl
theorem rs11 : Try.f11.results.toList = [.tmp 6] := rfl
theorem rs12 : Try.f12.results.toList = [.tmp 8] := rfl
theorem rs13 : Try.f13.results.toList = [.tmp 8] := rfl
theorem rs14 : Try.f14.results.toList = [.tmp 8] := rfl
theorem rs15 : Try.f15.results.toList = [.cell 6 27] := rfl
theorem rs16 : Try.f16.results.toList = [.tmp 4] := rfl
theorem rs17 : Try.f17.results.toList = [.tmp 0] := rfl
theorem rs18 : Try.f18.results.toList = [.tmp 2, .tmp 3] := rfl
theorem rs19 : Try.f19.results.toList = [.tmp 2] := rfl
theorem rs20 : Try.f20.results.toList = [.cell 6 27, .tmp 7] := rfl
theorem rs21 : Try.f21.results.toList = [.tmp 4] := rfl
theorem rs22 : Try.f22.results.toList = [.cell 4 4] := rfl
theorem rs23 : Try.f23.results.toList = [.tmp 2, .tmp 3] := rfl
theorem rs24 : Try.f24.results.toList = [.tmp 4] := rfl
theorem rs25 : Try.f25.results.toList = [.tmp 2] := rfl
theorem rs26 : Try.f26.results.toList = [.tmp 2] := rfl
theorem rs27 : Try.f27.results.toList = [.tmp 2] := rfl
theorem rs28 : Try.f28.results.toList = [.tmp 4] := rfl
theorem rs29 : Try.f29.results.toList = [.tmp 6] := rfl
theorem rs30 : Try.f30.results.toList = [.tmp 4, .tmp 5] := rfl
theorem rs31 : Try.f31.results.toList = [.cell 4 24, .tmp 5] := rfl
theorem rs32 : Try.f32.results.toList = [.tmp 2] := rfl
theorem rs33 : Try.f33.results.toList = [.tmp 2] := rfl
theorem rs34 : Try.f34.results.toList = [.cell 8 27, .cell 9 27, .tmp 10] := rfl
theorem rs35 : Try.f35.results.toList = [.cell 4 27] := rfl
theorem rs36 : Try.f36.results.toList = [.cell 2 27] := rfl
theorem rs37 : Try.f37.results.toList = [.cell 2 27] := rfl
theorem rs38 : Try.f38.results.toList = [.tmp 2] := rfl
theorem rs39 : Try.f39.results.toList = [.cell 8 27] := rfl
theorem rs40 : Try.f40.results.toList = [.tmp 2] := rfl
theorem rs41 : Try.f41.results.toList = [.tmp 2] := rfl
theorem rs42 : Try.f42.results.toList = [.cell 6 27] := rfl
theorem rs43 : Try.f43.results.toList = [.tmp 6] := rfl
theorem rs44 : Try.f44.results.toList = [.tmp 2] := rfl
theorem rs47 : Try.f47.results.toList = [.tmp 4] := rfl
theorem rs48 : Try.f48.results.toList = [.tmp 4] := rfl
theorem rs49 : Try.f49.results.toList = [.tmp 6, .tmp 7] := rfl
theorem rs50 : Try.f50.results.toList = [.tmp 2] := rfl
theorem rs51 : Try.f51.results.toList = [.tmp 0] := rfl
theorem rs52 : Try.f52.results.toList = [.tmp 2, .tmp 3] := rfl
theorem rs53 : Try.f53.results.toList = [.cell 4 24] := rfl
theorem rs54 : Try.f54.results.toList = [.cell 4 24] := rfl
theorem rs55 : Try.f55.results.toList = [.cell 2 99] := rfl
theorem rs56 : Try.f56.results.toList = [.tmp 2] := rfl
theorem rs57 : Try.f57.results.toList = [.cell 6 27] := rfl
theorem rs58 : Try.f58.results.toList = [.cell 7 27] := rfl
theorem rs59 : Try.f59.results.toList = [.tmp 2] := rfl
theorem rs60 : Try.f60.results.toList = [.tmp 2] := rfl
theorem rs61 : Try.f61.results.toList = [.tmp 4] := rfl
theorem rs62 : Try.f62.results.toList = [.tmp 2] := rfl
theorem rs63 : Try.f63.results.toList = [.tmp 2] := rfl
theorem rs64 : Try.f64.results.toList = [.tmp 2] := rfl
theorem rs65 : Try.f65.results.toList = [.cell 2 27] := rfl
theorem rs66 : Try.f66.results.toList = [] := rfl
theorem rs67 : Try.f67.results.toList = [.tmp 4] := rfl
theorem rs71 : Try.f71.results.toList = [.tmp 2] := rfl
theorem rs72 : Try.f72.results.toList = [.tmp 4] := rfl
theorem rs73 : Try.f73.results.toList = [.tmp 2] := rfl
theorem rs74 : Try.f74.results.toList = [.cell 2 24] := rfl
theorem rs75 : Try.f75.results.toList = [.cell 4 24, .tmp 5] := rfl
theorem rs76 : Try.f76.results.toList = [.cell 4 24] := rfl
theorem rs77 : Try.f77.results.toList = [.tmp 4, .cell 5 24] := rfl
theorem rs78 : Try.f78.results.toList = [.cell 4 24] := rfl
theorem rs79 : Try.f79.results.toList = [.tmp 4] := rfl
theorem rs80 : Try.f80.results.toList = [.tmp 2] := rfl
theorem rs81 : Try.f81.results.toList = [.tmp 2] := rfl
theorem rs82 : Try.f82.results.toList = [.cell 4 27] := rfl
theorem rs83 : Try.f83.results.toList = [.cell 0 130] := rfl
theorem rs87 : Try.f87.results.toList = [] := rfl
theorem rs88 : Try.f88.results.toList = [.tmp 4, .tmp 5] := rfl
theorem rs89 : Try.f89.results.toList = [.cell 2 24] := rfl
theorem rs90 : Try.f90.results.toList = [.tmp 4] := rfl
theorem rs91 : Try.f91.results.toList = [.tmp 4, .tmp 5] := rfl
theorem rs92 : Try.f92.results.toList = [.tmp 4, .tmp 5] := rfl
theorem rs93 : Try.f93.results.toList = [.tmp 4, .tmp 5] := rfl
theorem rs94 : Try.f94.results.toList = [.tmp 4, .tmp 5] := rfl
theorem rs95 : Try.f95.results.toList = [.tmp 4, .tmp 5] := rfl
theorem rs106 : Try.f106.results.toList = [.tmp 2] := rfl
theorem rs107 : Try.f107.results.toList = [.tmp 4] := rfl
theorem rs108 : Try.f108.results.toList = [.tmp 4] := rfl
theorem rs109 : Try.f109.results.toList = [.tmp 6, .tmp 7] := rfl
theorem rs110 : Try.f110.results.toList = [.tmp 4] := rfl
theorem rs111 : Try.f111.results.toList = [.tmp 4] := rfl
theorem rs112 : Try.f112.results.toList = [.tmp 4, .tmp 5] := rfl
theorem rs113 : Try.f113.results.toList = [.tmp 4] := rfl
theorem rs114 : Try.f114.results.toList = [.tmp 4] := rfl
theorem rs115 : Try.f115.results.toList = [.tmp 4] := rfl
theorem rs121 : Try.f121.results.toList = [.tmp 2] := rfl
end Go.Proofs.Ytjjjkoknodcaaaa.Am
