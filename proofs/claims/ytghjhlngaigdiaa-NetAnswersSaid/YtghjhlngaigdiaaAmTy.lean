/- The table's entries, one by one. Printed by genty.py. -/
import Derived.Test.YtghjhlngaigdiaaAmRule
set_option linter.unusedVariables false
set_option linter.unusedSimpArgs false
namespace Go.Proofs.Ytghjhlngaigdiaa.Am
open Go Go.RowKit
set_option maxRecDepth 100000
theorem und2 : tab.und 2 = some (.int .i64) := (tab_und 2).trans Try.underlying2
theorem sz2 : size tab 2 = some 1 := by simp only [size, inf2, Option.map]
theorem ag2 : isAgg tab 2 = some false := by simp only [isAgg, und2]
theorem und3 : tab.und 3 = some (.int .i64) := (tab_und 3).trans Try.underlying3
theorem sz3 : size tab 3 = some 1 := by simp only [size, inf3, Option.map]
theorem ag3 : isAgg tab 3 = some false := by simp only [isAgg, und3]
theorem und4 : tab.und 4 = some (.bool) := (tab_und 4).trans Try.underlying4
theorem sz4 : size tab 4 = some 1 := by simp only [size, inf4, Option.map]
theorem ag4 : isAgg tab 4 = some false := by simp only [isAgg, und4]
theorem und5 : tab.und 5 = some (.int .u8) := (tab_und 5).trans Try.underlying5
theorem sz5 : size tab 5 = some 1 := by simp only [size, inf5, Option.map]
theorem ag5 : isAgg tab 5 = some false := by simp only [isAgg, und5]
theorem und6 : tab.und 6 = some (.int .u8) := (tab_und 6).trans Try.underlying6
theorem sz6 : size tab 6 = some 1 := by simp only [size, inf6, Option.map]
theorem ag6 : isAgg tab 6 = some false := by simp only [isAgg, und6]
theorem und7 : tab.und 7 = some (.struct #[{ name := "x", type := 2, offset := 0, embedded := false, tag := "", pkgPath := "runtime", byteOffset := 0 }, { name := "y", type := 3, offset := 1, embedded := false, tag := "", pkgPath := "runtime", byteOffset := 8 }, { name := "signed", type := 4, offset := 2, embedded := false, tag := "", pkgPath := "runtime", byteOffset := 16 }, { name := "code", type := 6, offset := 3, embedded := false, tag := "", pkgPath := "runtime", byteOffset := 17 }]) := (tab_und 7).trans Try.underlying7
theorem sz7 : size tab 7 = some 4 := by simp only [size, inf7, Option.map]
theorem ag7 : isAgg tab 7 = some true := by simp only [isAgg, und7]
theorem fo7 : fieldsOf tab 7 = some [{ name := "x", type := 2, offset := 0, embedded := false, tag := "", pkgPath := "runtime", byteOffset := 0 }, { name := "y", type := 3, offset := 1, embedded := false, tag := "", pkgPath := "runtime", byteOffset := 8 }, { name := "signed", type := 4, offset := 2, embedded := false, tag := "", pkgPath := "runtime", byteOffset := 16 }, { name := "code", type := 6, offset := 3, embedded := false, tag := "", pkgPath := "runtime", byteOffset := 17 }] := by simp only [fieldsOf, und7]
theorem pl7 : placesL tab [{ name := "x", type := 2, offset := 0, embedded := false, tag := "", pkgPath := "runtime", byteOffset := 0 }, { name := "y", type := 3, offset := 1, embedded := false, tag := "", pkgPath := "runtime", byteOffset := 8 }, { name := "signed", type := 4, offset := 2, embedded := false, tag := "", pkgPath := "runtime", byteOffset := 16 }, { name := "code", type := 6, offset := 3, embedded := false, tag := "", pkgPath := "runtime", byteOffset := 17 }] = some [(0, 1), (1, 1), (2, 1), (3, 1)] := by simp only [placesL, sz2, sz3, sz4, sz6]
theorem bA7 {z : List AV} {ps : List (Nat × AV)} : buildA tab 7 z ps = fillA (fun i => [(0, 1), (1, 1), (2, 1), (3, 1)][i]?) z ps := bA_struct und7 pl7
theorem pT7_0 : partType tab 7 0 = 2 := by simp only [partType, und7]; rfl
theorem pT7_1 : partType tab 7 1 = 3 := by simp only [partType, und7]; rfl
theorem pT7_2 : partType tab 7 2 = 4 := by simp only [partType, und7]; rfl
theorem pT7_3 : partType tab 7 3 = 6 := by simp only [partType, und7]; rfl
theorem und8 : tab.und 8 = some (.struct #[{ name := "x", type := 2, offset := 0, embedded := false, tag := "", pkgPath := "runtime", byteOffset := 0 }, { name := "y", type := 3, offset := 1, embedded := false, tag := "", pkgPath := "runtime", byteOffset := 8 }, { name := "signed", type := 4, offset := 2, embedded := false, tag := "", pkgPath := "runtime", byteOffset := 16 }, { name := "code", type := 6, offset := 3, embedded := false, tag := "", pkgPath := "runtime", byteOffset := 17 }]) := (tab_und 8).trans Try.underlying8
theorem sz8 : size tab 8 = some 4 := by simp only [size, inf8, Option.map]
theorem ag8 : isAgg tab 8 = some true := by simp only [isAgg, und8]
theorem fo8 : fieldsOf tab 8 = some [{ name := "x", type := 2, offset := 0, embedded := false, tag := "", pkgPath := "runtime", byteOffset := 0 }, { name := "y", type := 3, offset := 1, embedded := false, tag := "", pkgPath := "runtime", byteOffset := 8 }, { name := "signed", type := 4, offset := 2, embedded := false, tag := "", pkgPath := "runtime", byteOffset := 16 }, { name := "code", type := 6, offset := 3, embedded := false, tag := "", pkgPath := "runtime", byteOffset := 17 }] := by simp only [fieldsOf, und8]
theorem pl8 : placesL tab [{ name := "x", type := 2, offset := 0, embedded := false, tag := "", pkgPath := "runtime", byteOffset := 0 }, { name := "y", type := 3, offset := 1, embedded := false, tag := "", pkgPath := "runtime", byteOffset := 8 }, { name := "signed", type := 4, offset := 2, embedded := false, tag := "", pkgPath := "runtime", byteOffset := 16 }, { name := "code", type := 6, offset := 3, embedded := false, tag := "", pkgPath := "runtime", byteOffset := 17 }] = some [(0, 1), (1, 1), (2, 1), (3, 1)] := by simp only [placesL, sz2, sz3, sz4, sz6]
theorem bA8 {z : List AV} {ps : List (Nat × AV)} : buildA tab 8 z ps = fillA (fun i => [(0, 1), (1, 1), (2, 1), (3, 1)][i]?) z ps := bA_struct und8 pl8
theorem pT8_0 : partType tab 8 0 = 2 := by simp only [partType, und8]; rfl
theorem pT8_1 : partType tab 8 1 = 3 := by simp only [partType, und8]; rfl
theorem pT8_2 : partType tab 8 2 = 4 := by simp only [partType, und8]; rfl
theorem pT8_3 : partType tab 8 3 = 6 := by simp only [partType, und8]; rfl
theorem und9 : tab.und 9 = some (.string) := (tab_und 9).trans Try.underlying9
theorem sz9 : size tab 9 = some 1 := by simp only [size, inf9, Option.map]
theorem ag9 : isAgg tab 9 = some false := by simp only [isAgg, und9]
theorem und10 : tab.und 10 = some (.string) := (tab_und 10).trans Try.underlying10
theorem sz10 : size tab 10 = some 1 := by simp only [size, inf10, Option.map]
theorem ag10 : isAgg tab 10 = some false := by simp only [isAgg, und10]
theorem und11 : tab.und 11 = some (.string) := (tab_und 11).trans Try.underlying11
theorem sz11 : size tab 11 = some 1 := by simp only [size, inf11, Option.map]
theorem ag11 : isAgg tab 11 = some false := by simp only [isAgg, und11]
theorem und12 : tab.und 12 = some (.int .u64) := (tab_und 12).trans Try.underlying12
theorem sz12 : size tab 12 = some 1 := by simp only [size, inf12, Option.map]
theorem ag12 : isAgg tab 12 = some false := by simp only [isAgg, und12]
theorem und13 : tab.und 13 = some (.struct #[{ name := "msg", type := 9, offset := 0, embedded := false, tag := "", pkgPath := "runtime", byteOffset := 0 }, { name := "addr", type := 12, offset := 1, embedded := false, tag := "", pkgPath := "runtime", byteOffset := 16 }]) := (tab_und 13).trans Try.underlying13
theorem sz13 : size tab 13 = some 2 := by simp only [size, inf13, Option.map]
theorem ag13 : isAgg tab 13 = some true := by simp only [isAgg, und13]
theorem fo13 : fieldsOf tab 13 = some [{ name := "msg", type := 9, offset := 0, embedded := false, tag := "", pkgPath := "runtime", byteOffset := 0 }, { name := "addr", type := 12, offset := 1, embedded := false, tag := "", pkgPath := "runtime", byteOffset := 16 }] := by simp only [fieldsOf, und13]
theorem pl13 : placesL tab [{ name := "msg", type := 9, offset := 0, embedded := false, tag := "", pkgPath := "runtime", byteOffset := 0 }, { name := "addr", type := 12, offset := 1, embedded := false, tag := "", pkgPath := "runtime", byteOffset := 16 }] = some [(0, 1), (1, 1)] := by simp only [placesL, sz12, sz9]
theorem bA13 {z : List AV} {ps : List (Nat × AV)} : buildA tab 13 z ps = fillA (fun i => [(0, 1), (1, 1)][i]?) z ps := bA_struct und13 pl13
theorem pT13_0 : partType tab 13 0 = 9 := by simp only [partType, und13]; rfl
theorem pT13_1 : partType tab 13 1 = 12 := by simp only [partType, und13]; rfl
theorem und14 : tab.und 14 = some (.struct #[{ name := "msg", type := 9, offset := 0, embedded := false, tag := "", pkgPath := "runtime", byteOffset := 0 }, { name := "addr", type := 12, offset := 1, embedded := false, tag := "", pkgPath := "runtime", byteOffset := 16 }]) := (tab_und 14).trans Try.underlying14
theorem sz14 : size tab 14 = some 2 := by simp only [size, inf14, Option.map]
theorem ag14 : isAgg tab 14 = some true := by simp only [isAgg, und14]
theorem fo14 : fieldsOf tab 14 = some [{ name := "msg", type := 9, offset := 0, embedded := false, tag := "", pkgPath := "runtime", byteOffset := 0 }, { name := "addr", type := 12, offset := 1, embedded := false, tag := "", pkgPath := "runtime", byteOffset := 16 }] := by simp only [fieldsOf, und14]
theorem pl14 : placesL tab [{ name := "msg", type := 9, offset := 0, embedded := false, tag := "", pkgPath := "runtime", byteOffset := 0 }, { name := "addr", type := 12, offset := 1, embedded := false, tag := "", pkgPath := "runtime", byteOffset := 16 }] = some [(0, 1), (1, 1)] := by simp only [placesL, sz12, sz9]
theorem bA14 {z : List AV} {ps : List (Nat × AV)} : buildA tab 14 z ps = fillA (fun i => [(0, 1), (1, 1)][i]?) z ps := bA_struct und14 pl14
theorem pT14_0 : partType tab 14 0 = 9 := by simp only [partType, und14]; rfl
theorem pT14_1 : partType tab 14 1 = 12 := by simp only [partType, und14]; rfl
theorem und21 : tab.und 21 = some (.int .i32) := (tab_und 21).trans Try.underlying21
theorem sz21 : size tab 21 = some 1 := by simp only [size, inf21, Option.map]
theorem ag21 : isAgg tab 21 = some false := by simp only [isAgg, und21]
theorem und22 : tab.und 22 = some (.slice 47) := (tab_und 22).trans Try.underlying22
theorem sz22 : size tab 22 = some 1 := by simp only [size, inf22, Option.map]
theorem ag22 : isAgg tab 22 = some false := by simp only [isAgg, und22]
theorem pT22 {i : Nat} : partType tab 22 i = 47 := by simp only [partType, und22]
theorem und23 : tab.und 23 = some (.slice 27) := (tab_und 23).trans Try.underlying23
theorem sz23 : size tab 23 = some 1 := by simp only [size, inf23, Option.map]
theorem ag23 : isAgg tab 23 = some false := by simp only [isAgg, und23]
theorem pT23 {i : Nat} : partType tab 23 i = 27 := by simp only [partType, und23]
theorem und26 : tab.und 26 = some (.struct #[{ name := "ID", type := 3, offset := 0, embedded := false, tag := "", pkgPath := "", byteOffset := 0 }, { name := "At", type := 3, offset := 1, embedded := false, tag := "", pkgPath := "", byteOffset := 8 }]) := (tab_und 26).trans Try.underlying26
theorem sz26 : size tab 26 = some 2 := by simp only [size, inf26, Option.map]
theorem ag26 : isAgg tab 26 = some true := by simp only [isAgg, und26]
theorem fo26 : fieldsOf tab 26 = some [{ name := "ID", type := 3, offset := 0, embedded := false, tag := "", pkgPath := "", byteOffset := 0 }, { name := "At", type := 3, offset := 1, embedded := false, tag := "", pkgPath := "", byteOffset := 8 }] := by simp only [fieldsOf, und26]
theorem pl26 : placesL tab [{ name := "ID", type := 3, offset := 0, embedded := false, tag := "", pkgPath := "", byteOffset := 0 }, { name := "At", type := 3, offset := 1, embedded := false, tag := "", pkgPath := "", byteOffset := 8 }] = some [(0, 1), (1, 1)] := by simp only [placesL, sz3]
theorem bA26 {z : List AV} {ps : List (Nat × AV)} : buildA tab 26 z ps = fillA (fun i => [(0, 1), (1, 1)][i]?) z ps := bA_struct und26 pl26
theorem pT26_0 : partType tab 26 0 = 3 := by simp only [partType, und26]; rfl
theorem pT26_1 : partType tab 26 1 = 3 := by simp only [partType, und26]; rfl
theorem und27 : tab.und 27 = some (.struct #[{ name := "ID", type := 3, offset := 0, embedded := false, tag := "", pkgPath := "", byteOffset := 0 }, { name := "At", type := 3, offset := 1, embedded := false, tag := "", pkgPath := "", byteOffset := 8 }]) := (tab_und 27).trans Try.underlying27
theorem sz27 : size tab 27 = some 2 := by simp only [size, inf27, Option.map]
theorem ag27 : isAgg tab 27 = some true := by simp only [isAgg, und27]
theorem fo27 : fieldsOf tab 27 = some [{ name := "ID", type := 3, offset := 0, embedded := false, tag := "", pkgPath := "", byteOffset := 0 }, { name := "At", type := 3, offset := 1, embedded := false, tag := "", pkgPath := "", byteOffset := 8 }] := by simp only [fieldsOf, und27]
theorem pl27 : placesL tab [{ name := "ID", type := 3, offset := 0, embedded := false, tag := "", pkgPath := "", byteOffset := 0 }, { name := "At", type := 3, offset := 1, embedded := false, tag := "", pkgPath := "", byteOffset := 8 }] = some [(0, 1), (1, 1)] := by simp only [placesL, sz3]
theorem bA27 {z : List AV} {ps : List (Nat × AV)} : buildA tab 27 z ps = fillA (fun i => [(0, 1), (1, 1)][i]?) z ps := bA_struct und27 pl27
theorem pT27_0 : partType tab 27 0 = 3 := by simp only [partType, und27]; rfl
theorem pT27_1 : partType tab 27 1 = 3 := by simp only [partType, und27]; rfl
theorem und28 : tab.und 28 = some (.int .i64) := (tab_und 28).trans Try.underlying28
theorem sz28 : size tab 28 = some 1 := by simp only [size, inf28, Option.map]
theorem ag28 : isAgg tab 28 = some false := by simp only [isAgg, und28]
theorem und43 : tab.und 43 = some (.slice 54) := (tab_und 43).trans Try.underlying43
theorem sz43 : size tab 43 = some 1 := by simp only [size, inf43, Option.map]
theorem ag43 : isAgg tab 43 = some false := by simp only [isAgg, und43]
theorem pT43 {i : Nat} : partType tab 43 i = 54 := by simp only [partType, und43]
theorem und46 : tab.und 46 = some (.struct #[{ name := "Kind", type := 3, offset := 0, embedded := false, tag := "", pkgPath := "", byteOffset := 0 }, { name := "A", type := 3, offset := 1, embedded := false, tag := "", pkgPath := "", byteOffset := 8 }, { name := "B", type := 3, offset := 2, embedded := false, tag := "", pkgPath := "", byteOffset := 16 }, { name := "Text", type := 9, offset := 3, embedded := false, tag := "", pkgPath := "", byteOffset := 24 }]) := (tab_und 46).trans Try.underlying46
theorem sz46 : size tab 46 = some 4 := by simp only [size, inf46, Option.map]
theorem ag46 : isAgg tab 46 = some true := by simp only [isAgg, und46]
theorem fo46 : fieldsOf tab 46 = some [{ name := "Kind", type := 3, offset := 0, embedded := false, tag := "", pkgPath := "", byteOffset := 0 }, { name := "A", type := 3, offset := 1, embedded := false, tag := "", pkgPath := "", byteOffset := 8 }, { name := "B", type := 3, offset := 2, embedded := false, tag := "", pkgPath := "", byteOffset := 16 }, { name := "Text", type := 9, offset := 3, embedded := false, tag := "", pkgPath := "", byteOffset := 24 }] := by simp only [fieldsOf, und46]
theorem pl46 : placesL tab [{ name := "Kind", type := 3, offset := 0, embedded := false, tag := "", pkgPath := "", byteOffset := 0 }, { name := "A", type := 3, offset := 1, embedded := false, tag := "", pkgPath := "", byteOffset := 8 }, { name := "B", type := 3, offset := 2, embedded := false, tag := "", pkgPath := "", byteOffset := 16 }, { name := "Text", type := 9, offset := 3, embedded := false, tag := "", pkgPath := "", byteOffset := 24 }] = some [(0, 1), (1, 1), (2, 1), (3, 1)] := by simp only [placesL, sz3, sz9]
theorem bA46 {z : List AV} {ps : List (Nat × AV)} : buildA tab 46 z ps = fillA (fun i => [(0, 1), (1, 1), (2, 1), (3, 1)][i]?) z ps := bA_struct und46 pl46
theorem pT46_0 : partType tab 46 0 = 3 := by simp only [partType, und46]; rfl
theorem pT46_1 : partType tab 46 1 = 3 := by simp only [partType, und46]; rfl
theorem pT46_2 : partType tab 46 2 = 3 := by simp only [partType, und46]; rfl
theorem pT46_3 : partType tab 46 3 = 9 := by simp only [partType, und46]; rfl
theorem und47 : tab.und 47 = some (.struct #[{ name := "Kind", type := 3, offset := 0, embedded := false, tag := "", pkgPath := "", byteOffset := 0 }, { name := "A", type := 3, offset := 1, embedded := false, tag := "", pkgPath := "", byteOffset := 8 }, { name := "B", type := 3, offset := 2, embedded := false, tag := "", pkgPath := "", byteOffset := 16 }, { name := "Text", type := 9, offset := 3, embedded := false, tag := "", pkgPath := "", byteOffset := 24 }]) := (tab_und 47).trans Try.underlying47
theorem sz47 : size tab 47 = some 4 := by simp only [size, inf47, Option.map]
theorem ag47 : isAgg tab 47 = some true := by simp only [isAgg, und47]
theorem fo47 : fieldsOf tab 47 = some [{ name := "Kind", type := 3, offset := 0, embedded := false, tag := "", pkgPath := "", byteOffset := 0 }, { name := "A", type := 3, offset := 1, embedded := false, tag := "", pkgPath := "", byteOffset := 8 }, { name := "B", type := 3, offset := 2, embedded := false, tag := "", pkgPath := "", byteOffset := 16 }, { name := "Text", type := 9, offset := 3, embedded := false, tag := "", pkgPath := "", byteOffset := 24 }] := by simp only [fieldsOf, und47]
theorem pl47 : placesL tab [{ name := "Kind", type := 3, offset := 0, embedded := false, tag := "", pkgPath := "", byteOffset := 0 }, { name := "A", type := 3, offset := 1, embedded := false, tag := "", pkgPath := "", byteOffset := 8 }, { name := "B", type := 3, offset := 2, embedded := false, tag := "", pkgPath := "", byteOffset := 16 }, { name := "Text", type := 9, offset := 3, embedded := false, tag := "", pkgPath := "", byteOffset := 24 }] = some [(0, 1), (1, 1), (2, 1), (3, 1)] := by simp only [placesL, sz3, sz9]
theorem bA47 {z : List AV} {ps : List (Nat × AV)} : buildA tab 47 z ps = fillA (fun i => [(0, 1), (1, 1), (2, 1), (3, 1)][i]?) z ps := bA_struct und47 pl47
theorem pT47_0 : partType tab 47 0 = 3 := by simp only [partType, und47]; rfl
theorem pT47_1 : partType tab 47 1 = 3 := by simp only [partType, und47]; rfl
theorem pT47_2 : partType tab 47 2 = 3 := by simp only [partType, und47]; rfl
theorem pT47_3 : partType tab 47 3 = 9 := by simp only [partType, und47]; rfl
theorem und51 : tab.und 51 = some (.struct #[{ name := "Kind", type := 3, offset := 0, embedded := false, tag := "", pkgPath := "", byteOffset := 0 }, { name := "N", type := 3, offset := 1, embedded := false, tag := "", pkgPath := "", byteOffset := 8 }, { name := "S", type := 9, offset := 2, embedded := false, tag := "", pkgPath := "", byteOffset := 16 }]) := (tab_und 51).trans Try.underlying51
theorem sz51 : size tab 51 = some 3 := by simp only [size, inf51, Option.map]
theorem ag51 : isAgg tab 51 = some true := by simp only [isAgg, und51]
theorem fo51 : fieldsOf tab 51 = some [{ name := "Kind", type := 3, offset := 0, embedded := false, tag := "", pkgPath := "", byteOffset := 0 }, { name := "N", type := 3, offset := 1, embedded := false, tag := "", pkgPath := "", byteOffset := 8 }, { name := "S", type := 9, offset := 2, embedded := false, tag := "", pkgPath := "", byteOffset := 16 }] := by simp only [fieldsOf, und51]
theorem pl51 : placesL tab [{ name := "Kind", type := 3, offset := 0, embedded := false, tag := "", pkgPath := "", byteOffset := 0 }, { name := "N", type := 3, offset := 1, embedded := false, tag := "", pkgPath := "", byteOffset := 8 }, { name := "S", type := 9, offset := 2, embedded := false, tag := "", pkgPath := "", byteOffset := 16 }] = some [(0, 1), (1, 1), (2, 1)] := by simp only [placesL, sz3, sz9]
theorem bA51 {z : List AV} {ps : List (Nat × AV)} : buildA tab 51 z ps = fillA (fun i => [(0, 1), (1, 1), (2, 1)][i]?) z ps := bA_struct und51 pl51
theorem pT51_0 : partType tab 51 0 = 3 := by simp only [partType, und51]; rfl
theorem pT51_1 : partType tab 51 1 = 3 := by simp only [partType, und51]; rfl
theorem pT51_2 : partType tab 51 2 = 9 := by simp only [partType, und51]; rfl
theorem und52 : tab.und 52 = some (.struct #[{ name := "Kind", type := 3, offset := 0, embedded := false, tag := "", pkgPath := "", byteOffset := 0 }, { name := "N", type := 3, offset := 1, embedded := false, tag := "", pkgPath := "", byteOffset := 8 }, { name := "S", type := 9, offset := 2, embedded := false, tag := "", pkgPath := "", byteOffset := 16 }]) := (tab_und 52).trans Try.underlying52
theorem sz52 : size tab 52 = some 3 := by simp only [size, inf52, Option.map]
theorem ag52 : isAgg tab 52 = some true := by simp only [isAgg, und52]
theorem fo52 : fieldsOf tab 52 = some [{ name := "Kind", type := 3, offset := 0, embedded := false, tag := "", pkgPath := "", byteOffset := 0 }, { name := "N", type := 3, offset := 1, embedded := false, tag := "", pkgPath := "", byteOffset := 8 }, { name := "S", type := 9, offset := 2, embedded := false, tag := "", pkgPath := "", byteOffset := 16 }] := by simp only [fieldsOf, und52]
theorem pl52 : placesL tab [{ name := "Kind", type := 3, offset := 0, embedded := false, tag := "", pkgPath := "", byteOffset := 0 }, { name := "N", type := 3, offset := 1, embedded := false, tag := "", pkgPath := "", byteOffset := 8 }, { name := "S", type := 9, offset := 2, embedded := false, tag := "", pkgPath := "", byteOffset := 16 }] = some [(0, 1), (1, 1), (2, 1)] := by simp only [placesL, sz3, sz9]
theorem bA52 {z : List AV} {ps : List (Nat × AV)} : buildA tab 52 z ps = fillA (fun i => [(0, 1), (1, 1), (2, 1)][i]?) z ps := bA_struct und52 pl52
theorem pT52_0 : partType tab 52 0 = 3 := by simp only [partType, und52]; rfl
theorem pT52_1 : partType tab 52 1 = 3 := by simp only [partType, und52]; rfl
theorem pT52_2 : partType tab 52 2 = 9 := by simp only [partType, und52]; rfl
theorem und53 : tab.und 53 = some (.struct #[{ name := "Field", type := 9, offset := 0, embedded := false, tag := "", pkgPath := "", byteOffset := 0 }, { name := "ID", type := 3, offset := 1, embedded := false, tag := "", pkgPath := "", byteOffset := 16 }, { name := "Key", type := 52, offset := 2, embedded := false, tag := "", pkgPath := "", byteOffset := 24 }, { name := "Answer", type := 52, offset := 5, embedded := false, tag := "", pkgPath := "", byteOffset := 56 }]) := (tab_und 53).trans Try.underlying53
theorem sz53 : size tab 53 = some 8 := by simp only [size, inf53, Option.map]
theorem ag53 : isAgg tab 53 = some true := by simp only [isAgg, und53]
theorem fo53 : fieldsOf tab 53 = some [{ name := "Field", type := 9, offset := 0, embedded := false, tag := "", pkgPath := "", byteOffset := 0 }, { name := "ID", type := 3, offset := 1, embedded := false, tag := "", pkgPath := "", byteOffset := 16 }, { name := "Key", type := 52, offset := 2, embedded := false, tag := "", pkgPath := "", byteOffset := 24 }, { name := "Answer", type := 52, offset := 5, embedded := false, tag := "", pkgPath := "", byteOffset := 56 }] := by simp only [fieldsOf, und53]
theorem pl53 : placesL tab [{ name := "Field", type := 9, offset := 0, embedded := false, tag := "", pkgPath := "", byteOffset := 0 }, { name := "ID", type := 3, offset := 1, embedded := false, tag := "", pkgPath := "", byteOffset := 16 }, { name := "Key", type := 52, offset := 2, embedded := false, tag := "", pkgPath := "", byteOffset := 24 }, { name := "Answer", type := 52, offset := 5, embedded := false, tag := "", pkgPath := "", byteOffset := 56 }] = some [(0, 1), (1, 1), (2, 3), (5, 3)] := by simp only [placesL, sz3, sz52, sz9]
theorem bA53 {z : List AV} {ps : List (Nat × AV)} : buildA tab 53 z ps = fillA (fun i => [(0, 1), (1, 1), (2, 3), (5, 3)][i]?) z ps := bA_struct und53 pl53
theorem pT53_0 : partType tab 53 0 = 9 := by simp only [partType, und53]; rfl
theorem pT53_1 : partType tab 53 1 = 3 := by simp only [partType, und53]; rfl
theorem pT53_2 : partType tab 53 2 = 52 := by simp only [partType, und53]; rfl
theorem pT53_3 : partType tab 53 3 = 52 := by simp only [partType, und53]; rfl
theorem und54 : tab.und 54 = some (.struct #[{ name := "Field", type := 9, offset := 0, embedded := false, tag := "", pkgPath := "", byteOffset := 0 }, { name := "ID", type := 3, offset := 1, embedded := false, tag := "", pkgPath := "", byteOffset := 16 }, { name := "Key", type := 52, offset := 2, embedded := false, tag := "", pkgPath := "", byteOffset := 24 }, { name := "Answer", type := 52, offset := 5, embedded := false, tag := "", pkgPath := "", byteOffset := 56 }]) := (tab_und 54).trans Try.underlying54
theorem sz54 : size tab 54 = some 8 := by simp only [size, inf54, Option.map]
theorem ag54 : isAgg tab 54 = some true := by simp only [isAgg, und54]
theorem fo54 : fieldsOf tab 54 = some [{ name := "Field", type := 9, offset := 0, embedded := false, tag := "", pkgPath := "", byteOffset := 0 }, { name := "ID", type := 3, offset := 1, embedded := false, tag := "", pkgPath := "", byteOffset := 16 }, { name := "Key", type := 52, offset := 2, embedded := false, tag := "", pkgPath := "", byteOffset := 24 }, { name := "Answer", type := 52, offset := 5, embedded := false, tag := "", pkgPath := "", byteOffset := 56 }] := by simp only [fieldsOf, und54]
theorem pl54 : placesL tab [{ name := "Field", type := 9, offset := 0, embedded := false, tag := "", pkgPath := "", byteOffset := 0 }, { name := "ID", type := 3, offset := 1, embedded := false, tag := "", pkgPath := "", byteOffset := 16 }, { name := "Key", type := 52, offset := 2, embedded := false, tag := "", pkgPath := "", byteOffset := 24 }, { name := "Answer", type := 52, offset := 5, embedded := false, tag := "", pkgPath := "", byteOffset := 56 }] = some [(0, 1), (1, 1), (2, 3), (5, 3)] := by simp only [placesL, sz3, sz52, sz9]
theorem bA54 {z : List AV} {ps : List (Nat × AV)} : buildA tab 54 z ps = fillA (fun i => [(0, 1), (1, 1), (2, 3), (5, 3)][i]?) z ps := bA_struct und54 pl54
theorem pT54_0 : partType tab 54 0 = 9 := by simp only [partType, und54]; rfl
theorem pT54_1 : partType tab 54 1 = 3 := by simp only [partType, und54]; rfl
theorem pT54_2 : partType tab 54 2 = 52 := by simp only [partType, und54]; rfl
theorem pT54_3 : partType tab 54 3 = 52 := by simp only [partType, und54]; rfl
theorem und63 : tab.und 63 = some (.slice 68) := (tab_und 63).trans Try.underlying63
theorem sz63 : size tab 63 = some 1 := by simp only [size, inf63, Option.map]
theorem ag63 : isAgg tab 63 = some false := by simp only [isAgg, und63]
theorem pT63 {i : Nat} : partType tab 63 i = 68 := by simp only [partType, und63]
theorem und66 : tab.und 66 = some (.slice 9) := (tab_und 66).trans Try.underlying66
theorem sz66 : size tab 66 = some 1 := by simp only [size, inf66, Option.map]
theorem ag66 : isAgg tab 66 = some false := by simp only [isAgg, und66]
theorem pT66 {i : Nat} : partType tab 66 i = 9 := by simp only [partType, und66]
theorem und67 : tab.und 67 = some (.struct #[{ name := "Kind", type := 3, offset := 0, embedded := false, tag := "", pkgPath := "", byteOffset := 0 }, { name := "At", type := 3, offset := 1, embedded := false, tag := "", pkgPath := "", byteOffset := 8 }, { name := "S", type := 9, offset := 2, embedded := false, tag := "", pkgPath := "", byteOffset := 16 }, { name := "V", type := 52, offset := 3, embedded := false, tag := "", pkgPath := "", byteOffset := 32 }]) := (tab_und 67).trans Try.underlying67
theorem sz67 : size tab 67 = some 6 := by simp only [size, inf67, Option.map]
theorem ag67 : isAgg tab 67 = some true := by simp only [isAgg, und67]
theorem fo67 : fieldsOf tab 67 = some [{ name := "Kind", type := 3, offset := 0, embedded := false, tag := "", pkgPath := "", byteOffset := 0 }, { name := "At", type := 3, offset := 1, embedded := false, tag := "", pkgPath := "", byteOffset := 8 }, { name := "S", type := 9, offset := 2, embedded := false, tag := "", pkgPath := "", byteOffset := 16 }, { name := "V", type := 52, offset := 3, embedded := false, tag := "", pkgPath := "", byteOffset := 32 }] := by simp only [fieldsOf, und67]
theorem pl67 : placesL tab [{ name := "Kind", type := 3, offset := 0, embedded := false, tag := "", pkgPath := "", byteOffset := 0 }, { name := "At", type := 3, offset := 1, embedded := false, tag := "", pkgPath := "", byteOffset := 8 }, { name := "S", type := 9, offset := 2, embedded := false, tag := "", pkgPath := "", byteOffset := 16 }, { name := "V", type := 52, offset := 3, embedded := false, tag := "", pkgPath := "", byteOffset := 32 }] = some [(0, 1), (1, 1), (2, 1), (3, 3)] := by simp only [placesL, sz3, sz52, sz9]
theorem bA67 {z : List AV} {ps : List (Nat × AV)} : buildA tab 67 z ps = fillA (fun i => [(0, 1), (1, 1), (2, 1), (3, 3)][i]?) z ps := bA_struct und67 pl67
theorem pT67_0 : partType tab 67 0 = 3 := by simp only [partType, und67]; rfl
theorem pT67_1 : partType tab 67 1 = 3 := by simp only [partType, und67]; rfl
theorem pT67_2 : partType tab 67 2 = 9 := by simp only [partType, und67]; rfl
theorem pT67_3 : partType tab 67 3 = 52 := by simp only [partType, und67]; rfl
theorem und68 : tab.und 68 = some (.struct #[{ name := "Kind", type := 3, offset := 0, embedded := false, tag := "", pkgPath := "", byteOffset := 0 }, { name := "At", type := 3, offset := 1, embedded := false, tag := "", pkgPath := "", byteOffset := 8 }, { name := "S", type := 9, offset := 2, embedded := false, tag := "", pkgPath := "", byteOffset := 16 }, { name := "V", type := 52, offset := 3, embedded := false, tag := "", pkgPath := "", byteOffset := 32 }]) := (tab_und 68).trans Try.underlying68
theorem sz68 : size tab 68 = some 6 := by simp only [size, inf68, Option.map]
theorem ag68 : isAgg tab 68 = some true := by simp only [isAgg, und68]
theorem fo68 : fieldsOf tab 68 = some [{ name := "Kind", type := 3, offset := 0, embedded := false, tag := "", pkgPath := "", byteOffset := 0 }, { name := "At", type := 3, offset := 1, embedded := false, tag := "", pkgPath := "", byteOffset := 8 }, { name := "S", type := 9, offset := 2, embedded := false, tag := "", pkgPath := "", byteOffset := 16 }, { name := "V", type := 52, offset := 3, embedded := false, tag := "", pkgPath := "", byteOffset := 32 }] := by simp only [fieldsOf, und68]
theorem pl68 : placesL tab [{ name := "Kind", type := 3, offset := 0, embedded := false, tag := "", pkgPath := "", byteOffset := 0 }, { name := "At", type := 3, offset := 1, embedded := false, tag := "", pkgPath := "", byteOffset := 8 }, { name := "S", type := 9, offset := 2, embedded := false, tag := "", pkgPath := "", byteOffset := 16 }, { name := "V", type := 52, offset := 3, embedded := false, tag := "", pkgPath := "", byteOffset := 32 }] = some [(0, 1), (1, 1), (2, 1), (3, 3)] := by simp only [placesL, sz3, sz52, sz9]
theorem bA68 {z : List AV} {ps : List (Nat × AV)} : buildA tab 68 z ps = fillA (fun i => [(0, 1), (1, 1), (2, 1), (3, 3)][i]?) z ps := bA_struct und68 pl68
theorem pT68_0 : partType tab 68 0 = 3 := by simp only [partType, und68]; rfl
theorem pT68_1 : partType tab 68 1 = 3 := by simp only [partType, und68]; rfl
theorem pT68_2 : partType tab 68 2 = 9 := by simp only [partType, und68]; rfl
theorem pT68_3 : partType tab 68 3 = 52 := by simp only [partType, und68]; rfl
theorem und79 : tab.und 79 = some (.slice 23) := (tab_und 79).trans Try.underlying79
theorem sz79 : size tab 79 = some 1 := by simp only [size, inf79, Option.map]
theorem ag79 : isAgg tab 79 = some false := by simp only [isAgg, und79]
theorem pT79 {i : Nat} : partType tab 79 i = 23 := by simp only [partType, und79]
theorem und86 : tab.und 86 = some (.array 2 43) := (tab_und 86).trans Try.underlying86
theorem sz86 : size tab 86 = some 2 := by simp only [size, inf86, Option.map]
theorem ag86 : isAgg tab 86 = some true := by simp only [isAgg, und86]
theorem bA86 {z : List AV} {ps : List (Nat × AV)} : buildA tab 86 z ps = fillA (fun i => some (i * 1, 1)) z ps := by simp only [buildA, und86, sz43]
theorem pT86 {i : Nat} : partType tab 86 i = 43 := by simp only [partType, und86]
theorem und88 : tab.und 88 = some (.slice 43) := (tab_und 88).trans Try.underlying88
theorem sz88 : size tab 88 = some 1 := by simp only [size, inf88, Option.map]
theorem ag88 : isAgg tab 88 = some false := by simp only [isAgg, und88]
theorem pT88 {i : Nat} : partType tab 88 i = 43 := by simp only [partType, und88]
theorem und96 : tab.und 96 = some (.slice 5) := (tab_und 96).trans Try.underlying96
theorem sz96 : size tab 96 = some 1 := by simp only [size, inf96, Option.map]
theorem ag96 : isAgg tab 96 = some false := by simp only [isAgg, und96]
theorem pT96 {i : Nat} : partType tab 96 i = 5 := by simp only [partType, und96]
theorem und106 : tab.und 106 = some (.int .u64) := (tab_und 106).trans Try.underlying106
theorem sz106 : size tab 106 = some 1 := by simp only [size, inf106, Option.map]
theorem ag106 : isAgg tab 106 = some false := by simp only [isAgg, und106]
theorem und111 : tab.und 111 = some (.array 13 9) := (tab_und 111).trans Try.underlying111
theorem sz111 : size tab 111 = some 13 := by simp only [size, inf111, Option.map]
theorem ag111 : isAgg tab 111 = some true := by simp only [isAgg, und111]
theorem bA111 {z : List AV} {ps : List (Nat × AV)} : buildA tab 111 z ps = fillA (fun i => some (i * 1, 1)) z ps := by simp only [buildA, und111, sz9]
theorem pT111 {i : Nat} : partType tab 111 i = 9 := by simp only [partType, und111]
theorem und114 : tab.und 114 = some (.slice 3) := (tab_und 114).trans Try.underlying114
theorem sz114 : size tab 114 = some 1 := by simp only [size, inf114, Option.map]
theorem ag114 : isAgg tab 114 = some false := by simp only [isAgg, und114]
theorem pT114 {i : Nat} : partType tab 114 i = 3 := by simp only [partType, und114]
theorem und128 : tab.und 128 = some (.int .u32) := (tab_und 128).trans Try.underlying128
theorem sz128 : size tab 128 = some 1 := by simp only [size, inf128, Option.map]
theorem ag128 : isAgg tab 128 = some false := by simp only [isAgg, und128]
theorem und129 : tab.und 129 = some (.int .u8) := (tab_und 129).trans Try.underlying129
theorem sz129 : size tab 129 = some 1 := by simp only [size, inf129, Option.map]
theorem ag129 : isAgg tab 129 = some false := by simp only [isAgg, und129]
theorem und130 : tab.und 130 = some (.int .u8) := (tab_und 130).trans Try.underlying130
theorem sz130 : size tab 130 = some 1 := by simp only [size, inf130, Option.map]
theorem ag130 : isAgg tab 130 = some false := by simp only [isAgg, und130]
theorem und132 : tab.und 132 = some (.int .i32) := (tab_und 132).trans Try.underlying132
theorem sz132 : size tab 132 = some 1 := by simp only [size, inf132, Option.map]
theorem ag132 : isAgg tab 132 = some false := by simp only [isAgg, und132]
theorem und133 : tab.und 133 = some (.int .i32) := (tab_und 133).trans Try.underlying133
theorem sz133 : size tab 133 = some 1 := by simp only [size, inf133, Option.map]
theorem ag133 : isAgg tab 133 = some false := by simp only [isAgg, und133]
theorem lv2 : leaves tab 8 2 = some [.int .i64] := by (simp [leaves, leavesF, sized, tab_cmp, cmpsL, tab, und2, sz2]; try rfl)
theorem lv3 : leaves tab 8 3 = some [.int .i64] := by (simp [leaves, leavesF, sized, tab_cmp, cmpsL, tab, und3, sz3]; try rfl)
theorem lv4 : leaves tab 8 4 = some [.bool] := by (simp [leaves, leavesF, sized, tab_cmp, cmpsL, tab, und4, sz4]; try rfl)
theorem lv5 : leaves tab 8 5 = some [.int .u8] := by (simp [leaves, leavesF, sized, tab_cmp, cmpsL, tab, und5, sz5]; try rfl)
theorem lv6 : leaves tab 8 6 = some [.int .u8] := by (simp [leaves, leavesF, sized, tab_cmp, cmpsL, tab, und6, sz6]; try rfl)
theorem lv9 : leaves tab 8 9 = some [.string] := by (simp [leaves, leavesF, sized, tab_cmp, cmpsL, tab, und9, sz9]; try rfl)
theorem lv10 : leaves tab 8 10 = some [.string] := by (simp [leaves, leavesF, sized, tab_cmp, cmpsL, tab, und10, sz10]; try rfl)
theorem lv11 : leaves tab 8 11 = some [.string] := by (simp [leaves, leavesF, sized, tab_cmp, cmpsL, tab, und11, sz11]; try rfl)
theorem lv12 : leaves tab 8 12 = some [.int .u64] := by (simp [leaves, leavesF, sized, tab_cmp, cmpsL, tab, und12, sz12]; try rfl)
theorem lv21 : leaves tab 8 21 = some [.int .i32] := by (simp [leaves, leavesF, sized, tab_cmp, cmpsL, tab, und21, sz21]; try rfl)
theorem lv27 : leaves tab 8 27 = some [.int .i64, .int .i64] := by (simp [leaves, leavesF, sized, tab_cmp, cmpsL, tab, und3, sz3, und27, sz27]; try rfl)
theorem lv28 : leaves tab 8 28 = some [.int .i64] := by (simp [leaves, leavesF, sized, tab_cmp, cmpsL, tab, und28, sz28]; try rfl)
theorem lv52 : leaves tab 8 52 = some [.int .i64, .int .i64, .string] := by (simp [leaves, leavesF, sized, tab_cmp, cmpsL, tab, und3, sz3, und9, sz9, und52, sz52]; try rfl)
theorem lv54 : leaves tab 8 54 = some [.string, .int .i64, .int .i64, .int .i64, .string, .int .i64, .int .i64, .string] := by (simp [leaves, leavesF, sized, tab_cmp, cmpsL, tab, und3, sz3, und9, sz9, und52, sz52, und54, sz54]; try rfl)
theorem lv106 : leaves tab 8 106 = some [.int .u64] := by (simp [leaves, leavesF, sized, tab_cmp, cmpsL, tab, und106, sz106]; try rfl)
theorem lv128 : leaves tab 8 128 = some [.int .u32] := by (simp [leaves, leavesF, sized, tab_cmp, cmpsL, tab, und128, sz128]; try rfl)
theorem lv129 : leaves tab 8 129 = some [.int .u8] := by (simp [leaves, leavesF, sized, tab_cmp, cmpsL, tab, und129, sz129]; try rfl)
theorem lv130 : leaves tab 8 130 = some [.int .u8] := by (simp [leaves, leavesF, sized, tab_cmp, cmpsL, tab, und130, sz130]; try rfl)
theorem lv132 : leaves tab 8 132 = some [.int .i32] := by (simp [leaves, leavesF, sized, tab_cmp, cmpsL, tab, und132, sz132]; try rfl)
theorem lv133 : leaves tab 8 133 = some [.int .i32] := by (simp [leaves, leavesF, sized, tab_cmp, cmpsL, tab, und133, sz133]; try rfl)
theorem kp3_3 : tab.keep 3 3 = some ([0, 3, 4, 12, 13], [8, 12, 64, 66, 67, 72]) := tab_keep (by kernel_rfl)
theorem kp11_9 : tab.keep 11 9 = some ([3, 9, 35, 36, 37], [17, 36, 45, 49, 50, 55, 56, 65]) := tab_keep (by kernel_rfl)
theorem kp12_3 : tab.keep 12 3 = some ([4, 11, 12, 13], [12, 26, 28, 35]) := tab_keep (by kernel_rfl)
theorem kp13_4 : tab.keep 13 4 = some ([0, 8, 9, 10], [6, 9, 35, 47]) := tab_keep (by kernel_rfl)
theorem kp17_4 : tab.keep 17 4 = some ([0, 1, 12, 13], [7, 9, 12]) := tab_keep (by kernel_rfl)
theorem kp18_5 : tab.keep 18 5 = some ([0, 1, 8], [10, 16, 32, 36]) := tab_keep (by kernel_rfl)
theorem kp19_11 : tab.keep 19 11 = some ([6, 25, 26, 27], [22, 24, 33]) := tab_keep (by kernel_rfl)
theorem kp19_3 : tab.keep 19 3 = some ([0, 3, 9, 10, 11], [10, 17, 24, 26, 33]) := tab_keep (by kernel_rfl)
theorem kp23_3 : tab.keep 23 3 = some ([3, 6, 7, 8], [7, 20, 23, 26]) := tab_keep (by kernel_rfl)
theorem kp26_4 : tab.keep 26 4 = some ([0, 1, 12, 13], [7, 9, 12]) := tab_keep (by kernel_rfl)
theorem kp27_2 : tab.keep 27 2 = some ([0, 1, 11, 12], [16, 22, 24, 30]) := tab_keep (by kernel_rfl)
theorem kp28_11 : tab.keep 28 11 = some ([6, 25, 26, 27], [22, 24, 33]) := tab_keep (by kernel_rfl)
theorem kp28_3 : tab.keep 28 3 = some ([0, 3, 9, 10, 11], [10, 17, 24, 26, 33]) := tab_keep (by kernel_rfl)
theorem kp33_5 : tab.keep 33 5 = some ([0, 5, 6], [10, 14, 26, 38, 43]) := tab_keep (by kernel_rfl)
theorem kp34_22 : tab.keep 34 22 = some ([1, 8, 63, 64, 65], [8, 12, 21, 24, 26, 33, 35, 40, 46, 53, 57, 61, 64, 70, 72, 74]) := tab_keep (by kernel_rfl)
theorem kp34_12 : tab.keep 34 12 = some ([0, 1, 5, 39, 40, 41], [8, 12, 21, 24, 26, 33, 35, 40, 46, 53, 57, 61, 64, 70, 72, 74]) := tab_keep (by kernel_rfl)
theorem kp35_4 : tab.keep 35 4 = some ([1, 2, 15, 16, 17], [11, 13, 16, 29]) := tab_keep (by kernel_rfl)
theorem kp39_3 : tab.keep 39 3 = some ([0, 2, 4, 8, 9, 10], [4, 13, 30, 46]) := tab_keep (by kernel_rfl)
theorem kp43_2 : tab.keep 43 2 = some ([0, 1, 7, 8], [7, 16]) := tab_keep (by kernel_rfl)
theorem kp47_4 : tab.keep 47 4 = some ([8, 9, 10], [6, 9, 24, 34]) := tab_keep (by kernel_rfl)
theorem kp49_3 : tab.keep 49 3 = some ([5, 15, 16, 17], [10, 12, 14, 16, 30]) := tab_keep (by kernel_rfl)
theorem kp52_12 : tab.keep 52 12 = some ([0, 2, 36, 37], [2, 12, 14, 19, 21, 33, 42]) := tab_keep (by kernel_rfl)
theorem kp57_3 : tab.keep 57 3 = some ([3, 6, 7, 8], [7]) := tab_keep (by kernel_rfl)
theorem kp63_5 : tab.keep 63 5 = some ([0, 2, 4, 5, 17, 18], [2, 8]) := tab_keep (by kernel_rfl)
theorem kp65_2 : tab.keep 65 2 = some ([0, 1, 5], [8, 15]) := tab_keep (by kernel_rfl)
theorem kp67_3 : tab.keep 67 3 = some ([0, 2, 4, 5], [2, 9, 19, 24, 42, 66]) := tab_keep (by kernel_rfl)
theorem kp73_4 : tab.keep 73 4 = some ([0, 8, 9], [5, 8]) := tab_keep (by kernel_rfl)
theorem kp78_1 : tab.keep 78 1 = some ([0, 2, 3], [5]) := tab_keep (by kernel_rfl)
theorem dr3_5 : tab.drw 3 5 = some [[], [], [], [], [], [], [], [], [], [], [], [], [], [], [], [], [], [], [], [], [], [], [], [], [], [], [], [], [], [], [], [], [], [], [], [], [], [], [], [], [], [], [], []] := tab_drw (by kernel_rfl)
theorem dr9_3 : tab.drw 9 3 = some [[], [], [], [], [2], [], [0, 1, 2, 4, 5], []] := tab_drw (by kernel_rfl)
theorem dr9_8 : tab.drw 9 8 = some [[], [], [], [], [], [], [], [], [], [], [], [], [], [], [], [], [], [], [], [], [], [], [], [], [], [], [], [], [], [], [], [], [], [], [], [], [], [], [], [], [], [], [], [], [], [], [], [], [], [], [], [], [], []] := tab_drw (by kernel_rfl)
theorem dr10_6 : tab.drw 10 6 = some [[], [], [], [], [], [], [], [], [], [], [], [], [], [], [], [], [], [], [], [], [], [], [], [], [], [], [], [], [], [], [], [], [], [], [], [], []] := tab_drw (by kernel_rfl)
theorem dr13_8 : tab.drw 13 8 = some [[], [], [], [], [], [], [], []] := tab_drw (by kernel_rfl)
theorem dr13_10 : tab.drw 13 10 = some [[], [], [], [], [], [], [], [], [], [], [], [], []] := tab_drw (by kernel_rfl)
theorem dr14_5 : tab.drw 14 5 = some [[], [], [], [], [3], [], [], [], [], [3, 6], [], []] := tab_drw (by kernel_rfl)
theorem dr17_6 : tab.drw 17 6 = some [[], [], [], [], [], [], [], [], []] := tab_drw (by kernel_rfl)
theorem dr18_7 : tab.drw 18 7 = some [[], [], [], [], [], [], [3], [], [], [], []] := tab_drw (by kernel_rfl)
theorem dr23_6 : tab.drw 23 6 = some [[], [], [], [], [], [], [], [5], [], [], [], [], []] := tab_drw (by kernel_rfl)
theorem dr26_6 : tab.drw 26 6 = some [[], [], [], [], [], [], [], [], []] := tab_drw (by kernel_rfl)
theorem dr32_6 : tab.drw 32 6 = some [[], [], [], [1], [], [], [], [], []] := tab_drw (by kernel_rfl)
theorem dr38_1 : tab.drw 38 1 = some [[], [], [], [], [], [4], [4], [4], [4], [], [], [], []] := tab_drw (by kernel_rfl)
theorem dr39_5 : tab.drw 39 5 = some [[], [], [], [], [], [], [], []] := tab_drw (by kernel_rfl)
theorem dr39_8 : tab.drw 39 8 = some [[], [], [], [], [], [], [], [], [], [], [], [], [], [], [], []] := tab_drw (by kernel_rfl)
theorem dr41_5 : tab.drw 41 5 = some [[], [], [], [], [], [], [], []] := tab_drw (by kernel_rfl)
theorem dr46_5 : tab.drw 46 5 = some [[], [], [], [], [], [], [], []] := tab_drw (by kernel_rfl)
theorem dr51_11 : tab.drw 51 11 = some [[], [], [], [], [], [], [], [], []] := tab_drw (by kernel_rfl)
theorem dr51_15 : tab.drw 51 15 = some [[], [], [], [], [], [], [], [], []] := tab_drw (by kernel_rfl)
theorem dr53_3 : tab.drw 53 3 = some [[], [], [], [], [], [], [4], [4], [4], [4], [], [], []] := tab_drw (by kernel_rfl)
theorem dr55_1 : tab.drw 55 1 = some [[], [], [], [], [], [], [4], [4], [4], [4], [], []] := tab_drw (by kernel_rfl)
theorem dr67_10 : tab.drw 67 10 = some [[], [], [], [], [], [3], [], [], [], []] := tab_drw (by kernel_rfl)
theorem dr70_0 : tab.drw 70 0 = some [[], [], [], [], [], [], [], [], [], [], [4, 8], [4, 8], [4, 8], [4, 8], [], []] := tab_drw (by kernel_rfl)
theorem dr78_3 : tab.drw 78 3 = some [[], [], [], [], [], [], [], [], [], [], [], [], [], [], [], []] := tab_drw (by kernel_rfl)
theorem lv3_0 : tab.lv 3 0 = some 1 := tab_lv (by kernel_rfl)
theorem lv3_1 : tab.lv 3 1 = some 25 := tab_lv (by kernel_rfl)
theorem lv3_2 : tab.lv 3 2 = some 12313 := tab_lv (by kernel_rfl)
theorem lv3_3 : tab.lv 3 3 = some 28697 := tab_lv (by kernel_rfl)
theorem lv3_4 : tab.lv 3 4 = some 12345 := tab_lv (by kernel_rfl)
theorem lv3_5 : tab.lv 3 5 = some 576460752303435801 := tab_lv (by kernel_rfl)
theorem lv3_6 : tab.lv 3 6 = some 4 := tab_lv (by kernel_rfl)
theorem lv3_7 : tab.lv 3 7 = some 12313 := tab_lv (by kernel_rfl)
theorem lv3_8 : tab.lv 3 8 = some 4 := tab_lv (by kernel_rfl)
theorem lv4_0 : tab.lv 4 0 = some 3 := tab_lv (by kernel_rfl)
theorem lv4_1 : tab.lv 4 1 = some 98 := tab_lv (by kernel_rfl)
theorem lv4_2 : tab.lv 4 2 = some 480 := tab_lv (by kernel_rfl)
theorem lv4_3 : tab.lv 4 3 = some 1504 := tab_lv (by kernel_rfl)
theorem lv4_4 : tab.lv 4 4 = some 7520 := tab_lv (by kernel_rfl)
theorem lv4_5 : tab.lv 4 5 = some 23904 := tab_lv (by kernel_rfl)
theorem lv4_6 : tab.lv 4 6 = some 16 := tab_lv (by kernel_rfl)
theorem lv5_0 : tab.lv 5 0 = some 7 := tab_lv (by kernel_rfl)
theorem lv5_1 : tab.lv 5 1 = some 390 := tab_lv (by kernel_rfl)
theorem lv5_2 : tab.lv 5 2 = some 390 := tab_lv (by kernel_rfl)
theorem lv5_3 : tab.lv 5 3 = some 3974 := tab_lv (by kernel_rfl)
theorem lv5_4 : tab.lv 5 4 = some 31622 := tab_lv (by kernel_rfl)
theorem lv5_5 : tab.lv 5 5 = some 260864 := tab_lv (by kernel_rfl)
theorem lv5_6 : tab.lv 5 6 = some 64 := tab_lv (by kernel_rfl)
theorem lv6_0 : tab.lv 6 0 = some 9 := tab_lv (by kernel_rfl)
theorem lv6_1 : tab.lv 6 1 = some 104 := tab_lv (by kernel_rfl)
theorem lv6_2 : tab.lv 6 2 = some 104 := tab_lv (by kernel_rfl)
theorem lv6_3 : tab.lv 6 3 = some 1000 := tab_lv (by kernel_rfl)
theorem lv6_4 : tab.lv 6 4 = some 549755814280 := tab_lv (by kernel_rfl)
theorem lv6_5 : tab.lv 6 5 = some 16 := tab_lv (by kernel_rfl)
theorem lv6_6 : tab.lv 6 6 = some 16 := tab_lv (by kernel_rfl)
theorem lv7_0 : tab.lv 7 0 = some 7 := tab_lv (by kernel_rfl)
theorem lv7_1 : tab.lv 7 1 = some 134 := tab_lv (by kernel_rfl)
theorem lv7_2 : tab.lv 7 2 = some 134217862 := tab_lv (by kernel_rfl)
theorem lv7_3 : tab.lv 7 3 = some 64 := tab_lv (by kernel_rfl)
theorem lv7_4 : tab.lv 7 4 = some 388 := tab_lv (by kernel_rfl)
theorem lv7_5 : tab.lv 7 5 = some 896 := tab_lv (by kernel_rfl)
theorem lv7_6 : tab.lv 7 6 = some 3968 := tab_lv (by kernel_rfl)
theorem lv7_7 : tab.lv 7 7 = some 15232 := tab_lv (by kernel_rfl)
theorem lv7_8 : tab.lv 7 8 = some 63872 := tab_lv (by kernel_rfl)
theorem lv7_9 : tab.lv 7 9 = some 243840 := tab_lv (by kernel_rfl)
theorem lv7_10 : tab.lv 7 10 = some 64 := tab_lv (by kernel_rfl)
theorem lv8_0 : tab.lv 8 0 = some 3 := tab_lv (by kernel_rfl)
theorem lv8_1 : tab.lv 8 1 = some 96 := tab_lv (by kernel_rfl)
theorem lv8_2 : tab.lv 8 2 = some 480 := tab_lv (by kernel_rfl)
theorem lv8_3 : tab.lv 8 3 = some 2016 := tab_lv (by kernel_rfl)
theorem lv8_4 : tab.lv 8 4 = some 274877908608 := tab_lv (by kernel_rfl)
theorem lv8_5 : tab.lv 8 5 = some 16 := tab_lv (by kernel_rfl)
theorem lv8_6 : tab.lv 8 6 = some 2199023257216 := tab_lv (by kernel_rfl)
theorem lv8_7 : tab.lv 8 7 = some 16 := tab_lv (by kernel_rfl)
theorem lv8_8 : tab.lv 8 8 = some 16 := tab_lv (by kernel_rfl)
theorem lv9_0 : tab.lv 9 0 = some 35 := tab_lv (by kernel_rfl)
theorem lv9_1 : tab.lv 9 1 = some 162 := tab_lv (by kernel_rfl)
theorem lv9_2 : tab.lv 9 2 = some 416 := tab_lv (by kernel_rfl)
theorem lv9_3 : tab.lv 9 3 = some 896 := tab_lv (by kernel_rfl)
theorem lv9_4 : tab.lv 9 4 = some 4992 := tab_lv (by kernel_rfl)
theorem lv9_5 : tab.lv 9 5 = some 29568 := tab_lv (by kernel_rfl)
theorem lv9_6 : tab.lv 9 6 = some 95104 := tab_lv (by kernel_rfl)
theorem lv9_7 : tab.lv 9 7 = some 1004416 := tab_lv (by kernel_rfl)
theorem lv9_8 : tab.lv 9 8 = some 64 := tab_lv (by kernel_rfl)
theorem lv10_0 : tab.lv 10 0 = some 3 := tab_lv (by kernel_rfl)
theorem lv10_1 : tab.lv 10 1 = some 34 := tab_lv (by kernel_rfl)
theorem lv10_2 : tab.lv 10 2 = some 96 := tab_lv (by kernel_rfl)
theorem lv10_3 : tab.lv 10 3 = some 480 := tab_lv (by kernel_rfl)
theorem lv10_4 : tab.lv 10 4 = some 2016 := tab_lv (by kernel_rfl)
theorem lv10_5 : tab.lv 10 5 = some 8160 := tab_lv (by kernel_rfl)
theorem lv10_6 : tab.lv 10 6 = some 16 := tab_lv (by kernel_rfl)
theorem lv11_0 : tab.lv 11 0 = some 1 := tab_lv (by kernel_rfl)
theorem lv11_1 : tab.lv 11 1 = some 40 := tab_lv (by kernel_rfl)
theorem lv11_2 : tab.lv 11 2 = some 360 := tab_lv (by kernel_rfl)
theorem lv11_3 : tab.lv 11 3 = some 4294967336 := tab_lv (by kernel_rfl)
theorem lv11_4 : tab.lv 11 4 = some 4 := tab_lv (by kernel_rfl)
theorem lv11_5 : tab.lv 11 5 = some 17179869192 := tab_lv (by kernel_rfl)
theorem lv11_6 : tab.lv 11 6 = some 4 := tab_lv (by kernel_rfl)
theorem lv11_7 : tab.lv 11 7 = some 520 := tab_lv (by kernel_rfl)
theorem lv11_8 : tab.lv 11 8 = some 240518169096 := tab_lv (by kernel_rfl)
theorem lv11_9 : tab.lv 11 9 = some 515396076040 := tab_lv (by kernel_rfl)
theorem lv11_10 : tab.lv 11 10 = some 240518171144 := tab_lv (by kernel_rfl)
theorem lv11_11 : tab.lv 11 11 = some 240518169096 := tab_lv (by kernel_rfl)
theorem lv11_12 : tab.lv 11 12 = some 240518169096 := tab_lv (by kernel_rfl)
theorem lv11_13 : tab.lv 11 13 = some 21000 := tab_lv (by kernel_rfl)
theorem lv11_14 : tab.lv 11 14 = some 144115188075876360 := tab_lv (by kernel_rfl)
theorem lv11_15 : tab.lv 11 15 = some 4 := tab_lv (by kernel_rfl)
theorem lv11_16 : tab.lv 11 16 = some 4 := tab_lv (by kernel_rfl)
theorem lv12_0 : tab.lv 12 0 = some 1 := tab_lv (by kernel_rfl)
theorem lv12_1 : tab.lv 12 1 = some 17 := tab_lv (by kernel_rfl)
theorem lv12_2 : tab.lv 12 2 = some 14352 := tab_lv (by kernel_rfl)
theorem lv12_3 : tab.lv 12 3 = some 30736 := tab_lv (by kernel_rfl)
theorem lv12_4 : tab.lv 12 4 = some 14448 := tab_lv (by kernel_rfl)
theorem lv12_5 : tab.lv 12 5 = some 538736 := tab_lv (by kernel_rfl)
theorem lv12_6 : tab.lv 12 6 = some 14752 := tab_lv (by kernel_rfl)
theorem lv12_7 : tab.lv 12 7 = some 549755828352 := tab_lv (by kernel_rfl)
theorem lv12_8 : tab.lv 12 8 = some 12 := tab_lv (by kernel_rfl)
theorem lv12_9 : tab.lv 12 9 = some 14352 := tab_lv (by kernel_rfl)
theorem lv12_10 : tab.lv 12 10 = some 14352 := tab_lv (by kernel_rfl)
theorem lv12_11 : tab.lv 12 11 = some 1552 := tab_lv (by kernel_rfl)
theorem lv12_12 : tab.lv 12 12 = some 12 := tab_lv (by kernel_rfl)
theorem lv13_0 : tab.lv 13 0 = some 1 := tab_lv (by kernel_rfl)
theorem lv13_1 : tab.lv 13 1 = some 129 := tab_lv (by kernel_rfl)
theorem lv13_2 : tab.lv 13 2 = some 4 := tab_lv (by kernel_rfl)
theorem lv13_3 : tab.lv 13 3 = some 1793 := tab_lv (by kernel_rfl)
theorem lv13_4 : tab.lv 13 4 = some 3841 := tab_lv (by kernel_rfl)
theorem lv13_5 : tab.lv 13 5 = some 1817 := tab_lv (by kernel_rfl)
theorem lv13_6 : tab.lv 13 6 = some 34585 := tab_lv (by kernel_rfl)
theorem lv13_7 : tab.lv 13 7 = some 4 := tab_lv (by kernel_rfl)
theorem lv13_8 : tab.lv 13 8 = some 536872729 := tab_lv (by kernel_rfl)
theorem lv13_9 : tab.lv 13 9 = some 4 := tab_lv (by kernel_rfl)
theorem lv13_10 : tab.lv 13 10 = some 137438955265 := tab_lv (by kernel_rfl)
theorem lv13_11 : tab.lv 13 11 = some 4 := tab_lv (by kernel_rfl)
theorem lv13_12 : tab.lv 13 12 = some 1793 := tab_lv (by kernel_rfl)
theorem lv13_13 : tab.lv 13 13 = some 4 := tab_lv (by kernel_rfl)
theorem lv14_0 : tab.lv 14 0 = some 9 := tab_lv (by kernel_rfl)
theorem lv14_1 : tab.lv 14 1 = some 73 := tab_lv (by kernel_rfl)
theorem lv14_2 : tab.lv 14 2 = some 16457 := tab_lv (by kernel_rfl)
theorem lv14_3 : tab.lv 14 3 = some 48 := tab_lv (by kernel_rfl)
theorem lv14_4 : tab.lv 14 4 = some 137 := tab_lv (by kernel_rfl)
theorem lv14_5 : tab.lv 14 5 = some 512 := tab_lv (by kernel_rfl)
theorem lv14_6 : tab.lv 14 6 = some 1536 := tab_lv (by kernel_rfl)
theorem lv14_7 : tab.lv 14 7 = some 68719478272 := tab_lv (by kernel_rfl)
theorem lv14_8 : tab.lv 14 8 = some 48 := tab_lv (by kernel_rfl)
theorem lv14_9 : tab.lv 14 9 = some 48 := tab_lv (by kernel_rfl)
theorem lv15_0 : tab.lv 15 0 = some 3 := tab_lv (by kernel_rfl)
theorem lv15_1 : tab.lv 15 1 = some 67 := tab_lv (by kernel_rfl)
theorem lv15_2 : tab.lv 15 2 = some 3 := tab_lv (by kernel_rfl)
theorem lv15_3 : tab.lv 15 3 = some 16 := tab_lv (by kernel_rfl)
theorem lv16_0 : tab.lv 16 0 = some 3 := tab_lv (by kernel_rfl)
theorem lv16_1 : tab.lv 16 1 = some 67 := tab_lv (by kernel_rfl)
theorem lv16_2 : tab.lv 16 2 = some 2115 := tab_lv (by kernel_rfl)
theorem lv16_3 : tab.lv 16 3 = some 48 := tab_lv (by kernel_rfl)
theorem lv16_4 : tab.lv 16 4 = some 129 := tab_lv (by kernel_rfl)
theorem lv16_5 : tab.lv 16 5 = some 131201 := tab_lv (by kernel_rfl)
theorem lv16_6 : tab.lv 16 6 = some 48 := tab_lv (by kernel_rfl)
theorem lv16_7 : tab.lv 16 7 = some 48 := tab_lv (by kernel_rfl)
theorem lv17_0 : tab.lv 17 0 = some 3 := tab_lv (by kernel_rfl)
theorem lv17_1 : tab.lv 17 1 = some 1027 := tab_lv (by kernel_rfl)
theorem lv17_2 : tab.lv 17 2 = some 16 := tab_lv (by kernel_rfl)
theorem lv17_3 : tab.lv 17 3 = some 12291 := tab_lv (by kernel_rfl)
theorem lv17_4 : tab.lv 17 4 = some 28675 := tab_lv (by kernel_rfl)
theorem lv17_5 : tab.lv 17 5 = some 12323 := tab_lv (by kernel_rfl)
theorem lv17_6 : tab.lv 17 6 = some 16789507 := tab_lv (by kernel_rfl)
theorem lv17_7 : tab.lv 17 7 = some 16 := tab_lv (by kernel_rfl)
theorem lv17_8 : tab.lv 17 8 = some 12291 := tab_lv (by kernel_rfl)
theorem lv17_9 : tab.lv 17 9 = some 16 := tab_lv (by kernel_rfl)
theorem lv18_0 : tab.lv 18 0 = some 3 := tab_lv (by kernel_rfl)
theorem lv18_1 : tab.lv 18 1 = some 131 := tab_lv (by kernel_rfl)
theorem lv18_2 : tab.lv 18 2 = some 4227 := tab_lv (by kernel_rfl)
theorem lv18_3 : tab.lv 18 3 = some 112 := tab_lv (by kernel_rfl)
theorem lv18_4 : tab.lv 18 4 = some 259 := tab_lv (by kernel_rfl)
theorem lv18_5 : tab.lv 18 5 = some 67109123 := tab_lv (by kernel_rfl)
theorem lv18_6 : tab.lv 18 6 = some 259 := tab_lv (by kernel_rfl)
theorem lv18_7 : tab.lv 18 7 = some 112 := tab_lv (by kernel_rfl)
theorem lv19_0 : tab.lv 19 0 = some 1 := tab_lv (by kernel_rfl)
theorem lv19_1 : tab.lv 19 1 = some 9 := tab_lv (by kernel_rfl)
theorem lv19_2 : tab.lv 19 2 = some 3593 := tab_lv (by kernel_rfl)
theorem lv19_3 : tab.lv 19 3 = some 7689 := tab_lv (by kernel_rfl)
theorem lv19_4 : tab.lv 19 4 = some 3625 := tab_lv (by kernel_rfl)
theorem lv19_5 : tab.lv 19 5 = some 3593 := tab_lv (by kernel_rfl)
theorem lv19_6 : tab.lv 19 6 = some 1052169 := tab_lv (by kernel_rfl)
theorem lv19_7 : tab.lv 19 7 = some 3593 := tab_lv (by kernel_rfl)
theorem lv19_8 : tab.lv 19 8 = some 3593 := tab_lv (by kernel_rfl)
theorem lv19_9 : tab.lv 19 9 = some 65 := tab_lv (by kernel_rfl)
theorem lv19_10 : tab.lv 19 10 = some 234881088 := tab_lv (by kernel_rfl)
theorem lv19_11 : tab.lv 19 11 = some 503316544 := tab_lv (by kernel_rfl)
theorem lv19_12 : tab.lv 19 12 = some 234881344 := tab_lv (by kernel_rfl)
theorem lv19_13 : tab.lv 19 13 = some 234881088 := tab_lv (by kernel_rfl)
theorem lv19_14 : tab.lv 19 14 = some 234881088 := tab_lv (by kernel_rfl)
theorem lv19_15 : tab.lv 19 15 = some 4 := tab_lv (by kernel_rfl)
theorem lv20_0 : tab.lv 20 0 = some 3 := tab_lv (by kernel_rfl)
theorem lv20_1 : tab.lv 20 1 = some 16 := tab_lv (by kernel_rfl)
theorem lv21_0 : tab.lv 21 0 = some 6 := tab_lv (by kernel_rfl)
theorem lv21_1 : tab.lv 21 1 = some 8 := tab_lv (by kernel_rfl)
theorem lv22_0 : tab.lv 22 0 = some 6 := tab_lv (by kernel_rfl)
theorem lv22_1 : tab.lv 22 1 = some 8 := tab_lv (by kernel_rfl)
theorem lv23_0 : tab.lv 23 0 = some 1 := tab_lv (by kernel_rfl)
theorem lv23_1 : tab.lv 23 1 = some 9 := tab_lv (by kernel_rfl)
theorem lv23_2 : tab.lv 23 2 = some 456 := tab_lv (by kernel_rfl)
theorem lv23_3 : tab.lv 23 3 = some 968 := tab_lv (by kernel_rfl)
theorem lv23_4 : tab.lv 23 4 = some 504 := tab_lv (by kernel_rfl)
theorem lv23_5 : tab.lv 23 5 = some 16888 := tab_lv (by kernel_rfl)
theorem lv23_6 : tab.lv 23 6 = some 456 := tab_lv (by kernel_rfl)
theorem lv23_7 : tab.lv 23 7 = some 456 := tab_lv (by kernel_rfl)
theorem lv23_8 : tab.lv 23 8 = some 4 := tab_lv (by kernel_rfl)
theorem lv24_0 : tab.lv 24 0 = some 1 := tab_lv (by kernel_rfl)
theorem lv24_1 : tab.lv 24 1 = some 17 := tab_lv (by kernel_rfl)
theorem lv24_2 : tab.lv 24 2 = some 4 := tab_lv (by kernel_rfl)
theorem lv24_3 : tab.lv 24 3 = some 4 := tab_lv (by kernel_rfl)
theorem lv25_0 : tab.lv 25 0 = some 3 := tab_lv (by kernel_rfl)
theorem lv25_1 : tab.lv 25 1 = some 131 := tab_lv (by kernel_rfl)
theorem lv25_2 : tab.lv 25 2 = some 32899 := tab_lv (by kernel_rfl)
theorem lv25_3 : tab.lv 25 3 = some 48 := tab_lv (by kernel_rfl)
theorem lv25_4 : tab.lv 25 4 = some 48 := tab_lv (by kernel_rfl)
theorem lv26_0 : tab.lv 26 0 = some 3 := tab_lv (by kernel_rfl)
theorem lv26_1 : tab.lv 26 1 = some 1027 := tab_lv (by kernel_rfl)
theorem lv26_2 : tab.lv 26 2 = some 16 := tab_lv (by kernel_rfl)
theorem lv26_3 : tab.lv 26 3 = some 12291 := tab_lv (by kernel_rfl)
theorem lv26_4 : tab.lv 26 4 = some 28675 := tab_lv (by kernel_rfl)
theorem lv26_5 : tab.lv 26 5 = some 12323 := tab_lv (by kernel_rfl)
theorem lv26_6 : tab.lv 26 6 = some 16789507 := tab_lv (by kernel_rfl)
theorem lv26_7 : tab.lv 26 7 = some 16 := tab_lv (by kernel_rfl)
theorem lv26_8 : tab.lv 26 8 = some 12291 := tab_lv (by kernel_rfl)
theorem lv26_9 : tab.lv 26 9 = some 16 := tab_lv (by kernel_rfl)
theorem lv27_0 : tab.lv 27 0 = some 3 := tab_lv (by kernel_rfl)
theorem lv27_1 : tab.lv 27 1 = some 6147 := tab_lv (by kernel_rfl)
theorem lv27_2 : tab.lv 27 2 = some 14339 := tab_lv (by kernel_rfl)
theorem lv27_3 : tab.lv 27 3 = some 6275 := tab_lv (by kernel_rfl)
theorem lv27_4 : tab.lv 27 4 = some 6403 := tab_lv (by kernel_rfl)
theorem lv27_5 : tab.lv 27 5 = some 268547 := tab_lv (by kernel_rfl)
theorem lv27_6 : tab.lv 27 6 = some 48 := tab_lv (by kernel_rfl)
theorem lv27_7 : tab.lv 27 7 = some 6147 := tab_lv (by kernel_rfl)
theorem lv27_8 : tab.lv 27 8 = some 67108867 := tab_lv (by kernel_rfl)
theorem lv27_9 : tab.lv 27 9 = some 48 := tab_lv (by kernel_rfl)
theorem lv27_10 : tab.lv 27 10 = some 48 := tab_lv (by kernel_rfl)
theorem lv28_0 : tab.lv 28 0 = some 1 := tab_lv (by kernel_rfl)
theorem lv28_1 : tab.lv 28 1 = some 9 := tab_lv (by kernel_rfl)
theorem lv28_2 : tab.lv 28 2 = some 3593 := tab_lv (by kernel_rfl)
theorem lv28_3 : tab.lv 28 3 = some 7689 := tab_lv (by kernel_rfl)
theorem lv28_4 : tab.lv 28 4 = some 3625 := tab_lv (by kernel_rfl)
theorem lv28_5 : tab.lv 28 5 = some 3593 := tab_lv (by kernel_rfl)
theorem lv28_6 : tab.lv 28 6 = some 1052169 := tab_lv (by kernel_rfl)
theorem lv28_7 : tab.lv 28 7 = some 3593 := tab_lv (by kernel_rfl)
theorem lv28_8 : tab.lv 28 8 = some 3593 := tab_lv (by kernel_rfl)
theorem lv28_9 : tab.lv 28 9 = some 65 := tab_lv (by kernel_rfl)
theorem lv28_10 : tab.lv 28 10 = some 234881088 := tab_lv (by kernel_rfl)
theorem lv28_11 : tab.lv 28 11 = some 503316544 := tab_lv (by kernel_rfl)
theorem lv28_12 : tab.lv 28 12 = some 234881344 := tab_lv (by kernel_rfl)
theorem lv28_13 : tab.lv 28 13 = some 234881088 := tab_lv (by kernel_rfl)
theorem lv28_14 : tab.lv 28 14 = some 234881088 := tab_lv (by kernel_rfl)
theorem lv28_15 : tab.lv 28 15 = some 4 := tab_lv (by kernel_rfl)
theorem lv29_0 : tab.lv 29 0 = some 25 := tab_lv (by kernel_rfl)
theorem lv29_1 : tab.lv 29 1 = some 56 := tab_lv (by kernel_rfl)
theorem lv29_2 : tab.lv 29 2 = some 120 := tab_lv (by kernel_rfl)
theorem lv29_3 : tab.lv 29 3 = some 2072 := tab_lv (by kernel_rfl)
theorem lv29_4 : tab.lv 29 4 = some 16 := tab_lv (by kernel_rfl)
theorem lv29_5 : tab.lv 29 5 = some 16 := tab_lv (by kernel_rfl)
theorem lv29_6 : tab.lv 29 6 = some 4194328 := tab_lv (by kernel_rfl)
theorem lv29_7 : tab.lv 29 7 = some 16 := tab_lv (by kernel_rfl)
theorem lv29_8 : tab.lv 29 8 = some 16 := tab_lv (by kernel_rfl)
theorem lv30_0 : tab.lv 30 0 = some 19 := tab_lv (by kernel_rfl)
theorem lv30_1 : tab.lv 30 1 = some 403 := tab_lv (by kernel_rfl)
theorem lv30_2 : tab.lv 30 2 = some 262547 := tab_lv (by kernel_rfl)
theorem lv30_3 : tab.lv 30 3 = some 112 := tab_lv (by kernel_rfl)
theorem lv30_4 : tab.lv 30 4 = some 16777363 := tab_lv (by kernel_rfl)
theorem lv30_5 : tab.lv 30 5 = some 112 := tab_lv (by kernel_rfl)
theorem lv30_6 : tab.lv 30 6 = some 656 := tab_lv (by kernel_rfl)
theorem lv30_7 : tab.lv 30 7 = some 112 := tab_lv (by kernel_rfl)
theorem lv31_0 : tab.lv 31 0 = some 35 := tab_lv (by kernel_rfl)
theorem lv31_1 : tab.lv 31 1 = some 803 := tab_lv (by kernel_rfl)
theorem lv31_2 : tab.lv 31 2 = some 131875 := tab_lv (by kernel_rfl)
theorem lv31_3 : tab.lv 31 3 = some 192 := tab_lv (by kernel_rfl)
theorem lv31_4 : tab.lv 31 4 = some 2097187 := tab_lv (by kernel_rfl)
theorem lv31_5 : tab.lv 31 5 = some 192 := tab_lv (by kernel_rfl)
theorem lv31_6 : tab.lv 31 6 = some 67108899 := tab_lv (by kernel_rfl)
theorem lv31_7 : tab.lv 31 7 = some 192 := tab_lv (by kernel_rfl)
theorem lv31_8 : tab.lv 31 8 = some 1058 := tab_lv (by kernel_rfl)
theorem lv31_9 : tab.lv 31 9 = some 1024 := tab_lv (by kernel_rfl)
theorem lv31_10 : tab.lv 31 10 = some 192 := tab_lv (by kernel_rfl)
theorem lv32_0 : tab.lv 32 0 = some 3 := tab_lv (by kernel_rfl)
theorem lv32_1 : tab.lv 32 1 = some 195 := tab_lv (by kernel_rfl)
theorem lv32_2 : tab.lv 32 2 = some 32963 := tab_lv (by kernel_rfl)
theorem lv32_3 : tab.lv 32 3 = some 48 := tab_lv (by kernel_rfl)
theorem lv32_4 : tab.lv 32 4 = some 524355 := tab_lv (by kernel_rfl)
theorem lv32_5 : tab.lv 32 5 = some 48 := tab_lv (by kernel_rfl)
theorem lv32_6 : tab.lv 32 6 = some 48 := tab_lv (by kernel_rfl)
theorem lv33_0 : tab.lv 33 0 = some 1 := tab_lv (by kernel_rfl)
theorem lv33_1 : tab.lv 33 1 = some 2049 := tab_lv (by kernel_rfl)
theorem lv33_2 : tab.lv 33 2 = some 28 := tab_lv (by kernel_rfl)
theorem lv33_3 : tab.lv 33 3 = some 33 := tab_lv (by kernel_rfl)
theorem lv33_4 : tab.lv 33 4 = some 97 := tab_lv (by kernel_rfl)
theorem lv33_5 : tab.lv 33 5 = some 32865 := tab_lv (by kernel_rfl)
theorem lv33_6 : tab.lv 33 6 = some 524385 := tab_lv (by kernel_rfl)
theorem lv33_7 : tab.lv 33 7 = some 97 := tab_lv (by kernel_rfl)
theorem lv33_8 : tab.lv 33 8 = some 481 := tab_lv (by kernel_rfl)
theorem lv33_9 : tab.lv 33 9 = some 1073742305 := tab_lv (by kernel_rfl)
theorem lv33_10 : tab.lv 33 10 = some 28 := tab_lv (by kernel_rfl)
theorem lv33_11 : tab.lv 33 11 = some 225 := tab_lv (by kernel_rfl)
theorem lv33_12 : tab.lv 33 12 = some 225 := tab_lv (by kernel_rfl)
theorem lv33_13 : tab.lv 33 13 = some 97 := tab_lv (by kernel_rfl)
theorem lv33_14 : tab.lv 33 14 = some 28 := tab_lv (by kernel_rfl)
theorem lv34_0 : tab.lv 34 0 = some 3 := tab_lv (by kernel_rfl)
theorem lv34_1 : tab.lv 34 1 = some 4099 := tab_lv (by kernel_rfl)
theorem lv34_2 : tab.lv 34 2 = some 12291 := tab_lv (by kernel_rfl)
theorem lv34_3 : tab.lv 34 3 = some 16 := tab_lv (by kernel_rfl)
theorem lv34_4 : tab.lv 34 4 = some 32771 := tab_lv (by kernel_rfl)
theorem lv34_5 : tab.lv 34 5 = some 16 := tab_lv (by kernel_rfl)
theorem lv34_6 : tab.lv 34 6 = some 35 := tab_lv (by kernel_rfl)
theorem lv34_7 : tab.lv 34 7 = some 4194339 := tab_lv (by kernel_rfl)
theorem lv34_8 : tab.lv 34 8 = some 536870947 := tab_lv (by kernel_rfl)
theorem lv34_9 : tab.lv 34 9 = some 35 := tab_lv (by kernel_rfl)
theorem lv34_10 : tab.lv 34 10 = some 35 := tab_lv (by kernel_rfl)
theorem lv34_11 : tab.lv 34 11 = some 3848290697251 := tab_lv (by kernel_rfl)
theorem lv34_12 : tab.lv 34 12 = some 8246337208355 := tab_lv (by kernel_rfl)
theorem lv34_13 : tab.lv 34 13 = some 3848290697379 := tab_lv (by kernel_rfl)
theorem lv34_14 : tab.lv 34 14 = some 566798244118691 := tab_lv (by kernel_rfl)
theorem lv34_15 : tab.lv 34 15 = some 3848290697379 := tab_lv (by kernel_rfl)
theorem lv34_16 : tab.lv 34 16 = some 3848290697251 := tab_lv (by kernel_rfl)
theorem lv34_17 : tab.lv 34 17 = some 3848290697251 := tab_lv (by kernel_rfl)
theorem lv34_18 : tab.lv 34 18 = some 291 := tab_lv (by kernel_rfl)
theorem lv34_19 : tab.lv 34 19 = some 259 := tab_lv (by kernel_rfl)
theorem lv34_20 : tab.lv 34 20 = some 259 := tab_lv (by kernel_rfl)
theorem lv34_21 : tab.lv 34 21 = some 64563604257983430914 := tab_lv (by kernel_rfl)
theorem lv34_22 : tab.lv 34 22 = some 138350580552821637378 := tab_lv (by kernel_rfl)
theorem lv34_23 : tab.lv 34 23 = some 64563604257983431938 := tab_lv (by kernel_rfl)
theorem lv34_24 : tab.lv 34 24 = some 64563604257983431938 := tab_lv (by kernel_rfl)
theorem lv34_25 : tab.lv 34 25 = some 64563604257983430914 := tab_lv (by kernel_rfl)
theorem lv34_26 : tab.lv 34 26 = some 64563604257983430914 := tab_lv (by kernel_rfl)
theorem lv34_27 : tab.lv 34 27 = some 16 := tab_lv (by kernel_rfl)
theorem lv35_0 : tab.lv 35 0 = some 7 := tab_lv (by kernel_rfl)
theorem lv35_1 : tab.lv 35 1 = some 16391 := tab_lv (by kernel_rfl)
theorem lv35_2 : tab.lv 35 2 = some 64 := tab_lv (by kernel_rfl)
theorem lv35_3 : tab.lv 35 3 = some 229382 := tab_lv (by kernel_rfl)
theorem lv35_4 : tab.lv 35 4 = some 491526 := tab_lv (by kernel_rfl)
theorem lv35_5 : tab.lv 35 5 = some 229766 := tab_lv (by kernel_rfl)
theorem lv35_6 : tab.lv 35 6 = some 230150 := tab_lv (by kernel_rfl)
theorem lv35_7 : tab.lv 35 7 = some 1073971206 := tab_lv (by kernel_rfl)
theorem lv35_8 : tab.lv 35 8 = some 64 := tab_lv (by kernel_rfl)
theorem lv35_9 : tab.lv 35 9 = some 229382 := tab_lv (by kernel_rfl)
theorem lv35_10 : tab.lv 35 10 = some 64 := tab_lv (by kernel_rfl)
theorem lv36_0 : tab.lv 36 0 = some 12 := tab_lv (by kernel_rfl)
theorem lv36_1 : tab.lv 36 1 = some 16 := tab_lv (by kernel_rfl)
theorem lv37_0 : tab.lv 37 0 = some 9 := tab_lv (by kernel_rfl)
theorem lv37_1 : tab.lv 37 1 = some 16 := tab_lv (by kernel_rfl)
theorem lv38_0 : tab.lv 38 0 = some 12 := tab_lv (by kernel_rfl)
theorem lv38_1 : tab.lv 38 1 = some 16 := tab_lv (by kernel_rfl)
theorem lv39_0 : tab.lv 39 0 = some 21 := tab_lv (by kernel_rfl)
theorem lv39_1 : tab.lv 39 1 = some 277 := tab_lv (by kernel_rfl)
theorem lv39_2 : tab.lv 39 2 = some 1813 := tab_lv (by kernel_rfl)
theorem lv39_3 : tab.lv 39 3 = some 132885 := tab_lv (by kernel_rfl)
theorem lv39_4 : tab.lv 39 4 = some 3861 := tab_lv (by kernel_rfl)
theorem lv39_5 : tab.lv 39 5 = some 2147487509 := tab_lv (by kernel_rfl)
theorem lv39_6 : tab.lv 39 6 = some 1813 := tab_lv (by kernel_rfl)
theorem lv39_7 : tab.lv 39 7 = some 1813 := tab_lv (by kernel_rfl)
theorem lv39_8 : tab.lv 39 8 = some 192 := tab_lv (by kernel_rfl)
theorem lv40_0 : tab.lv 40 0 = some 1 := tab_lv (by kernel_rfl)
theorem lv40_1 : tab.lv 40 1 = some 17 := tab_lv (by kernel_rfl)
theorem lv40_2 : tab.lv 40 2 = some 4 := tab_lv (by kernel_rfl)
theorem lv40_3 : tab.lv 40 3 = some 4 := tab_lv (by kernel_rfl)
theorem lv41_0 : tab.lv 41 0 = some 7 := tab_lv (by kernel_rfl)
theorem lv41_1 : tab.lv 41 1 = some 7 := tab_lv (by kernel_rfl)
theorem lv41_2 : tab.lv 41 2 = some 65543 := tab_lv (by kernel_rfl)
theorem lv41_3 : tab.lv 41 3 = some 64 := tab_lv (by kernel_rfl)
theorem lv41_4 : tab.lv 41 4 = some 135 := tab_lv (by kernel_rfl)
theorem lv41_5 : tab.lv 41 5 = some 129 := tab_lv (by kernel_rfl)
theorem lv41_6 : tab.lv 41 6 = some 1 := tab_lv (by kernel_rfl)
theorem lv41_7 : tab.lv 41 7 = some 64 := tab_lv (by kernel_rfl)
theorem lv42_0 : tab.lv 42 0 = some 3 := tab_lv (by kernel_rfl)
theorem lv42_1 : tab.lv 42 1 = some 67 := tab_lv (by kernel_rfl)
theorem lv42_2 : tab.lv 42 2 = some 3 := tab_lv (by kernel_rfl)
theorem lv42_3 : tab.lv 42 3 = some 3 := tab_lv (by kernel_rfl)
theorem lv42_4 : tab.lv 42 4 = some 65539 := tab_lv (by kernel_rfl)
theorem lv42_5 : tab.lv 42 5 = some 1 := tab_lv (by kernel_rfl)
theorem lv42_6 : tab.lv 42 6 = some 16 := tab_lv (by kernel_rfl)
theorem lv43_0 : tab.lv 43 0 = some 3 := tab_lv (by kernel_rfl)
theorem lv43_1 : tab.lv 43 1 = some 387 := tab_lv (by kernel_rfl)
theorem lv43_2 : tab.lv 43 2 = some 899 := tab_lv (by kernel_rfl)
theorem lv43_3 : tab.lv 43 3 = some 419 := tab_lv (by kernel_rfl)
theorem lv43_4 : tab.lv 43 4 = some 65955 := tab_lv (by kernel_rfl)
theorem lv43_5 : tab.lv 43 5 = some 16 := tab_lv (by kernel_rfl)
theorem lv43_6 : tab.lv 43 6 = some 387 := tab_lv (by kernel_rfl)
theorem lv43_7 : tab.lv 43 7 = some 16 := tab_lv (by kernel_rfl)
theorem lv44_0 : tab.lv 44 0 = some 19 := tab_lv (by kernel_rfl)
theorem lv44_1 : tab.lv 44 1 = some 83 := tab_lv (by kernel_rfl)
theorem lv44_2 : tab.lv 44 2 = some 1107 := tab_lv (by kernel_rfl)
theorem lv44_3 : tab.lv 44 3 = some 48 := tab_lv (by kernel_rfl)
theorem lv44_4 : tab.lv 44 4 = some 1048595 := tab_lv (by kernel_rfl)
theorem lv44_5 : tab.lv 44 5 = some 48 := tab_lv (by kernel_rfl)
theorem lv44_6 : tab.lv 44 6 = some 48 := tab_lv (by kernel_rfl)
theorem lv45_0 : tab.lv 45 0 = some 1 := tab_lv (by kernel_rfl)
theorem lv45_1 : tab.lv 45 1 = some 17 := tab_lv (by kernel_rfl)
theorem lv45_2 : tab.lv 45 2 = some 4 := tab_lv (by kernel_rfl)
theorem lv45_3 : tab.lv 45 3 = some 4 := tab_lv (by kernel_rfl)
theorem lv46_0 : tab.lv 46 0 = some 7 := tab_lv (by kernel_rfl)
theorem lv46_1 : tab.lv 46 1 = some 7 := tab_lv (by kernel_rfl)
theorem lv46_2 : tab.lv 46 2 = some 65543 := tab_lv (by kernel_rfl)
theorem lv46_3 : tab.lv 46 3 = some 64 := tab_lv (by kernel_rfl)
theorem lv46_4 : tab.lv 46 4 = some 135 := tab_lv (by kernel_rfl)
theorem lv46_5 : tab.lv 46 5 = some 129 := tab_lv (by kernel_rfl)
theorem lv46_6 : tab.lv 46 6 = some 1 := tab_lv (by kernel_rfl)
theorem lv46_7 : tab.lv 46 7 = some 64 := tab_lv (by kernel_rfl)
theorem lv47_0 : tab.lv 47 0 = some 1 := tab_lv (by kernel_rfl)
theorem lv47_1 : tab.lv 47 1 = some 129 := tab_lv (by kernel_rfl)
theorem lv47_2 : tab.lv 47 2 = some 4 := tab_lv (by kernel_rfl)
theorem lv47_3 : tab.lv 47 3 = some 1792 := tab_lv (by kernel_rfl)
theorem lv47_4 : tab.lv 47 4 = some 3840 := tab_lv (by kernel_rfl)
theorem lv47_5 : tab.lv 47 5 = some 1808 := tab_lv (by kernel_rfl)
theorem lv47_6 : tab.lv 47 6 = some 2098960 := tab_lv (by kernel_rfl)
theorem lv47_7 : tab.lv 47 7 = some 4 := tab_lv (by kernel_rfl)
theorem lv47_8 : tab.lv 47 8 = some 137438955264 := tab_lv (by kernel_rfl)
theorem lv47_9 : tab.lv 47 9 = some 4 := tab_lv (by kernel_rfl)
theorem lv47_10 : tab.lv 47 10 = some 1792 := tab_lv (by kernel_rfl)
theorem lv47_11 : tab.lv 47 11 = some 4 := tab_lv (by kernel_rfl)
theorem lv48_0 : tab.lv 48 0 = some 3 := tab_lv (by kernel_rfl)
theorem lv48_1 : tab.lv 48 1 = some 67 := tab_lv (by kernel_rfl)
theorem lv48_2 : tab.lv 48 2 = some 3 := tab_lv (by kernel_rfl)
theorem lv48_3 : tab.lv 48 3 = some 3 := tab_lv (by kernel_rfl)
theorem lv48_4 : tab.lv 48 4 = some 65539 := tab_lv (by kernel_rfl)
theorem lv48_5 : tab.lv 48 5 = some 1 := tab_lv (by kernel_rfl)
theorem lv48_6 : tab.lv 48 6 = some 16 := tab_lv (by kernel_rfl)
theorem lv49_0 : tab.lv 49 0 = some 3 := tab_lv (by kernel_rfl)
theorem lv49_1 : tab.lv 49 1 = some 32 := tab_lv (by kernel_rfl)
theorem lv49_2 : tab.lv 49 2 = some 229408 := tab_lv (by kernel_rfl)
theorem lv49_3 : tab.lv 49 3 = some 491552 := tab_lv (by kernel_rfl)
theorem lv49_4 : tab.lv 49 4 = some 229600 := tab_lv (by kernel_rfl)
theorem lv49_5 : tab.lv 49 5 = some 229408 := tab_lv (by kernel_rfl)
theorem lv49_6 : tab.lv 49 6 = some 229408 := tab_lv (by kernel_rfl)
theorem lv49_7 : tab.lv 49 7 = some 16 := tab_lv (by kernel_rfl)
theorem lv50_0 : tab.lv 50 0 = some 2 := tab_lv (by kernel_rfl)
theorem lv50_1 : tab.lv 50 1 = some 4 := tab_lv (by kernel_rfl)
theorem lv51_0 : tab.lv 51 0 = some 7 := tab_lv (by kernel_rfl)
theorem lv51_1 : tab.lv 51 1 = some 7 := tab_lv (by kernel_rfl)
theorem lv51_2 : tab.lv 51 2 = some 135 := tab_lv (by kernel_rfl)
theorem lv51_3 : tab.lv 51 3 = some 65671 := tab_lv (by kernel_rfl)
theorem lv51_4 : tab.lv 51 4 = some 64 := tab_lv (by kernel_rfl)
theorem lv51_5 : tab.lv 51 5 = some 391 := tab_lv (by kernel_rfl)
theorem lv51_6 : tab.lv 51 6 = some 4194695 := tab_lv (by kernel_rfl)
theorem lv51_7 : tab.lv 51 7 = some 64 := tab_lv (by kernel_rfl)
theorem lv51_8 : tab.lv 51 8 = some 2147484039 := tab_lv (by kernel_rfl)
theorem lv51_9 : tab.lv 51 9 = some 647 := tab_lv (by kernel_rfl)
theorem lv51_10 : tab.lv 51 10 = some 643 := tab_lv (by kernel_rfl)
theorem lv51_11 : tab.lv 51 11 = some 512 := tab_lv (by kernel_rfl)
theorem lv51_12 : tab.lv 51 12 = some 64 := tab_lv (by kernel_rfl)
theorem lv51_13 : tab.lv 51 13 = some 391 := tab_lv (by kernel_rfl)
theorem lv51_14 : tab.lv 51 14 = some 295147905179352826247 := tab_lv (by kernel_rfl)
theorem lv51_15 : tab.lv 51 15 = some 7 := tab_lv (by kernel_rfl)
theorem lv51_16 : tab.lv 51 16 = some 1 := tab_lv (by kernel_rfl)
theorem lv51_17 : tab.lv 51 17 = some 64 := tab_lv (by kernel_rfl)
theorem lv51_18 : tab.lv 51 18 = some 131 := tab_lv (by kernel_rfl)
theorem lv51_19 : tab.lv 51 19 = some 1 := tab_lv (by kernel_rfl)
theorem lv51_20 : tab.lv 51 20 = some 64 := tab_lv (by kernel_rfl)
theorem lv52_0 : tab.lv 52 0 = some 5 := tab_lv (by kernel_rfl)
theorem lv52_1 : tab.lv 52 1 = some 21 := tab_lv (by kernel_rfl)
theorem lv52_2 : tab.lv 52 2 = some 1045 := tab_lv (by kernel_rfl)
theorem lv52_3 : tab.lv 52 3 = some 12 := tab_lv (by kernel_rfl)
theorem lv52_4 : tab.lv 52 4 = some 131093 := tab_lv (by kernel_rfl)
theorem lv52_5 : tab.lv 52 5 = some 37 := tab_lv (by kernel_rfl)
theorem lv52_6 : tab.lv 52 6 = some 8388645 := tab_lv (by kernel_rfl)
theorem lv52_7 : tab.lv 52 7 = some 12 := tab_lv (by kernel_rfl)
theorem lv52_8 : tab.lv 52 8 = some 12 := tab_lv (by kernel_rfl)
theorem lv52_9 : tab.lv 52 9 = some 536870917 := tab_lv (by kernel_rfl)
theorem lv52_10 : tab.lv 52 10 = some 12 := tab_lv (by kernel_rfl)
theorem lv52_11 : tab.lv 52 11 = some 206158430213 := tab_lv (by kernel_rfl)
theorem lv52_12 : tab.lv 52 12 = some 481036337157 := tab_lv (by kernel_rfl)
theorem lv52_13 : tab.lv 52 13 = some 206158430341 := tab_lv (by kernel_rfl)
theorem lv52_14 : tab.lv 52 14 = some 4604204941445 := tab_lv (by kernel_rfl)
theorem lv52_15 : tab.lv 52 15 = some 12 := tab_lv (by kernel_rfl)
theorem lv52_16 : tab.lv 52 16 = some 206158430213 := tab_lv (by kernel_rfl)
theorem lv52_17 : tab.lv 52 17 = some 12 := tab_lv (by kernel_rfl)
theorem lv53_0 : tab.lv 53 0 = some 3 := tab_lv (by kernel_rfl)
theorem lv53_1 : tab.lv 53 1 = some 131 := tab_lv (by kernel_rfl)
theorem lv53_2 : tab.lv 53 2 = some 3 := tab_lv (by kernel_rfl)
theorem lv53_3 : tab.lv 53 3 = some 2097155 := tab_lv (by kernel_rfl)
theorem lv53_4 : tab.lv 53 4 = some 0 := tab_lv (by kernel_rfl)
theorem lv54_0 : tab.lv 54 0 = some 3 := tab_lv (by kernel_rfl)
theorem lv54_1 : tab.lv 54 1 = some 3 := tab_lv (by kernel_rfl)
theorem lv54_2 : tab.lv 54 2 = some 2 := tab_lv (by kernel_rfl)
theorem lv54_3 : tab.lv 54 3 = some 48 := tab_lv (by kernel_rfl)
theorem lv55_0 : tab.lv 55 0 = some 1 := tab_lv (by kernel_rfl)
theorem lv55_1 : tab.lv 55 1 = some 4 := tab_lv (by kernel_rfl)
theorem lv56_0 : tab.lv 56 0 = some 6 := tab_lv (by kernel_rfl)
theorem lv56_1 : tab.lv 56 1 = some 8 := tab_lv (by kernel_rfl)
theorem lv57_0 : tab.lv 57 0 = some 1 := tab_lv (by kernel_rfl)
theorem lv57_1 : tab.lv 57 1 = some 9 := tab_lv (by kernel_rfl)
theorem lv57_2 : tab.lv 57 2 = some 456 := tab_lv (by kernel_rfl)
theorem lv57_3 : tab.lv 57 3 = some 968 := tab_lv (by kernel_rfl)
theorem lv57_4 : tab.lv 57 4 = some 488 := tab_lv (by kernel_rfl)
theorem lv57_5 : tab.lv 57 5 = some 16872 := tab_lv (by kernel_rfl)
theorem lv57_6 : tab.lv 57 6 = some 4 := tab_lv (by kernel_rfl)
theorem lv57_7 : tab.lv 57 7 = some 456 := tab_lv (by kernel_rfl)
theorem lv57_8 : tab.lv 57 8 = some 4 := tab_lv (by kernel_rfl)
theorem lv58_0 : tab.lv 58 0 = some 3 := tab_lv (by kernel_rfl)
theorem lv58_1 : tab.lv 58 1 = some 35 := tab_lv (by kernel_rfl)
theorem lv58_2 : tab.lv 58 2 = some 99 := tab_lv (by kernel_rfl)
theorem lv58_3 : tab.lv 58 3 = some 2115 := tab_lv (by kernel_rfl)
theorem lv58_4 : tab.lv 58 4 = some 4096 := tab_lv (by kernel_rfl)
theorem lv58_5 : tab.lv 58 5 = some 16 := tab_lv (by kernel_rfl)
theorem lv58_6 : tab.lv 58 6 = some 16 := tab_lv (by kernel_rfl)
theorem lv58_7 : tab.lv 58 7 = some 8195 := tab_lv (by kernel_rfl)
theorem lv58_8 : tab.lv 58 8 = some 16 := tab_lv (by kernel_rfl)
theorem lv58_9 : tab.lv 58 9 = some 65539 := tab_lv (by kernel_rfl)
theorem lv58_10 : tab.lv 58 10 = some 16 := tab_lv (by kernel_rfl)
theorem lv58_11 : tab.lv 58 11 = some 524288 := tab_lv (by kernel_rfl)
theorem lv58_12 : tab.lv 58 12 = some 16 := tab_lv (by kernel_rfl)
theorem lv58_13 : tab.lv 58 13 = some 16 := tab_lv (by kernel_rfl)
theorem lv59_0 : tab.lv 59 0 = some 2 := tab_lv (by kernel_rfl)
theorem lv59_1 : tab.lv 59 1 = some 34 := tab_lv (by kernel_rfl)
theorem lv59_2 : tab.lv 59 2 = some 4 := tab_lv (by kernel_rfl)
theorem lv59_3 : tab.lv 59 3 = some 98 := tab_lv (by kernel_rfl)
theorem lv59_4 : tab.lv 59 4 = some 10 := tab_lv (by kernel_rfl)
theorem lv59_5 : tab.lv 59 5 = some 4106 := tab_lv (by kernel_rfl)
theorem lv59_6 : tab.lv 59 6 = some 4 := tab_lv (by kernel_rfl)
theorem lv59_7 : tab.lv 59 7 = some 16418 := tab_lv (by kernel_rfl)
theorem lv59_8 : tab.lv 59 8 = some 8388610 := tab_lv (by kernel_rfl)
theorem lv59_9 : tab.lv 59 9 = some 4 := tab_lv (by kernel_rfl)
theorem lv59_10 : tab.lv 59 10 = some 16777250 := tab_lv (by kernel_rfl)
theorem lv59_11 : tab.lv 59 11 = some 268435458 := tab_lv (by kernel_rfl)
theorem lv59_12 : tab.lv 59 12 = some 4 := tab_lv (by kernel_rfl)
theorem lv59_13 : tab.lv 59 13 = some 4 := tab_lv (by kernel_rfl)
theorem lv59_14 : tab.lv 59 14 = some 4294967330 := tab_lv (by kernel_rfl)
theorem lv59_15 : tab.lv 59 15 = some 68719476738 := tab_lv (by kernel_rfl)
theorem lv59_16 : tab.lv 59 16 = some 4 := tab_lv (by kernel_rfl)
theorem lv59_17 : tab.lv 59 17 = some 137438953474 := tab_lv (by kernel_rfl)
theorem lv59_18 : tab.lv 59 18 = some 70368744177666 := tab_lv (by kernel_rfl)
theorem lv59_19 : tab.lv 59 19 = some 4 := tab_lv (by kernel_rfl)
theorem lv59_20 : tab.lv 59 20 = some 562949953421312 := tab_lv (by kernel_rfl)
theorem lv59_21 : tab.lv 59 21 = some 4 := tab_lv (by kernel_rfl)
theorem lv59_22 : tab.lv 59 22 = some 4 := tab_lv (by kernel_rfl)
theorem lv61_0 : tab.lv 61 0 = some 0 := tab_lv (by kernel_rfl)
theorem lv62_0 : tab.lv 62 0 = some 1 := tab_lv (by kernel_rfl)
theorem lv62_1 : tab.lv 62 1 = some 4 := tab_lv (by kernel_rfl)
theorem lv63_0 : tab.lv 63 0 = some 5 := tab_lv (by kernel_rfl)
theorem lv63_1 : tab.lv 63 1 = some 53 := tab_lv (by kernel_rfl)
theorem lv63_2 : tab.lv 63 2 = some 32821 := tab_lv (by kernel_rfl)
theorem lv63_3 : tab.lv 63 3 = some 12 := tab_lv (by kernel_rfl)
theorem lv63_4 : tab.lv 63 4 = some 393269 := tab_lv (by kernel_rfl)
theorem lv63_5 : tab.lv 63 5 = some 917557 := tab_lv (by kernel_rfl)
theorem lv63_6 : tab.lv 63 6 = some 393333 := tab_lv (by kernel_rfl)
theorem lv63_7 : tab.lv 63 7 = some 393269 := tab_lv (by kernel_rfl)
theorem lv63_8 : tab.lv 63 8 = some 1074135093 := tab_lv (by kernel_rfl)
theorem lv63_9 : tab.lv 63 9 = some 12 := tab_lv (by kernel_rfl)
theorem lv63_10 : tab.lv 63 10 = some 393269 := tab_lv (by kernel_rfl)
theorem lv63_11 : tab.lv 63 11 = some 12 := tab_lv (by kernel_rfl)
theorem lv64_0 : tab.lv 64 0 = some 1 := tab_lv (by kernel_rfl)
theorem lv64_1 : tab.lv 64 1 = some 4 := tab_lv (by kernel_rfl)
theorem lv65_0 : tab.lv 65 0 = some 3 := tab_lv (by kernel_rfl)
theorem lv65_1 : tab.lv 65 1 = some 35 := tab_lv (by kernel_rfl)
theorem lv65_2 : tab.lv 65 2 = some 65571 := tab_lv (by kernel_rfl)
theorem lv65_3 : tab.lv 65 3 = some 35 := tab_lv (by kernel_rfl)
theorem lv65_4 : tab.lv 65 4 = some 16 := tab_lv (by kernel_rfl)
theorem lv66_0 : tab.lv 66 0 = some 1 := tab_lv (by kernel_rfl)
theorem lv66_1 : tab.lv 66 1 = some 4 := tab_lv (by kernel_rfl)
theorem lv67_0 : tab.lv 67 0 = some 5 := tab_lv (by kernel_rfl)
theorem lv67_1 : tab.lv 67 1 = some 21 := tab_lv (by kernel_rfl)
theorem lv67_2 : tab.lv 67 2 = some 53 := tab_lv (by kernel_rfl)
theorem lv67_3 : tab.lv 67 3 = some 1077 := tab_lv (by kernel_rfl)
theorem lv67_4 : tab.lv 67 4 = some 53 := tab_lv (by kernel_rfl)
theorem lv67_5 : tab.lv 67 5 = some 117 := tab_lv (by kernel_rfl)
theorem lv67_6 : tab.lv 67 6 = some 53 := tab_lv (by kernel_rfl)
theorem lv67_7 : tab.lv 67 7 = some 1048693 := tab_lv (by kernel_rfl)
theorem lv67_8 : tab.lv 67 8 = some 33554485 := tab_lv (by kernel_rfl)
theorem lv67_9 : tab.lv 67 9 = some 12 := tab_lv (by kernel_rfl)
theorem lv67_10 : tab.lv 67 10 = some 12 := tab_lv (by kernel_rfl)
theorem lv67_11 : tab.lv 67 11 = some 34359738485 := tab_lv (by kernel_rfl)
theorem lv67_12 : tab.lv 67 12 = some 53 := tab_lv (by kernel_rfl)
theorem lv67_13 : tab.lv 67 13 = some 53 := tab_lv (by kernel_rfl)
theorem lv67_14 : tab.lv 67 14 = some 147573952589676413045 := tab_lv (by kernel_rfl)
theorem lv67_15 : tab.lv 67 15 = some 12 := tab_lv (by kernel_rfl)
theorem lv67_16 : tab.lv 67 16 = some 12 := tab_lv (by kernel_rfl)
theorem lv68_0 : tab.lv 68 0 = some 3 := tab_lv (by kernel_rfl)
theorem lv68_1 : tab.lv 68 1 = some 16 := tab_lv (by kernel_rfl)
theorem lv69_0 : tab.lv 69 0 = some 65 := tab_lv (by kernel_rfl)
theorem lv69_1 : tab.lv 69 1 = some 0 := tab_lv (by kernel_rfl)
theorem lv69_2 : tab.lv 69 2 = some 524288 := tab_lv (by kernel_rfl)
theorem lv70_0 : tab.lv 70 0 = some 17 := tab_lv (by kernel_rfl)
theorem lv70_1 : tab.lv 70 1 = some 17 := tab_lv (by kernel_rfl)
theorem lv70_2 : tab.lv 70 2 = some 0 := tab_lv (by kernel_rfl)
theorem lv71_0 : tab.lv 71 0 = some 1 := tab_lv (by kernel_rfl)
theorem lv71_1 : tab.lv 71 1 = some 4 := tab_lv (by kernel_rfl)
theorem lv72_0 : tab.lv 72 0 = some 1 := tab_lv (by kernel_rfl)
theorem lv72_1 : tab.lv 72 1 = some 256 := tab_lv (by kernel_rfl)
theorem lv72_2 : tab.lv 72 2 = some 4 := tab_lv (by kernel_rfl)
theorem lv72_3 : tab.lv 72 3 = some 4 := tab_lv (by kernel_rfl)
theorem lv73_0 : tab.lv 73 0 = some 1 := tab_lv (by kernel_rfl)
theorem lv73_1 : tab.lv 73 1 = some 65 := tab_lv (by kernel_rfl)
theorem lv73_2 : tab.lv 73 2 = some 4 := tab_lv (by kernel_rfl)
theorem lv73_3 : tab.lv 73 3 = some 769 := tab_lv (by kernel_rfl)
theorem lv73_4 : tab.lv 73 4 = some 1793 := tab_lv (by kernel_rfl)
theorem lv73_5 : tab.lv 73 5 = some 777 := tab_lv (by kernel_rfl)
theorem lv73_6 : tab.lv 73 6 = some 2097921 := tab_lv (by kernel_rfl)
theorem lv73_7 : tab.lv 73 7 = some 4 := tab_lv (by kernel_rfl)
theorem lv73_8 : tab.lv 73 8 = some 769 := tab_lv (by kernel_rfl)
theorem lv73_9 : tab.lv 73 9 = some 4 := tab_lv (by kernel_rfl)
theorem lv74_0 : tab.lv 74 0 = some 3 := tab_lv (by kernel_rfl)
theorem lv74_1 : tab.lv 74 1 = some 1 := tab_lv (by kernel_rfl)
theorem lv74_2 : tab.lv 74 2 = some 0 := tab_lv (by kernel_rfl)
theorem lv75_0 : tab.lv 75 0 = some 3 := tab_lv (by kernel_rfl)
theorem lv75_1 : tab.lv 75 1 = some 16 := tab_lv (by kernel_rfl)
theorem lv78_0 : tab.lv 78 0 = some 13 := tab_lv (by kernel_rfl)
theorem lv78_1 : tab.lv 78 1 = some 525 := tab_lv (by kernel_rfl)
theorem lv78_2 : tab.lv 78 2 = some 13 := tab_lv (by kernel_rfl)
theorem lv78_3 : tab.lv 78 3 = some 13 := tab_lv (by kernel_rfl)
theorem mu22_7 : tab.mutA 22 7 = true := tab_mut (by kernel_rfl)
theorem mu22_17 : tab.mutA 22 17 = true := tab_mut (by kernel_rfl)
theorem mu22_23 : tab.mutA 22 23 = true := tab_mut (by kernel_rfl)
theorem mu22_24 : tab.mutA 22 24 = true := tab_mut (by kernel_rfl)
theorem mu23_7 : tab.mutA 23 7 = true := tab_mut (by kernel_rfl)
theorem mu23_20 : tab.mutA 23 20 = true := tab_mut (by kernel_rfl)
theorem mu23_22 : tab.mutA 23 22 = true := tab_mut (by kernel_rfl)
theorem mu23_24 : tab.mutA 23 24 = true := tab_mut (by kernel_rfl)
theorem mu23_25 : tab.mutA 23 25 = true := tab_mut (by kernel_rfl)
theorem mu23_28 : tab.mutA 23 28 = true := tab_mut (by kernel_rfl)
theorem mu23_31 : tab.mutA 23 31 = true := tab_mut (by kernel_rfl)
theorem mu23_32 : tab.mutA 23 32 = true := tab_mut (by kernel_rfl)
theorem mu23_33 : tab.mutA 23 33 = true := tab_mut (by kernel_rfl)
theorem mu43_7 : tab.mutA 43 7 = true := tab_mut (by kernel_rfl)
theorem mu43_20 : tab.mutA 43 20 = true := tab_mut (by kernel_rfl)
theorem mu43_22 : tab.mutA 43 22 = true := tab_mut (by kernel_rfl)
theorem mu43_25 : tab.mutA 43 25 = true := tab_mut (by kernel_rfl)
theorem mu43_33 : tab.mutA 43 33 = true := tab_mut (by kernel_rfl)
theorem mu43_55 : tab.mutA 43 55 = true := tab_mut (by kernel_rfl)
theorem mu43_59 : tab.mutA 43 59 = true := tab_mut (by kernel_rfl)
theorem mu43_108 : tab.mutA 43 108 = true := tab_mut (by kernel_rfl)
theorem mu43_112 : tab.mutA 43 112 = true := tab_mut (by kernel_rfl)
theorem mu66_45 : tab.mutA 66 45 = false := tab_mut (by kernel_rfl)
theorem mu23_35 : tab.mutA 23 35 = false := tab_mut (by kernel_rfl)
theorem mu43_26 : tab.mutA 43 26 = false := tab_mut (by kernel_rfl)
theorem mu9_25 : tab.mutA 9 25 = false := tab_mut (by kernel_rfl)
theorem mu63_43 : tab.mutA 63 43 = false := tab_mut (by kernel_rfl)
theorem mu66_63 : tab.mutA 66 63 = false := tab_mut (by kernel_rfl)
theorem mu23_13 : tab.mutA 23 13 = false := tab_mut (by kernel_rfl)
theorem mu23_26 : tab.mutA 23 26 = false := tab_mut (by kernel_rfl)
theorem mu43_13 : tab.mutA 43 13 = false := tab_mut (by kernel_rfl)
theorem mu43_31 : tab.mutA 43 31 = false := tab_mut (by kernel_rfl)
theorem mu9_13 : tab.mutA 9 13 = false := tab_mut (by kernel_rfl)
theorem mu43_12 : tab.mutA 43 12 = false := tab_mut (by kernel_rfl)
theorem mu43_34 : tab.mutA 43 34 = false := tab_mut (by kernel_rfl)
theorem mu43_40 : tab.mutA 43 40 = false := tab_mut (by kernel_rfl)
theorem mu43_43 : tab.mutA 43 43 = false := tab_mut (by kernel_rfl)
theorem mu43_50 : tab.mutA 43 50 = false := tab_mut (by kernel_rfl)
theorem mu43_53 : tab.mutA 43 53 = false := tab_mut (by kernel_rfl)
theorem mu43_60 : tab.mutA 43 60 = false := tab_mut (by kernel_rfl)
theorem mu43_66 : tab.mutA 43 66 = false := tab_mut (by kernel_rfl)
theorem mu43_73 : tab.mutA 43 73 = false := tab_mut (by kernel_rfl)
theorem mu43_76 : tab.mutA 43 76 = false := tab_mut (by kernel_rfl)
theorem mu43_80 : tab.mutA 43 80 = false := tab_mut (by kernel_rfl)
theorem mu43_86 : tab.mutA 43 86 = false := tab_mut (by kernel_rfl)
theorem mu43_91 : tab.mutA 43 91 = false := tab_mut (by kernel_rfl)
theorem mu9_27 : tab.mutA 9 27 = false := tab_mut (by kernel_rfl)
theorem mu96_14 : tab.mutA 96 14 = false := tab_mut (by kernel_rfl)
theorem mu9_35 : tab.mutA 9 35 = false := tab_mut (by kernel_rfl)
theorem mu9_30 : tab.mutA 9 30 = false := tab_mut (by kernel_rfl)
theorem mu96_66 : tab.mutA 96 66 = false := tab_mut (by kernel_rfl)
theorem mu96_19 : tab.mutA 96 19 = false := tab_mut (by kernel_rfl)
theorem mu43_6 : tab.mutA 43 6 = false := tab_mut (by kernel_rfl)
theorem mu43_10 : tab.mutA 43 10 = false := tab_mut (by kernel_rfl)
theorem mu9_14 : tab.mutA 9 14 = false := tab_mut (by kernel_rfl)
theorem ro3_3_clock_go_15 : tab.ro 3 3 "clock.go:15" = true := tab_ro (by kernel_rfl)
theorem ro3_3_mid_go_404 : tab.ro 3 3 "mid.go:404" = false := tab_ro (by kernel_rfl)
theorem ro27_2_clock_go_12 : tab.ro 27 2 "clock.go:12" = true := tab_ro (by kernel_rfl)
theorem ro27_2_clock_go_16 : tab.ro 27 2 "clock.go:16" = true := tab_ro (by kernel_rfl)
theorem ro27_2_mid_go_411 : tab.ro 27 2 "mid.go:411" = true := tab_ro (by kernel_rfl)
theorem ro27_3_clock_go_12 : tab.ro 27 3 "clock.go:12" = true := tab_ro (by kernel_rfl)
theorem ro27_3_clock_go_38 : tab.ro 27 3 "clock.go:38" = true := tab_ro (by kernel_rfl)
theorem ro27_4_sort_go_152 : tab.ro 27 4 "sort.go:152" = true := tab_ro (by kernel_rfl)
theorem ro47_3_raw_go_53 : tab.ro 47 3 "raw.go:53" = false := tab_ro (by kernel_rfl)
theorem ro47_5_mid_go_493 : tab.ro 47 5 "mid.go:493" = true := tab_ro (by kernel_rfl)
theorem ro52_1_value_go_14 : tab.ro 52 1 "value.go:14" = false := tab_ro (by kernel_rfl)
theorem ro52_1_value_go_68 : tab.ro 52 1 "value.go:68" = false := tab_ro (by kernel_rfl)
theorem ro52_5_net_go_52 : tab.ro 52 5 "net.go:52" = true := tab_ro (by kernel_rfl)
theorem ro68_2_low_go_142 : tab.ro 68 2 "low.go:142" = false := tab_ro (by kernel_rfl)
theorem ro68_3_low_go_142 : tab.ro 68 3 "low.go:142" = false := tab_ro (by kernel_rfl)
theorem rs3 : Try.f3.results.toList = [.tmp 2] := rfl
theorem rs4 : Try.f4.results.toList = [.tmp 4] := rfl
theorem rs5 : Try.f5.results.toList = [.tmp 6] := rfl
theorem rs6 : Try.f6.results.toList = [.tmp 4] := rfl
theorem rs7 : Try.f7.results.toList = [.tmp 6] := rfl
theorem rs8 : Try.f8.results.toList = [.tmp 4] := rfl
theorem rs9 : Try.f9.results.toList = [.tmp 6] := rfl
theorem rs10 : Try.f10.results.toList = [.tmp 4] := rfl
theorem rs11 : Try.f11.results.toList = [.tmp 2] := rfl
theorem rs12 : Try.f12.results.toList = [.tmp 2, .tmp 3] := rfl
theorem rs13 : Try.f13.results.toList = [.tmp 2] := rfl
theorem rs14 : Try.f14.results.toList = [.tmp 4, .tmp 5] := rfl
theorem rs15 : Try.f15.results.toList = [.tmp 4] := rfl
theorem rs16 : Try.f16.results.toList = [.tmp 4, .tmp 5] := rfl
theorem rs17 : Try.f17.results.toList = [.tmp 4] := rfl
theorem rs18 : Try.f18.results.toList = [.tmp 4, .tmp 5, .tmp 6] := rfl
theorem rs19 : Try.f19.results.toList = [.tmp 2] := rfl
theorem rs20 : Try.f20.results.toList = [.tmp 4] := rfl
theorem rs21 : Try.f21.results.toList = [.tmp 3] := rfl
theorem rs22 : Try.f22.results.toList = [.tmp 3] := rfl
theorem rs23 : Try.f23.results.toList = [.tmp 2] := rfl
theorem rs24 : Try.f24.results.toList = [.tmp 2] := rfl
theorem rs25 : Try.f25.results.toList = [.tmp 4, .tmp 5] := rfl
theorem rs26 : Try.f26.results.toList = [.tmp 4] := rfl
theorem rs27 : Try.f27.results.toList = [.tmp 4, .tmp 5] := rfl
theorem rs28 : Try.f28.results.toList = [.tmp 2] := rfl
theorem rs29 : Try.f29.results.toList = [.cell 4 52] := rfl
theorem rs30 : Try.f30.results.toList = [.cell 4 54, .tmp 5, .tmp 6] := rfl
theorem rs31 : Try.f31.results.toList = [.tmp 6, .tmp 7] := rfl
theorem rs32 : Try.f32.results.toList = [.tmp 4, .tmp 5] := rfl
theorem rs33 : Try.f33.results.toList = [.tmp 2, .tmp 3, .tmp 4] := rfl
theorem rs34 : Try.f34.results.toList = [.tmp 4] := rfl
theorem rs35 : Try.f35.results.toList = [.tmp 6] := rfl
theorem rs36 : Try.f36.results.toList = [.tmp 4] := rfl
theorem rs37 : Try.f37.results.toList = [.tmp 4] := rfl
theorem rs38 : Try.f38.results.toList = [.tmp 4] := rfl
theorem rs39 : Try.f39.results.toList = [.tmp 6, .tmp 7] := rfl
theorem rs40 : Try.f40.results.toList = [.tmp 2] := rfl
theorem rs41 : Try.f41.results.toList = [.tmp 6] := rfl
theorem rs42 : Try.f42.results.toList = [.tmp 4] := rfl
theorem rs43 : Try.f43.results.toList = [.tmp 4] := rfl
theorem rs44 : Try.f44.results.toList = [.cell 4 54, .tmp 5] := rfl
theorem rs45 : Try.f45.results.toList = [.tmp 2] := rfl
theorem rs46 : Try.f46.results.toList = [.tmp 6] := rfl
theorem rs47 : Try.f47.results.toList = [.tmp 2] := rfl
theorem rs48 : Try.f48.results.toList = [.tmp 4] := rfl
theorem rs49 : Try.f49.results.toList = [.tmp 4] := rfl
theorem rs50 : Try.f50.results.toList = [.tmp 2] := rfl
theorem rs51 : Try.f51.results.toList = [.tmp 6] := rfl
theorem rs52 : Try.f52.results.toList = [.cell 2 68, .tmp 3] := rfl
theorem rs53 : Try.f53.results.toList = [] := rfl
theorem rs54 : Try.f54.results.toList = [.tmp 4, .tmp 5] := rfl
theorem rs55 : Try.f55.results.toList = [.tmp 2] := rfl
theorem rs56 : Try.f56.results.toList = [.tmp 3] := rfl
theorem rs57 : Try.f57.results.toList = [.tmp 2] := rfl
theorem rs58 : Try.f58.results.toList = [.tmp 4] := rfl
theorem rs59 : Try.f59.results.toList = [.tmp 2] := rfl
theorem rs61 : Try.f61.results.toList = [] := rfl
theorem rs62 : Try.f62.results.toList = [.tmp 2] := rfl
theorem rs63 : Try.f63.results.toList = [.cell 2 68, .tmp 3] := rfl
theorem rs64 : Try.f64.results.toList = [.tmp 2] := rfl
theorem rs65 : Try.f65.results.toList = [.tmp 4] := rfl
theorem rs66 : Try.f66.results.toList = [.tmp 2] := rfl
theorem rs67 : Try.f67.results.toList = [.cell 2 68, .tmp 3] := rfl
theorem rs68 : Try.f68.results.toList = [.tmp 4] := rfl
theorem rs69 : Try.f69.results.toList = [] := rfl
theorem rs70 : Try.f70.results.toList = [] := rfl
theorem rs71 : Try.f71.results.toList = [.tmp 2] := rfl
theorem rs72 : Try.f72.results.toList = [.tmp 2] := rfl
theorem rs73 : Try.f73.results.toList = [.tmp 2] := rfl
theorem rs74 : Try.f74.results.toList = [] := rfl
theorem rs75 : Try.f75.results.toList = [.tmp 4] := rfl
theorem rs78 : Try.f78.results.toList = [] := rfl
end Go.Proofs.Ytghjhlngaigdiaa.Am
