/- The table's entries, one by one. Printed by genty.py. -/
import Derived.Test.YthnlmhibbmogeaaAmRule
set_option linter.unusedVariables false
set_option linter.unusedSimpArgs false
namespace Go.Proofs.Ythnlmhibbmogeaa.Am
open Go Go.RowKit
set_option maxRecDepth 100000
theorem und2 : tab.und 2 = some (.int .i64) := (tab_und 2).trans Try.underlying2
theorem sz2 : size tab 2 = some 1 := by simp only [size, inf2, Option.map]
theorem ag2 : isAgg tab 2 = some false := by simp only [isAgg, und2]
theorem und3 : tab.und 3 = some (.int .i64) := (tab_und 3).trans Try.underlying3
theorem sz3 : size tab 3 = some 1 := by simp only [size, inf3, Option.map]
theorem ag3 : isAgg tab 3 = some false := by simp only [isAgg, und3]
theorem und4 : tab.und 4 = some (.bool) := (tab_und 4).trans Try.underlying4
theorem sz4 : size tab 4 = some 1 := by simp only [size, inf4, Option.map]
theorem ag4 : isAgg tab 4 = some false := by simp only [isAgg, und4]
theorem und5 : tab.und 5 = some (.int .u8) := (tab_und 5).trans Try.underlying5
theorem sz5 : size tab 5 = some 1 := by simp only [size, inf5, Option.map]
theorem ag5 : isAgg tab 5 = some false := by simp only [isAgg, und5]
theorem und6 : tab.und 6 = some (.int .u8) := (tab_und 6).trans Try.underlying6
theorem sz6 : size tab 6 = some 1 := by simp only [size, inf6, Option.map]
theorem ag6 : isAgg tab 6 = some false := by simp only [isAgg, und6]
theorem und7 : tab.und 7 = some (.struct #[{ name := "x", type := 2, offset := 0, embedded := false, tag := "", pkgPath := "runtime", byteOffset := 0 }, { name := "y", type := 3, offset := 1, embedded := false, tag := "", pkgPath := "runtime", byteOffset := 8 }, { name := "signed", type := 4, offset := 2, embedded := false, tag := "", pkgPath := "runtime", byteOffset := 16 }, { name := "code", type := 6, offset := 3, embedded := false, tag := "", pkgPath := "runtime", byteOffset := 17 }]) := (tab_und 7).trans Try.underlying7
theorem sz7 : size tab 7 = some 4 := by simp only [size, inf7, Option.map]
theorem ag7 : isAgg tab 7 = some true := by simp only [isAgg, und7]
theorem fo7 : fieldsOf tab 7 = some [{ name := "x", type := 2, offset := 0, embedded := false, tag := "", pkgPath := "runtime", byteOffset := 0 }, { name := "y", type := 3, offset := 1, embedded := false, tag := "", pkgPath := "runtime", byteOffset := 8 }, { name := "signed", type := 4, offset := 2, embedded := false, tag := "", pkgPath := "runtime", byteOffset := 16 }, { name := "code", type := 6, offset := 3, embedded := false, tag := "", pkgPath := "runtime", byteOffset := 17 }] := by simp only [fieldsOf, und7]
theorem pl7 : placesL tab [{ name := "x", type := 2, offset := 0, embedded := false, tag := "", pkgPath := "runtime", byteOffset := 0 }, { name := "y", type := 3, offset := 1, embedded := false, tag := "", pkgPath := "runtime", byteOffset := 8 }, { name := "signed", type := 4, offset := 2, embedded := false, tag := "", pkgPath := "runtime", byteOffset := 16 }, { name := "code", type := 6, offset := 3, embedded := false, tag := "", pkgPath := "runtime", byteOffset := 17 }] = some [(0, 1), (1, 1), (2, 1), (3, 1)] := by simp only [placesL, sz2, sz3, sz4, sz6]
theorem bA7 {z : List AV} {ps : List (Nat × AV)} : buildA tab 7 z ps = fillA (fun i => [(0, 1), (1, 1), (2, 1), (3, 1)][i]?) z ps := bA_struct und7 pl7
theorem pT7_0 : partType tab 7 0 = 2 := by simp only [partType, und7]; rfl
theorem pT7_1 : partType tab 7 1 = 3 := by simp only [partType, und7]; rfl
theorem pT7_2 : partType tab 7 2 = 4 := by simp only [partType, und7]; rfl
theorem pT7_3 : partType tab 7 3 = 6 := by simp only [partType, und7]; rfl
theorem und8 : tab.und 8 = some (.struct #[{ name := "x", type := 2, offset := 0, embedded := false, tag := "", pkgPath := "runtime", byteOffset := 0 }, { name := "y", type := 3, offset := 1, embedded := false, tag := "", pkgPath := "runtime", byteOffset := 8 }, { name := "signed", type := 4, offset := 2, embedded := false, tag := "", pkgPath := "runtime", byteOffset := 16 }, { name := "code", type := 6, offset := 3, embedded := false, tag := "", pkgPath := "runtime", byteOffset := 17 }]) := (tab_und 8).trans Try.underlying8
theorem sz8 : size tab 8 = some 4 := by simp only [size, inf8, Option.map]
theorem ag8 : isAgg tab 8 = some true := by simp only [isAgg, und8]
theorem fo8 : fieldsOf tab 8 = some [{ name := "x", type := 2, offset := 0, embedded := false, tag := "", pkgPath := "runtime", byteOffset := 0 }, { name := "y", type := 3, offset := 1, embedded := false, tag := "", pkgPath := "runtime", byteOffset := 8 }, { name := "signed", type := 4, offset := 2, embedded := false, tag := "", pkgPath := "runtime", byteOffset := 16 }, { name := "code", type := 6, offset := 3, embedded := false, tag := "", pkgPath := "runtime", byteOffset := 17 }] := by simp only [fieldsOf, und8]
theorem pl8 : placesL tab [{ name := "x", type := 2, offset := 0, embedded := false, tag := "", pkgPath := "runtime", byteOffset := 0 }, { name := "y", type := 3, offset := 1, embedded := false, tag := "", pkgPath := "runtime", byteOffset := 8 }, { name := "signed", type := 4, offset := 2, embedded := false, tag := "", pkgPath := "runtime", byteOffset := 16 }, { name := "code", type := 6, offset := 3, embedded := false, tag := "", pkgPath := "runtime", byteOffset := 17 }] = some [(0, 1), (1, 1), (2, 1), (3, 1)] := by simp only [placesL, sz2, sz3, sz4, sz6]
theorem bA8 {z : List AV} {ps : List (Nat × AV)} : buildA tab 8 z ps = fillA (fun i => [(0, 1), (1, 1), (2, 1), (3, 1)][i]?) z ps := bA_struct und8 pl8
theorem pT8_0 : partType tab 8 0 = 2 := by simp only [partType, und8]; rfl
theorem pT8_1 : partType tab 8 1 = 3 := by simp only [partType, und8]; rfl
theorem pT8_2 : partType tab 8 2 = 4 := by simp only [partType, und8]; rfl
theorem pT8_3 : partType tab 8 3 = 6 := by simp only [partType, und8]; rfl
theorem und9 : tab.und 9 = some (.string) := (tab_und 9).trans Try.underlying9
theorem sz9 : size tab 9 = some 1 := by simp only [size, inf9, Option.map]
theorem ag9 : isAgg tab 9 = some false := by simp only [isAgg, und9]
theorem und10 : tab.und 10 = some (.string) := (tab_und 10).trans Try.underlying10
theorem sz10 : size tab 10 = some 1 := by simp only [size, inf10, Option.map]
theorem ag10 : isAgg tab 10 = some false := by simp only [isAgg, und10]
theorem und11 : tab.und 11 = some (.string) := (tab_und 11).trans Try.underlying11
theorem sz11 : size tab 11 = some 1 := by simp only [size, inf11, Option.map]
theorem ag11 : isAgg tab 11 = some false := by simp only [isAgg, und11]
theorem und12 : tab.und 12 = some (.int .u64) := (tab_und 12).trans Try.underlying12
theorem sz12 : size tab 12 = some 1 := by simp only [size, inf12, Option.map]
theorem ag12 : isAgg tab 12 = some false := by simp only [isAgg, und12]
theorem und13 : tab.und 13 = some (.struct #[{ name := "msg", type := 9, offset := 0, embedded := false, tag := "", pkgPath := "runtime", byteOffset := 0 }, { name := "addr", type := 12, offset := 1, embedded := false, tag := "", pkgPath := "runtime", byteOffset := 16 }]) := (tab_und 13).trans Try.underlying13
theorem sz13 : size tab 13 = some 2 := by simp only [size, inf13, Option.map]
theorem ag13 : isAgg tab 13 = some true := by simp only [isAgg, und13]
theorem fo13 : fieldsOf tab 13 = some [{ name := "msg", type := 9, offset := 0, embedded := false, tag := "", pkgPath := "runtime", byteOffset := 0 }, { name := "addr", type := 12, offset := 1, embedded := false, tag := "", pkgPath := "runtime", byteOffset := 16 }] := by simp only [fieldsOf, und13]
theorem pl13 : placesL tab [{ name := "msg", type := 9, offset := 0, embedded := false, tag := "", pkgPath := "runtime", byteOffset := 0 }, { name := "addr", type := 12, offset := 1, embedded := false, tag := "", pkgPath := "runtime", byteOffset := 16 }] = some [(0, 1), (1, 1)] := by simp only [placesL, sz12, sz9]
theorem bA13 {z : List AV} {ps : List (Nat × AV)} : buildA tab 13 z ps = fillA (fun i => [(0, 1), (1, 1)][i]?) z ps := bA_struct und13 pl13
theorem pT13_0 : partType tab 13 0 = 9 := by simp only [partType, und13]; rfl
theorem pT13_1 : partType tab 13 1 = 12 := by simp only [partType, und13]; rfl
theorem und14 : tab.und 14 = some (.struct #[{ name := "msg", type := 9, offset := 0, embedded := false, tag := "", pkgPath := "runtime", byteOffset := 0 }, { name := "addr", type := 12, offset := 1, embedded := false, tag := "", pkgPath := "runtime", byteOffset := 16 }]) := (tab_und 14).trans Try.underlying14
theorem sz14 : size tab 14 = some 2 := by simp only [size, inf14, Option.map]
theorem ag14 : isAgg tab 14 = some true := by simp only [isAgg, und14]
theorem fo14 : fieldsOf tab 14 = some [{ name := "msg", type := 9, offset := 0, embedded := false, tag := "", pkgPath := "runtime", byteOffset := 0 }, { name := "addr", type := 12, offset := 1, embedded := false, tag := "", pkgPath := "runtime", byteOffset := 16 }] := by simp only [fieldsOf, und14]
theorem pl14 : placesL tab [{ name := "msg", type := 9, offset := 0, embedded := false, tag := "", pkgPath := "runtime", byteOffset := 0 }, { name := "addr", type := 12, offset := 1, embedded := false, tag := "", pkgPath := "runtime", byteOffset := 16 }] = some [(0, 1), (1, 1)] := by simp only [placesL, sz12, sz9]
theorem bA14 {z : List AV} {ps : List (Nat × AV)} : buildA tab 14 z ps = fillA (fun i => [(0, 1), (1, 1)][i]?) z ps := bA_struct und14 pl14
theorem pT14_0 : partType tab 14 0 = 9 := by simp only [partType, und14]; rfl
theorem pT14_1 : partType tab 14 1 = 12 := by simp only [partType, und14]; rfl
theorem und21 : tab.und 21 = some (.int .i32) := (tab_und 21).trans Try.underlying21
theorem sz21 : size tab 21 = some 1 := by simp only [size, inf21, Option.map]
theorem ag21 : isAgg tab 21 = some false := by simp only [isAgg, und21]
theorem und22 : tab.und 22 = some (.slice 27) := (tab_und 22).trans Try.underlying22
theorem sz22 : size tab 22 = some 1 := by simp only [size, inf22, Option.map]
theorem ag22 : isAgg tab 22 = some false := by simp only [isAgg, und22]
theorem pT22 {i : Nat} : partType tab 22 i = 27 := by simp only [partType, und22]
theorem und23 : tab.und 23 = some (.slice 36) := (tab_und 23).trans Try.underlying23
theorem sz23 : size tab 23 = some 1 := by simp only [size, inf23, Option.map]
theorem ag23 : isAgg tab 23 = some false := by simp only [isAgg, und23]
theorem pT23 {i : Nat} : partType tab 23 i = 36 := by simp only [partType, und23]
theorem und26 : tab.und 26 = some (.struct #[{ name := "Kind", type := 3, offset := 0, embedded := false, tag := "", pkgPath := "", byteOffset := 0 }, { name := "A", type := 3, offset := 1, embedded := false, tag := "", pkgPath := "", byteOffset := 8 }, { name := "B", type := 3, offset := 2, embedded := false, tag := "", pkgPath := "", byteOffset := 16 }, { name := "Text", type := 9, offset := 3, embedded := false, tag := "", pkgPath := "", byteOffset := 24 }]) := (tab_und 26).trans Try.underlying26
theorem sz26 : size tab 26 = some 4 := by simp only [size, inf26, Option.map]
theorem ag26 : isAgg tab 26 = some true := by simp only [isAgg, und26]
theorem fo26 : fieldsOf tab 26 = some [{ name := "Kind", type := 3, offset := 0, embedded := false, tag := "", pkgPath := "", byteOffset := 0 }, { name := "A", type := 3, offset := 1, embedded := false, tag := "", pkgPath := "", byteOffset := 8 }, { name := "B", type := 3, offset := 2, embedded := false, tag := "", pkgPath := "", byteOffset := 16 }, { name := "Text", type := 9, offset := 3, embedded := false, tag := "", pkgPath := "", byteOffset := 24 }] := by simp only [fieldsOf, und26]
theorem pl26 : placesL tab [{ name := "Kind", type := 3, offset := 0, embedded := false, tag := "", pkgPath := "", byteOffset := 0 }, { name := "A", type := 3, offset := 1, embedded := false, tag := "", pkgPath := "", byteOffset := 8 }, { name := "B", type := 3, offset := 2, embedded := false, tag := "", pkgPath := "", byteOffset := 16 }, { name := "Text", type := 9, offset := 3, embedded := false, tag := "", pkgPath := "", byteOffset := 24 }] = some [(0, 1), (1, 1), (2, 1), (3, 1)] := by simp only [placesL, sz3, sz9]
theorem bA26 {z : List AV} {ps : List (Nat × AV)} : buildA tab 26 z ps = fillA (fun i => [(0, 1), (1, 1), (2, 1), (3, 1)][i]?) z ps := bA_struct und26 pl26
theorem pT26_0 : partType tab 26 0 = 3 := by simp only [partType, und26]; rfl
theorem pT26_1 : partType tab 26 1 = 3 := by simp only [partType, und26]; rfl
theorem pT26_2 : partType tab 26 2 = 3 := by simp only [partType, und26]; rfl
theorem pT26_3 : partType tab 26 3 = 9 := by simp only [partType, und26]; rfl
theorem und27 : tab.und 27 = some (.struct #[{ name := "Kind", type := 3, offset := 0, embedded := false, tag := "", pkgPath := "", byteOffset := 0 }, { name := "A", type := 3, offset := 1, embedded := false, tag := "", pkgPath := "", byteOffset := 8 }, { name := "B", type := 3, offset := 2, embedded := false, tag := "", pkgPath := "", byteOffset := 16 }, { name := "Text", type := 9, offset := 3, embedded := false, tag := "", pkgPath := "", byteOffset := 24 }]) := (tab_und 27).trans Try.underlying27
theorem sz27 : size tab 27 = some 4 := by simp only [size, inf27, Option.map]
theorem ag27 : isAgg tab 27 = some true := by simp only [isAgg, und27]
theorem fo27 : fieldsOf tab 27 = some [{ name := "Kind", type := 3, offset := 0, embedded := false, tag := "", pkgPath := "", byteOffset := 0 }, { name := "A", type := 3, offset := 1, embedded := false, tag := "", pkgPath := "", byteOffset := 8 }, { name := "B", type := 3, offset := 2, embedded := false, tag := "", pkgPath := "", byteOffset := 16 }, { name := "Text", type := 9, offset := 3, embedded := false, tag := "", pkgPath := "", byteOffset := 24 }] := by simp only [fieldsOf, und27]
theorem pl27 : placesL tab [{ name := "Kind", type := 3, offset := 0, embedded := false, tag := "", pkgPath := "", byteOffset := 0 }, { name := "A", type := 3, offset := 1, embedded := false, tag := "", pkgPath := "", byteOffset := 8 }, { name := "B", type := 3, offset := 2, embedded := false, tag := "", pkgPath := "", byteOffset := 16 }, { name := "Text", type := 9, offset := 3, embedded := false, tag := "", pkgPath := "", byteOffset := 24 }] = some [(0, 1), (1, 1), (2, 1), (3, 1)] := by simp only [placesL, sz3, sz9]
theorem bA27 {z : List AV} {ps : List (Nat × AV)} : buildA tab 27 z ps = fillA (fun i => [(0, 1), (1, 1), (2, 1), (3, 1)][i]?) z ps := bA_struct und27 pl27
theorem pT27_0 : partType tab 27 0 = 3 := by simp only [partType, und27]; rfl
theorem pT27_1 : partType tab 27 1 = 3 := by simp only [partType, und27]; rfl
theorem pT27_2 : partType tab 27 2 = 3 := by simp only [partType, und27]; rfl
theorem pT27_3 : partType tab 27 3 = 9 := by simp only [partType, und27]; rfl
theorem und29 : tab.und 29 = some (.int .i64) := (tab_und 29).trans Try.underlying29
theorem sz29 : size tab 29 = some 1 := by simp only [size, inf29, Option.map]
theorem ag29 : isAgg tab 29 = some false := by simp only [isAgg, und29]
theorem und33 : tab.und 33 = some (.struct #[{ name := "Kind", type := 3, offset := 0, embedded := false, tag := "", pkgPath := "", byteOffset := 0 }, { name := "N", type := 3, offset := 1, embedded := false, tag := "", pkgPath := "", byteOffset := 8 }, { name := "S", type := 9, offset := 2, embedded := false, tag := "", pkgPath := "", byteOffset := 16 }]) := (tab_und 33).trans Try.underlying33
theorem sz33 : size tab 33 = some 3 := by simp only [size, inf33, Option.map]
theorem ag33 : isAgg tab 33 = some true := by simp only [isAgg, und33]
theorem fo33 : fieldsOf tab 33 = some [{ name := "Kind", type := 3, offset := 0, embedded := false, tag := "", pkgPath := "", byteOffset := 0 }, { name := "N", type := 3, offset := 1, embedded := false, tag := "", pkgPath := "", byteOffset := 8 }, { name := "S", type := 9, offset := 2, embedded := false, tag := "", pkgPath := "", byteOffset := 16 }] := by simp only [fieldsOf, und33]
theorem pl33 : placesL tab [{ name := "Kind", type := 3, offset := 0, embedded := false, tag := "", pkgPath := "", byteOffset := 0 }, { name := "N", type := 3, offset := 1, embedded := false, tag := "", pkgPath := "", byteOffset := 8 }, { name := "S", type := 9, offset := 2, embedded := false, tag := "", pkgPath := "", byteOffset := 16 }] = some [(0, 1), (1, 1), (2, 1)] := by simp only [placesL, sz3, sz9]
theorem bA33 {z : List AV} {ps : List (Nat × AV)} : buildA tab 33 z ps = fillA (fun i => [(0, 1), (1, 1), (2, 1)][i]?) z ps := bA_struct und33 pl33
theorem pT33_0 : partType tab 33 0 = 3 := by simp only [partType, und33]; rfl
theorem pT33_1 : partType tab 33 1 = 3 := by simp only [partType, und33]; rfl
theorem pT33_2 : partType tab 33 2 = 9 := by simp only [partType, und33]; rfl
theorem und34 : tab.und 34 = some (.struct #[{ name := "Kind", type := 3, offset := 0, embedded := false, tag := "", pkgPath := "", byteOffset := 0 }, { name := "N", type := 3, offset := 1, embedded := false, tag := "", pkgPath := "", byteOffset := 8 }, { name := "S", type := 9, offset := 2, embedded := false, tag := "", pkgPath := "", byteOffset := 16 }]) := (tab_und 34).trans Try.underlying34
theorem sz34 : size tab 34 = some 3 := by simp only [size, inf34, Option.map]
theorem ag34 : isAgg tab 34 = some true := by simp only [isAgg, und34]
theorem fo34 : fieldsOf tab 34 = some [{ name := "Kind", type := 3, offset := 0, embedded := false, tag := "", pkgPath := "", byteOffset := 0 }, { name := "N", type := 3, offset := 1, embedded := false, tag := "", pkgPath := "", byteOffset := 8 }, { name := "S", type := 9, offset := 2, embedded := false, tag := "", pkgPath := "", byteOffset := 16 }] := by simp only [fieldsOf, und34]
theorem pl34 : placesL tab [{ name := "Kind", type := 3, offset := 0, embedded := false, tag := "", pkgPath := "", byteOffset := 0 }, { name := "N", type := 3, offset := 1, embedded := false, tag := "", pkgPath := "", byteOffset := 8 }, { name := "S", type := 9, offset := 2, embedded := false, tag := "", pkgPath := "", byteOffset := 16 }] = some [(0, 1), (1, 1), (2, 1)] := by simp only [placesL, sz3, sz9]
theorem bA34 {z : List AV} {ps : List (Nat × AV)} : buildA tab 34 z ps = fillA (fun i => [(0, 1), (1, 1), (2, 1)][i]?) z ps := bA_struct und34 pl34
theorem pT34_0 : partType tab 34 0 = 3 := by simp only [partType, und34]; rfl
theorem pT34_1 : partType tab 34 1 = 3 := by simp only [partType, und34]; rfl
theorem pT34_2 : partType tab 34 2 = 9 := by simp only [partType, und34]; rfl
theorem und35 : tab.und 35 = some (.struct #[{ name := "Field", type := 9, offset := 0, embedded := false, tag := "", pkgPath := "", byteOffset := 0 }, { name := "ID", type := 3, offset := 1, embedded := false, tag := "", pkgPath := "", byteOffset := 16 }, { name := "Key", type := 34, offset := 2, embedded := false, tag := "", pkgPath := "", byteOffset := 24 }, { name := "Answer", type := 34, offset := 5, embedded := false, tag := "", pkgPath := "", byteOffset := 56 }]) := (tab_und 35).trans Try.underlying35
theorem sz35 : size tab 35 = some 8 := by simp only [size, inf35, Option.map]
theorem ag35 : isAgg tab 35 = some true := by simp only [isAgg, und35]
theorem fo35 : fieldsOf tab 35 = some [{ name := "Field", type := 9, offset := 0, embedded := false, tag := "", pkgPath := "", byteOffset := 0 }, { name := "ID", type := 3, offset := 1, embedded := false, tag := "", pkgPath := "", byteOffset := 16 }, { name := "Key", type := 34, offset := 2, embedded := false, tag := "", pkgPath := "", byteOffset := 24 }, { name := "Answer", type := 34, offset := 5, embedded := false, tag := "", pkgPath := "", byteOffset := 56 }] := by simp only [fieldsOf, und35]
theorem pl35 : placesL tab [{ name := "Field", type := 9, offset := 0, embedded := false, tag := "", pkgPath := "", byteOffset := 0 }, { name := "ID", type := 3, offset := 1, embedded := false, tag := "", pkgPath := "", byteOffset := 16 }, { name := "Key", type := 34, offset := 2, embedded := false, tag := "", pkgPath := "", byteOffset := 24 }, { name := "Answer", type := 34, offset := 5, embedded := false, tag := "", pkgPath := "", byteOffset := 56 }] = some [(0, 1), (1, 1), (2, 3), (5, 3)] := by simp only [placesL, sz3, sz34, sz9]
theorem bA35 {z : List AV} {ps : List (Nat × AV)} : buildA tab 35 z ps = fillA (fun i => [(0, 1), (1, 1), (2, 3), (5, 3)][i]?) z ps := bA_struct und35 pl35
theorem pT35_0 : partType tab 35 0 = 9 := by simp only [partType, und35]; rfl
theorem pT35_1 : partType tab 35 1 = 3 := by simp only [partType, und35]; rfl
theorem pT35_2 : partType tab 35 2 = 34 := by simp only [partType, und35]; rfl
theorem pT35_3 : partType tab 35 3 = 34 := by simp only [partType, und35]; rfl
theorem und36 : tab.und 36 = some (.struct #[{ name := "Field", type := 9, offset := 0, embedded := false, tag := "", pkgPath := "", byteOffset := 0 }, { name := "ID", type := 3, offset := 1, embedded := false, tag := "", pkgPath := "", byteOffset := 16 }, { name := "Key", type := 34, offset := 2, embedded := false, tag := "", pkgPath := "", byteOffset := 24 }, { name := "Answer", type := 34, offset := 5, embedded := false, tag := "", pkgPath := "", byteOffset := 56 }]) := (tab_und 36).trans Try.underlying36
theorem sz36 : size tab 36 = some 8 := by simp only [size, inf36, Option.map]
theorem ag36 : isAgg tab 36 = some true := by simp only [isAgg, und36]
theorem fo36 : fieldsOf tab 36 = some [{ name := "Field", type := 9, offset := 0, embedded := false, tag := "", pkgPath := "", byteOffset := 0 }, { name := "ID", type := 3, offset := 1, embedded := false, tag := "", pkgPath := "", byteOffset := 16 }, { name := "Key", type := 34, offset := 2, embedded := false, tag := "", pkgPath := "", byteOffset := 24 }, { name := "Answer", type := 34, offset := 5, embedded := false, tag := "", pkgPath := "", byteOffset := 56 }] := by simp only [fieldsOf, und36]
theorem pl36 : placesL tab [{ name := "Field", type := 9, offset := 0, embedded := false, tag := "", pkgPath := "", byteOffset := 0 }, { name := "ID", type := 3, offset := 1, embedded := false, tag := "", pkgPath := "", byteOffset := 16 }, { name := "Key", type := 34, offset := 2, embedded := false, tag := "", pkgPath := "", byteOffset := 24 }, { name := "Answer", type := 34, offset := 5, embedded := false, tag := "", pkgPath := "", byteOffset := 56 }] = some [(0, 1), (1, 1), (2, 3), (5, 3)] := by simp only [placesL, sz3, sz34, sz9]
theorem bA36 {z : List AV} {ps : List (Nat × AV)} : buildA tab 36 z ps = fillA (fun i => [(0, 1), (1, 1), (2, 3), (5, 3)][i]?) z ps := bA_struct und36 pl36
theorem pT36_0 : partType tab 36 0 = 9 := by simp only [partType, und36]; rfl
theorem pT36_1 : partType tab 36 1 = 3 := by simp only [partType, und36]; rfl
theorem pT36_2 : partType tab 36 2 = 34 := by simp only [partType, und36]; rfl
theorem pT36_3 : partType tab 36 3 = 34 := by simp only [partType, und36]; rfl
theorem und41 : tab.und 41 = some (.struct #[{ name := "Tries", type := 3, offset := 0, embedded := false, tag := "", pkgPath := "", byteOffset := 0 }, { name := "Base", type := 3, offset := 1, embedded := false, tag := "", pkgPath := "", byteOffset := 8 }, { name := "Cap", type := 3, offset := 2, embedded := false, tag := "", pkgPath := "", byteOffset := 16 }]) := (tab_und 41).trans Try.underlying41
theorem sz41 : size tab 41 = some 3 := by simp only [size, inf41, Option.map]
theorem ag41 : isAgg tab 41 = some true := by simp only [isAgg, und41]
theorem fo41 : fieldsOf tab 41 = some [{ name := "Tries", type := 3, offset := 0, embedded := false, tag := "", pkgPath := "", byteOffset := 0 }, { name := "Base", type := 3, offset := 1, embedded := false, tag := "", pkgPath := "", byteOffset := 8 }, { name := "Cap", type := 3, offset := 2, embedded := false, tag := "", pkgPath := "", byteOffset := 16 }] := by simp only [fieldsOf, und41]
theorem pl41 : placesL tab [{ name := "Tries", type := 3, offset := 0, embedded := false, tag := "", pkgPath := "", byteOffset := 0 }, { name := "Base", type := 3, offset := 1, embedded := false, tag := "", pkgPath := "", byteOffset := 8 }, { name := "Cap", type := 3, offset := 2, embedded := false, tag := "", pkgPath := "", byteOffset := 16 }] = some [(0, 1), (1, 1), (2, 1)] := by simp only [placesL, sz3]
theorem bA41 {z : List AV} {ps : List (Nat × AV)} : buildA tab 41 z ps = fillA (fun i => [(0, 1), (1, 1), (2, 1)][i]?) z ps := bA_struct und41 pl41
theorem pT41_0 : partType tab 41 0 = 3 := by simp only [partType, und41]; rfl
theorem pT41_1 : partType tab 41 1 = 3 := by simp only [partType, und41]; rfl
theorem pT41_2 : partType tab 41 2 = 3 := by simp only [partType, und41]; rfl
theorem und42 : tab.und 42 = some (.struct #[{ name := "Tries", type := 3, offset := 0, embedded := false, tag := "", pkgPath := "", byteOffset := 0 }, { name := "Base", type := 3, offset := 1, embedded := false, tag := "", pkgPath := "", byteOffset := 8 }, { name := "Cap", type := 3, offset := 2, embedded := false, tag := "", pkgPath := "", byteOffset := 16 }]) := (tab_und 42).trans Try.underlying42
theorem sz42 : size tab 42 = some 3 := by simp only [size, inf42, Option.map]
theorem ag42 : isAgg tab 42 = some true := by simp only [isAgg, und42]
theorem fo42 : fieldsOf tab 42 = some [{ name := "Tries", type := 3, offset := 0, embedded := false, tag := "", pkgPath := "", byteOffset := 0 }, { name := "Base", type := 3, offset := 1, embedded := false, tag := "", pkgPath := "", byteOffset := 8 }, { name := "Cap", type := 3, offset := 2, embedded := false, tag := "", pkgPath := "", byteOffset := 16 }] := by simp only [fieldsOf, und42]
theorem pl42 : placesL tab [{ name := "Tries", type := 3, offset := 0, embedded := false, tag := "", pkgPath := "", byteOffset := 0 }, { name := "Base", type := 3, offset := 1, embedded := false, tag := "", pkgPath := "", byteOffset := 8 }, { name := "Cap", type := 3, offset := 2, embedded := false, tag := "", pkgPath := "", byteOffset := 16 }] = some [(0, 1), (1, 1), (2, 1)] := by simp only [placesL, sz3]
theorem bA42 {z : List AV} {ps : List (Nat × AV)} : buildA tab 42 z ps = fillA (fun i => [(0, 1), (1, 1), (2, 1)][i]?) z ps := bA_struct und42 pl42
theorem pT42_0 : partType tab 42 0 = 3 := by simp only [partType, und42]; rfl
theorem pT42_1 : partType tab 42 1 = 3 := by simp only [partType, und42]; rfl
theorem pT42_2 : partType tab 42 2 = 3 := by simp only [partType, und42]; rfl
theorem und45 : tab.und 45 = some (.struct #[{ name := "State", type := 3, offset := 0, embedded := false, tag := "", pkgPath := "", byteOffset := 0 }, { name := "ID", type := 3, offset := 1, embedded := false, tag := "", pkgPath := "", byteOffset := 8 }, { name := "Tries", type := 3, offset := 2, embedded := false, tag := "", pkgPath := "", byteOffset := 16 }, { name := "Key", type := 34, offset := 3, embedded := false, tag := "", pkgPath := "", byteOffset := 24 }, { name := "Has", type := 34, offset := 6, embedded := false, tag := "", pkgPath := "", byteOffset := 56 }, { name := "Next", type := 3, offset := 9, embedded := false, tag := "", pkgPath := "", byteOffset := 88 }]) := (tab_und 45).trans Try.underlying45
theorem sz45 : size tab 45 = some 10 := by simp only [size, inf45, Option.map]
theorem ag45 : isAgg tab 45 = some true := by simp only [isAgg, und45]
theorem fo45 : fieldsOf tab 45 = some [{ name := "State", type := 3, offset := 0, embedded := false, tag := "", pkgPath := "", byteOffset := 0 }, { name := "ID", type := 3, offset := 1, embedded := false, tag := "", pkgPath := "", byteOffset := 8 }, { name := "Tries", type := 3, offset := 2, embedded := false, tag := "", pkgPath := "", byteOffset := 16 }, { name := "Key", type := 34, offset := 3, embedded := false, tag := "", pkgPath := "", byteOffset := 24 }, { name := "Has", type := 34, offset := 6, embedded := false, tag := "", pkgPath := "", byteOffset := 56 }, { name := "Next", type := 3, offset := 9, embedded := false, tag := "", pkgPath := "", byteOffset := 88 }] := by simp only [fieldsOf, und45]
theorem pl45 : placesL tab [{ name := "State", type := 3, offset := 0, embedded := false, tag := "", pkgPath := "", byteOffset := 0 }, { name := "ID", type := 3, offset := 1, embedded := false, tag := "", pkgPath := "", byteOffset := 8 }, { name := "Tries", type := 3, offset := 2, embedded := false, tag := "", pkgPath := "", byteOffset := 16 }, { name := "Key", type := 34, offset := 3, embedded := false, tag := "", pkgPath := "", byteOffset := 24 }, { name := "Has", type := 34, offset := 6, embedded := false, tag := "", pkgPath := "", byteOffset := 56 }, { name := "Next", type := 3, offset := 9, embedded := false, tag := "", pkgPath := "", byteOffset := 88 }] = some [(0, 1), (1, 1), (2, 1), (3, 3), (6, 3), (9, 1)] := by simp only [placesL, sz3, sz34]
theorem bA45 {z : List AV} {ps : List (Nat × AV)} : buildA tab 45 z ps = fillA (fun i => [(0, 1), (1, 1), (2, 1), (3, 3), (6, 3), (9, 1)][i]?) z ps := bA_struct und45 pl45
theorem pT45_0 : partType tab 45 0 = 3 := by simp only [partType, und45]; rfl
theorem pT45_1 : partType tab 45 1 = 3 := by simp only [partType, und45]; rfl
theorem pT45_2 : partType tab 45 2 = 3 := by simp only [partType, und45]; rfl
theorem pT45_3 : partType tab 45 3 = 34 := by simp only [partType, und45]; rfl
theorem pT45_4 : partType tab 45 4 = 34 := by simp only [partType, und45]; rfl
theorem pT45_5 : partType tab 45 5 = 3 := by simp only [partType, und45]; rfl
theorem und46 : tab.und 46 = some (.struct #[{ name := "State", type := 3, offset := 0, embedded := false, tag := "", pkgPath := "", byteOffset := 0 }, { name := "ID", type := 3, offset := 1, embedded := false, tag := "", pkgPath := "", byteOffset := 8 }, { name := "Tries", type := 3, offset := 2, embedded := false, tag := "", pkgPath := "", byteOffset := 16 }, { name := "Key", type := 34, offset := 3, embedded := false, tag := "", pkgPath := "", byteOffset := 24 }, { name := "Has", type := 34, offset := 6, embedded := false, tag := "", pkgPath := "", byteOffset := 56 }, { name := "Next", type := 3, offset := 9, embedded := false, tag := "", pkgPath := "", byteOffset := 88 }]) := (tab_und 46).trans Try.underlying46
theorem sz46 : size tab 46 = some 10 := by simp only [size, inf46, Option.map]
theorem ag46 : isAgg tab 46 = some true := by simp only [isAgg, und46]
theorem fo46 : fieldsOf tab 46 = some [{ name := "State", type := 3, offset := 0, embedded := false, tag := "", pkgPath := "", byteOffset := 0 }, { name := "ID", type := 3, offset := 1, embedded := false, tag := "", pkgPath := "", byteOffset := 8 }, { name := "Tries", type := 3, offset := 2, embedded := false, tag := "", pkgPath := "", byteOffset := 16 }, { name := "Key", type := 34, offset := 3, embedded := false, tag := "", pkgPath := "", byteOffset := 24 }, { name := "Has", type := 34, offset := 6, embedded := false, tag := "", pkgPath := "", byteOffset := 56 }, { name := "Next", type := 3, offset := 9, embedded := false, tag := "", pkgPath := "", byteOffset := 88 }] := by simp only [fieldsOf, und46]
theorem pl46 : placesL tab [{ name := "State", type := 3, offset := 0, embedded := false, tag := "", pkgPath := "", byteOffset := 0 }, { name := "ID", type := 3, offset := 1, embedded := false, tag := "", pkgPath := "", byteOffset := 8 }, { name := "Tries", type := 3, offset := 2, embedded := false, tag := "", pkgPath := "", byteOffset := 16 }, { name := "Key", type := 34, offset := 3, embedded := false, tag := "", pkgPath := "", byteOffset := 24 }, { name := "Has", type := 34, offset := 6, embedded := false, tag := "", pkgPath := "", byteOffset := 56 }, { name := "Next", type := 3, offset := 9, embedded := false, tag := "", pkgPath := "", byteOffset := 88 }] = some [(0, 1), (1, 1), (2, 1), (3, 3), (6, 3), (9, 1)] := by simp only [placesL, sz3, sz34]
theorem bA46 {z : List AV} {ps : List (Nat × AV)} : buildA tab 46 z ps = fillA (fun i => [(0, 1), (1, 1), (2, 1), (3, 3), (6, 3), (9, 1)][i]?) z ps := bA_struct und46 pl46
theorem pT46_0 : partType tab 46 0 = 3 := by simp only [partType, und46]; rfl
theorem pT46_1 : partType tab 46 1 = 3 := by simp only [partType, und46]; rfl
theorem pT46_2 : partType tab 46 2 = 3 := by simp only [partType, und46]; rfl
theorem pT46_3 : partType tab 46 3 = 34 := by simp only [partType, und46]; rfl
theorem pT46_4 : partType tab 46 4 = 34 := by simp only [partType, und46]; rfl
theorem pT46_5 : partType tab 46 5 = 3 := by simp only [partType, und46]; rfl
theorem und53 : tab.und 53 = some (.slice 46) := (tab_und 53).trans Try.underlying53
theorem sz53 : size tab 53 = some 1 := by simp only [size, inf53, Option.map]
theorem ag53 : isAgg tab 53 = some false := by simp only [isAgg, und53]
theorem pT53 {i : Nat} : partType tab 53 i = 46 := by simp only [partType, und53]
theorem und65 : tab.und 65 = some (.slice 71) := (tab_und 65).trans Try.underlying65
theorem sz65 : size tab 65 = some 1 := by simp only [size, inf65, Option.map]
theorem ag65 : isAgg tab 65 = some false := by simp only [isAgg, und65]
theorem pT65 {i : Nat} : partType tab 65 i = 71 := by simp only [partType, und65]
theorem und70 : tab.und 70 = some (.struct #[{ name := "ID", type := 3, offset := 0, embedded := false, tag := "", pkgPath := "", byteOffset := 0 }, { name := "At", type := 3, offset := 1, embedded := false, tag := "", pkgPath := "", byteOffset := 8 }]) := (tab_und 70).trans Try.underlying70
theorem sz70 : size tab 70 = some 2 := by simp only [size, inf70, Option.map]
theorem ag70 : isAgg tab 70 = some true := by simp only [isAgg, und70]
theorem fo70 : fieldsOf tab 70 = some [{ name := "ID", type := 3, offset := 0, embedded := false, tag := "", pkgPath := "", byteOffset := 0 }, { name := "At", type := 3, offset := 1, embedded := false, tag := "", pkgPath := "", byteOffset := 8 }] := by simp only [fieldsOf, und70]
theorem pl70 : placesL tab [{ name := "ID", type := 3, offset := 0, embedded := false, tag := "", pkgPath := "", byteOffset := 0 }, { name := "At", type := 3, offset := 1, embedded := false, tag := "", pkgPath := "", byteOffset := 8 }] = some [(0, 1), (1, 1)] := by simp only [placesL, sz3]
theorem bA70 {z : List AV} {ps : List (Nat × AV)} : buildA tab 70 z ps = fillA (fun i => [(0, 1), (1, 1)][i]?) z ps := bA_struct und70 pl70
theorem pT70_0 : partType tab 70 0 = 3 := by simp only [partType, und70]; rfl
theorem pT70_1 : partType tab 70 1 = 3 := by simp only [partType, und70]; rfl
theorem und71 : tab.und 71 = some (.struct #[{ name := "ID", type := 3, offset := 0, embedded := false, tag := "", pkgPath := "", byteOffset := 0 }, { name := "At", type := 3, offset := 1, embedded := false, tag := "", pkgPath := "", byteOffset := 8 }]) := (tab_und 71).trans Try.underlying71
theorem sz71 : size tab 71 = some 2 := by simp only [size, inf71, Option.map]
theorem ag71 : isAgg tab 71 = some true := by simp only [isAgg, und71]
theorem fo71 : fieldsOf tab 71 = some [{ name := "ID", type := 3, offset := 0, embedded := false, tag := "", pkgPath := "", byteOffset := 0 }, { name := "At", type := 3, offset := 1, embedded := false, tag := "", pkgPath := "", byteOffset := 8 }] := by simp only [fieldsOf, und71]
theorem pl71 : placesL tab [{ name := "ID", type := 3, offset := 0, embedded := false, tag := "", pkgPath := "", byteOffset := 0 }, { name := "At", type := 3, offset := 1, embedded := false, tag := "", pkgPath := "", byteOffset := 8 }] = some [(0, 1), (1, 1)] := by simp only [placesL, sz3]
theorem bA71 {z : List AV} {ps : List (Nat × AV)} : buildA tab 71 z ps = fillA (fun i => [(0, 1), (1, 1)][i]?) z ps := bA_struct und71 pl71
theorem pT71_0 : partType tab 71 0 = 3 := by simp only [partType, und71]; rfl
theorem pT71_1 : partType tab 71 1 = 3 := by simp only [partType, und71]; rfl
theorem und75 : tab.und 75 = some (.slice 77) := (tab_und 75).trans Try.underlying75
theorem sz75 : size tab 75 = some 1 := by simp only [size, inf75, Option.map]
theorem ag75 : isAgg tab 75 = some false := by simp only [isAgg, und75]
theorem pT75 {i : Nat} : partType tab 75 i = 77 := by simp only [partType, und75]
theorem und76 : tab.und 76 = some (.struct #[{ name := "Op", type := 3, offset := 0, embedded := false, tag := "", pkgPath := "", byteOffset := 0 }, { name := "V", type := 34, offset := 1, embedded := false, tag := "", pkgPath := "", byteOffset := 8 }, { name := "Name", type := 9, offset := 4, embedded := false, tag := "", pkgPath := "", byteOffset := 40 }, { name := "Args", type := 75, offset := 5, embedded := false, tag := "", pkgPath := "", byteOffset := 56 }]) := (tab_und 76).trans Try.underlying76
theorem sz76 : size tab 76 = some 6 := by simp only [size, inf76, Option.map]
theorem ag76 : isAgg tab 76 = some true := by simp only [isAgg, und76]
theorem fo76 : fieldsOf tab 76 = some [{ name := "Op", type := 3, offset := 0, embedded := false, tag := "", pkgPath := "", byteOffset := 0 }, { name := "V", type := 34, offset := 1, embedded := false, tag := "", pkgPath := "", byteOffset := 8 }, { name := "Name", type := 9, offset := 4, embedded := false, tag := "", pkgPath := "", byteOffset := 40 }, { name := "Args", type := 75, offset := 5, embedded := false, tag := "", pkgPath := "", byteOffset := 56 }] := by simp only [fieldsOf, und76]
theorem pl76 : placesL tab [{ name := "Op", type := 3, offset := 0, embedded := false, tag := "", pkgPath := "", byteOffset := 0 }, { name := "V", type := 34, offset := 1, embedded := false, tag := "", pkgPath := "", byteOffset := 8 }, { name := "Name", type := 9, offset := 4, embedded := false, tag := "", pkgPath := "", byteOffset := 40 }, { name := "Args", type := 75, offset := 5, embedded := false, tag := "", pkgPath := "", byteOffset := 56 }] = some [(0, 1), (1, 3), (4, 1), (5, 1)] := by simp only [placesL, sz3, sz34, sz75, sz9]
theorem bA76 {z : List AV} {ps : List (Nat × AV)} : buildA tab 76 z ps = fillA (fun i => [(0, 1), (1, 3), (4, 1), (5, 1)][i]?) z ps := bA_struct und76 pl76
theorem pT76_0 : partType tab 76 0 = 3 := by simp only [partType, und76]; rfl
theorem pT76_1 : partType tab 76 1 = 34 := by simp only [partType, und76]; rfl
theorem pT76_2 : partType tab 76 2 = 9 := by simp only [partType, und76]; rfl
theorem pT76_3 : partType tab 76 3 = 75 := by simp only [partType, und76]; rfl
theorem und77 : tab.und 77 = some (.struct #[{ name := "Op", type := 3, offset := 0, embedded := false, tag := "", pkgPath := "", byteOffset := 0 }, { name := "V", type := 34, offset := 1, embedded := false, tag := "", pkgPath := "", byteOffset := 8 }, { name := "Name", type := 9, offset := 4, embedded := false, tag := "", pkgPath := "", byteOffset := 40 }, { name := "Args", type := 75, offset := 5, embedded := false, tag := "", pkgPath := "", byteOffset := 56 }]) := (tab_und 77).trans Try.underlying77
theorem sz77 : size tab 77 = some 6 := by simp only [size, inf77, Option.map]
theorem ag77 : isAgg tab 77 = some true := by simp only [isAgg, und77]
theorem fo77 : fieldsOf tab 77 = some [{ name := "Op", type := 3, offset := 0, embedded := false, tag := "", pkgPath := "", byteOffset := 0 }, { name := "V", type := 34, offset := 1, embedded := false, tag := "", pkgPath := "", byteOffset := 8 }, { name := "Name", type := 9, offset := 4, embedded := false, tag := "", pkgPath := "", byteOffset := 40 }, { name := "Args", type := 75, offset := 5, embedded := false, tag := "", pkgPath := "", byteOffset := 56 }] := by simp only [fieldsOf, und77]
theorem pl77 : placesL tab [{ name := "Op", type := 3, offset := 0, embedded := false, tag := "", pkgPath := "", byteOffset := 0 }, { name := "V", type := 34, offset := 1, embedded := false, tag := "", pkgPath := "", byteOffset := 8 }, { name := "Name", type := 9, offset := 4, embedded := false, tag := "", pkgPath := "", byteOffset := 40 }, { name := "Args", type := 75, offset := 5, embedded := false, tag := "", pkgPath := "", byteOffset := 56 }] = some [(0, 1), (1, 3), (4, 1), (5, 1)] := by simp only [placesL, sz3, sz34, sz75, sz9]
theorem bA77 {z : List AV} {ps : List (Nat × AV)} : buildA tab 77 z ps = fillA (fun i => [(0, 1), (1, 3), (4, 1), (5, 1)][i]?) z ps := bA_struct und77 pl77
theorem pT77_0 : partType tab 77 0 = 3 := by simp only [partType, und77]; rfl
theorem pT77_1 : partType tab 77 1 = 34 := by simp only [partType, und77]; rfl
theorem pT77_2 : partType tab 77 2 = 9 := by simp only [partType, und77]; rfl
theorem pT77_3 : partType tab 77 3 = 75 := by simp only [partType, und77]; rfl
theorem und79 : tab.und 79 = some (.slice 122) := (tab_und 79).trans Try.underlying79
theorem sz79 : size tab 79 = some 1 := by simp only [size, inf79, Option.map]
theorem ag79 : isAgg tab 79 = some false := by simp only [isAgg, und79]
theorem pT79 {i : Nat} : partType tab 79 i = 122 := by simp only [partType, und79]
theorem und89 : tab.und 89 = some (.slice 94) := (tab_und 89).trans Try.underlying89
theorem sz89 : size tab 89 = some 1 := by simp only [size, inf89, Option.map]
theorem ag89 : isAgg tab 89 = some false := by simp only [isAgg, und89]
theorem pT89 {i : Nat} : partType tab 89 i = 94 := by simp only [partType, und89]
theorem und92 : tab.und 92 = some (.slice 9) := (tab_und 92).trans Try.underlying92
theorem sz92 : size tab 92 = some 1 := by simp only [size, inf92, Option.map]
theorem ag92 : isAgg tab 92 = some false := by simp only [isAgg, und92]
theorem pT92 {i : Nat} : partType tab 92 i = 9 := by simp only [partType, und92]
theorem und93 : tab.und 93 = some (.struct #[{ name := "Kind", type := 3, offset := 0, embedded := false, tag := "", pkgPath := "", byteOffset := 0 }, { name := "At", type := 3, offset := 1, embedded := false, tag := "", pkgPath := "", byteOffset := 8 }, { name := "S", type := 9, offset := 2, embedded := false, tag := "", pkgPath := "", byteOffset := 16 }, { name := "V", type := 34, offset := 3, embedded := false, tag := "", pkgPath := "", byteOffset := 32 }]) := (tab_und 93).trans Try.underlying93
theorem sz93 : size tab 93 = some 6 := by simp only [size, inf93, Option.map]
theorem ag93 : isAgg tab 93 = some true := by simp only [isAgg, und93]
theorem fo93 : fieldsOf tab 93 = some [{ name := "Kind", type := 3, offset := 0, embedded := false, tag := "", pkgPath := "", byteOffset := 0 }, { name := "At", type := 3, offset := 1, embedded := false, tag := "", pkgPath := "", byteOffset := 8 }, { name := "S", type := 9, offset := 2, embedded := false, tag := "", pkgPath := "", byteOffset := 16 }, { name := "V", type := 34, offset := 3, embedded := false, tag := "", pkgPath := "", byteOffset := 32 }] := by simp only [fieldsOf, und93]
theorem pl93 : placesL tab [{ name := "Kind", type := 3, offset := 0, embedded := false, tag := "", pkgPath := "", byteOffset := 0 }, { name := "At", type := 3, offset := 1, embedded := false, tag := "", pkgPath := "", byteOffset := 8 }, { name := "S", type := 9, offset := 2, embedded := false, tag := "", pkgPath := "", byteOffset := 16 }, { name := "V", type := 34, offset := 3, embedded := false, tag := "", pkgPath := "", byteOffset := 32 }] = some [(0, 1), (1, 1), (2, 1), (3, 3)] := by simp only [placesL, sz3, sz34, sz9]
theorem bA93 {z : List AV} {ps : List (Nat × AV)} : buildA tab 93 z ps = fillA (fun i => [(0, 1), (1, 1), (2, 1), (3, 3)][i]?) z ps := bA_struct und93 pl93
theorem pT93_0 : partType tab 93 0 = 3 := by simp only [partType, und93]; rfl
theorem pT93_1 : partType tab 93 1 = 3 := by simp only [partType, und93]; rfl
theorem pT93_2 : partType tab 93 2 = 9 := by simp only [partType, und93]; rfl
theorem pT93_3 : partType tab 93 3 = 34 := by simp only [partType, und93]; rfl
theorem und94 : tab.und 94 = some (.struct #[{ name := "Kind", type := 3, offset := 0, embedded := false, tag := "", pkgPath := "", byteOffset := 0 }, { name := "At", type := 3, offset := 1, embedded := false, tag := "", pkgPath := "", byteOffset := 8 }, { name := "S", type := 9, offset := 2, embedded := false, tag := "", pkgPath := "", byteOffset := 16 }, { name := "V", type := 34, offset := 3, embedded := false, tag := "", pkgPath := "", byteOffset := 32 }]) := (tab_und 94).trans Try.underlying94
theorem sz94 : size tab 94 = some 6 := by simp only [size, inf94, Option.map]
theorem ag94 : isAgg tab 94 = some true := by simp only [isAgg, und94]
theorem fo94 : fieldsOf tab 94 = some [{ name := "Kind", type := 3, offset := 0, embedded := false, tag := "", pkgPath := "", byteOffset := 0 }, { name := "At", type := 3, offset := 1, embedded := false, tag := "", pkgPath := "", byteOffset := 8 }, { name := "S", type := 9, offset := 2, embedded := false, tag := "", pkgPath := "", byteOffset := 16 }, { name := "V", type := 34, offset := 3, embedded := false, tag := "", pkgPath := "", byteOffset := 32 }] := by simp only [fieldsOf, und94]
theorem pl94 : placesL tab [{ name := "Kind", type := 3, offset := 0, embedded := false, tag := "", pkgPath := "", byteOffset := 0 }, { name := "At", type := 3, offset := 1, embedded := false, tag := "", pkgPath := "", byteOffset := 8 }, { name := "S", type := 9, offset := 2, embedded := false, tag := "", pkgPath := "", byteOffset := 16 }, { name := "V", type := 34, offset := 3, embedded := false, tag := "", pkgPath := "", byteOffset := 32 }] = some [(0, 1), (1, 1), (2, 1), (3, 3)] := by simp only [placesL, sz3, sz34, sz9]
theorem bA94 {z : List AV} {ps : List (Nat × AV)} : buildA tab 94 z ps = fillA (fun i => [(0, 1), (1, 1), (2, 1), (3, 3)][i]?) z ps := bA_struct und94 pl94
theorem pT94_0 : partType tab 94 0 = 3 := by simp only [partType, und94]; rfl
theorem pT94_1 : partType tab 94 1 = 3 := by simp only [partType, und94]; rfl
theorem pT94_2 : partType tab 94 2 = 9 := by simp only [partType, und94]; rfl
theorem pT94_3 : partType tab 94 3 = 34 := by simp only [partType, und94]; rfl
theorem und102 : tab.und 102 = some (.array 2 23) := (tab_und 102).trans Try.underlying102
theorem sz102 : size tab 102 = some 2 := by simp only [size, inf102, Option.map]
theorem ag102 : isAgg tab 102 = some true := by simp only [isAgg, und102]
theorem bA102 {z : List AV} {ps : List (Nat × AV)} : buildA tab 102 z ps = fillA (fun i => some (i * 1, 1)) z ps := by simp only [buildA, und102, sz23]
theorem pT102 {i : Nat} : partType tab 102 i = 23 := by simp only [partType, und102]
theorem und104 : tab.und 104 = some (.slice 23) := (tab_und 104).trans Try.underlying104
theorem sz104 : size tab 104 = some 1 := by simp only [size, inf104, Option.map]
theorem ag104 : isAgg tab 104 = some false := by simp only [isAgg, und104]
theorem pT104 {i : Nat} : partType tab 104 i = 23 := by simp only [partType, und104]
theorem und118 : tab.und 118 = some (.struct #[{ name := "l", type := 22, offset := 0, embedded := false, tag := "", pkgPath := "lychway/lychwaykeep", byteOffset := 0 }, { name := "at", type := 3, offset := 1, embedded := false, tag := "", pkgPath := "lychway/lychwaykeep", byteOffset := 24 }]) := (tab_und 118).trans Try.underlying118
theorem sz118 : size tab 118 = some 2 := by simp only [size, inf118, Option.map]
theorem ag118 : isAgg tab 118 = some true := by simp only [isAgg, und118]
theorem fo118 : fieldsOf tab 118 = some [{ name := "l", type := 22, offset := 0, embedded := false, tag := "", pkgPath := "lychway/lychwaykeep", byteOffset := 0 }, { name := "at", type := 3, offset := 1, embedded := false, tag := "", pkgPath := "lychway/lychwaykeep", byteOffset := 24 }] := by simp only [fieldsOf, und118]
theorem pl118 : placesL tab [{ name := "l", type := 22, offset := 0, embedded := false, tag := "", pkgPath := "lychway/lychwaykeep", byteOffset := 0 }, { name := "at", type := 3, offset := 1, embedded := false, tag := "", pkgPath := "lychway/lychwaykeep", byteOffset := 24 }] = some [(0, 1), (1, 1)] := by simp only [placesL, sz22, sz3]
theorem bA118 {z : List AV} {ps : List (Nat × AV)} : buildA tab 118 z ps = fillA (fun i => [(0, 1), (1, 1)][i]?) z ps := bA_struct und118 pl118
theorem pT118_0 : partType tab 118 0 = 22 := by simp only [partType, und118]; rfl
theorem pT118_1 : partType tab 118 1 = 3 := by simp only [partType, und118]; rfl
theorem und119 : tab.und 119 = some (.struct #[{ name := "l", type := 22, offset := 0, embedded := false, tag := "", pkgPath := "lychway/lychwaykeep", byteOffset := 0 }, { name := "at", type := 3, offset := 1, embedded := false, tag := "", pkgPath := "lychway/lychwaykeep", byteOffset := 24 }]) := (tab_und 119).trans Try.underlying119
theorem sz119 : size tab 119 = some 2 := by simp only [size, inf119, Option.map]
theorem ag119 : isAgg tab 119 = some true := by simp only [isAgg, und119]
theorem fo119 : fieldsOf tab 119 = some [{ name := "l", type := 22, offset := 0, embedded := false, tag := "", pkgPath := "lychway/lychwaykeep", byteOffset := 0 }, { name := "at", type := 3, offset := 1, embedded := false, tag := "", pkgPath := "lychway/lychwaykeep", byteOffset := 24 }] := by simp only [fieldsOf, und119]
theorem pl119 : placesL tab [{ name := "l", type := 22, offset := 0, embedded := false, tag := "", pkgPath := "lychway/lychwaykeep", byteOffset := 0 }, { name := "at", type := 3, offset := 1, embedded := false, tag := "", pkgPath := "lychway/lychwaykeep", byteOffset := 24 }] = some [(0, 1), (1, 1)] := by simp only [placesL, sz22, sz3]
theorem bA119 {z : List AV} {ps : List (Nat × AV)} : buildA tab 119 z ps = fillA (fun i => [(0, 1), (1, 1)][i]?) z ps := bA_struct und119 pl119
theorem pT119_0 : partType tab 119 0 = 22 := by simp only [partType, und119]; rfl
theorem pT119_1 : partType tab 119 1 = 3 := by simp only [partType, und119]; rfl
theorem und121 : tab.und 121 = some (.struct #[{ name := "Name", type := 9, offset := 0, embedded := false, tag := "", pkgPath := "", byteOffset := 0 }, { name := "Kind", type := 3, offset := 1, embedded := false, tag := "", pkgPath := "", byteOffset := 16 }, { name := "Type", type := 3, offset := 2, embedded := false, tag := "", pkgPath := "", byteOffset := 24 }, { name := "Source", type := 77, offset := 3, embedded := false, tag := "", pkgPath := "", byteOffset := 32 }]) := (tab_und 121).trans Try.underlying121
theorem sz121 : size tab 121 = some 9 := by simp only [size, inf121, Option.map]
theorem ag121 : isAgg tab 121 = some true := by simp only [isAgg, und121]
theorem fo121 : fieldsOf tab 121 = some [{ name := "Name", type := 9, offset := 0, embedded := false, tag := "", pkgPath := "", byteOffset := 0 }, { name := "Kind", type := 3, offset := 1, embedded := false, tag := "", pkgPath := "", byteOffset := 16 }, { name := "Type", type := 3, offset := 2, embedded := false, tag := "", pkgPath := "", byteOffset := 24 }, { name := "Source", type := 77, offset := 3, embedded := false, tag := "", pkgPath := "", byteOffset := 32 }] := by simp only [fieldsOf, und121]
theorem pl121 : placesL tab [{ name := "Name", type := 9, offset := 0, embedded := false, tag := "", pkgPath := "", byteOffset := 0 }, { name := "Kind", type := 3, offset := 1, embedded := false, tag := "", pkgPath := "", byteOffset := 16 }, { name := "Type", type := 3, offset := 2, embedded := false, tag := "", pkgPath := "", byteOffset := 24 }, { name := "Source", type := 77, offset := 3, embedded := false, tag := "", pkgPath := "", byteOffset := 32 }] = some [(0, 1), (1, 1), (2, 1), (3, 6)] := by simp only [placesL, sz3, sz77, sz9]
theorem bA121 {z : List AV} {ps : List (Nat × AV)} : buildA tab 121 z ps = fillA (fun i => [(0, 1), (1, 1), (2, 1), (3, 6)][i]?) z ps := bA_struct und121 pl121
theorem pT121_0 : partType tab 121 0 = 9 := by simp only [partType, und121]; rfl
theorem pT121_1 : partType tab 121 1 = 3 := by simp only [partType, und121]; rfl
theorem pT121_2 : partType tab 121 2 = 3 := by simp only [partType, und121]; rfl
theorem pT121_3 : partType tab 121 3 = 77 := by simp only [partType, und121]; rfl
theorem und122 : tab.und 122 = some (.struct #[{ name := "Name", type := 9, offset := 0, embedded := false, tag := "", pkgPath := "", byteOffset := 0 }, { name := "Kind", type := 3, offset := 1, embedded := false, tag := "", pkgPath := "", byteOffset := 16 }, { name := "Type", type := 3, offset := 2, embedded := false, tag := "", pkgPath := "", byteOffset := 24 }, { name := "Source", type := 77, offset := 3, embedded := false, tag := "", pkgPath := "", byteOffset := 32 }]) := (tab_und 122).trans Try.underlying122
theorem sz122 : size tab 122 = some 9 := by simp only [size, inf122, Option.map]
theorem ag122 : isAgg tab 122 = some true := by simp only [isAgg, und122]
theorem fo122 : fieldsOf tab 122 = some [{ name := "Name", type := 9, offset := 0, embedded := false, tag := "", pkgPath := "", byteOffset := 0 }, { name := "Kind", type := 3, offset := 1, embedded := false, tag := "", pkgPath := "", byteOffset := 16 }, { name := "Type", type := 3, offset := 2, embedded := false, tag := "", pkgPath := "", byteOffset := 24 }, { name := "Source", type := 77, offset := 3, embedded := false, tag := "", pkgPath := "", byteOffset := 32 }] := by simp only [fieldsOf, und122]
theorem pl122 : placesL tab [{ name := "Name", type := 9, offset := 0, embedded := false, tag := "", pkgPath := "", byteOffset := 0 }, { name := "Kind", type := 3, offset := 1, embedded := false, tag := "", pkgPath := "", byteOffset := 16 }, { name := "Type", type := 3, offset := 2, embedded := false, tag := "", pkgPath := "", byteOffset := 24 }, { name := "Source", type := 77, offset := 3, embedded := false, tag := "", pkgPath := "", byteOffset := 32 }] = some [(0, 1), (1, 1), (2, 1), (3, 6)] := by simp only [placesL, sz3, sz77, sz9]
theorem bA122 {z : List AV} {ps : List (Nat × AV)} : buildA tab 122 z ps = fillA (fun i => [(0, 1), (1, 1), (2, 1), (3, 6)][i]?) z ps := bA_struct und122 pl122
theorem pT122_0 : partType tab 122 0 = 9 := by simp only [partType, und122]; rfl
theorem pT122_1 : partType tab 122 1 = 3 := by simp only [partType, und122]; rfl
theorem pT122_2 : partType tab 122 2 = 3 := by simp only [partType, und122]; rfl
theorem pT122_3 : partType tab 122 3 = 77 := by simp only [partType, und122]; rfl
theorem und123 : tab.und 123 = some (.slice 65) := (tab_und 123).trans Try.underlying123
theorem sz123 : size tab 123 = some 1 := by simp only [size, inf123, Option.map]
theorem ag123 : isAgg tab 123 = some false := by simp only [isAgg, und123]
theorem pT123 {i : Nat} : partType tab 123 i = 65 := by simp only [partType, und123]
theorem und129 : tab.und 129 = some (.slice 5) := (tab_und 129).trans Try.underlying129
theorem sz129 : size tab 129 = some 1 := by simp only [size, inf129, Option.map]
theorem ag129 : isAgg tab 129 = some false := by simp only [isAgg, und129]
theorem pT129 {i : Nat} : partType tab 129 i = 5 := by simp only [partType, und129]
theorem und140 : tab.und 140 = some (.int .u64) := (tab_und 140).trans Try.underlying140
theorem sz140 : size tab 140 = some 1 := by simp only [size, inf140, Option.map]
theorem ag140 : isAgg tab 140 = some false := by simp only [isAgg, und140]
theorem und144 : tab.und 144 = some (.slice 3) := (tab_und 144).trans Try.underlying144
theorem sz144 : size tab 144 = some 1 := by simp only [size, inf144, Option.map]
theorem ag144 : isAgg tab 144 = some false := by simp only [isAgg, und144]
theorem pT144 {i : Nat} : partType tab 144 i = 3 := by simp only [partType, und144]
theorem und148 : tab.und 148 = some (.array 13 9) := (tab_und 148).trans Try.underlying148
theorem sz148 : size tab 148 = some 13 := by simp only [size, inf148, Option.map]
theorem ag148 : isAgg tab 148 = some true := by simp only [isAgg, und148]
theorem bA148 {z : List AV} {ps : List (Nat × AV)} : buildA tab 148 z ps = fillA (fun i => some (i * 1, 1)) z ps := by simp only [buildA, und148, sz9]
theorem pT148 {i : Nat} : partType tab 148 i = 9 := by simp only [partType, und148]
theorem und153 : tab.und 153 = some (.struct #[{ name := "sign", type := 9, offset := 0, embedded := false, tag := "", pkgPath := "lychway/expr", byteOffset := 0 }, { name := "level", type := 3, offset := 1, embedded := false, tag := "", pkgPath := "lychway/expr", byteOffset := 16 }, { name := "args", type := 3, offset := 2, embedded := false, tag := "", pkgPath := "lychway/expr", byteOffset := 24 }]) := (tab_und 153).trans Try.underlying153
theorem sz153 : size tab 153 = some 3 := by simp only [size, inf153, Option.map]
theorem ag153 : isAgg tab 153 = some true := by simp only [isAgg, und153]
theorem fo153 : fieldsOf tab 153 = some [{ name := "sign", type := 9, offset := 0, embedded := false, tag := "", pkgPath := "lychway/expr", byteOffset := 0 }, { name := "level", type := 3, offset := 1, embedded := false, tag := "", pkgPath := "lychway/expr", byteOffset := 16 }, { name := "args", type := 3, offset := 2, embedded := false, tag := "", pkgPath := "lychway/expr", byteOffset := 24 }] := by simp only [fieldsOf, und153]
theorem pl153 : placesL tab [{ name := "sign", type := 9, offset := 0, embedded := false, tag := "", pkgPath := "lychway/expr", byteOffset := 0 }, { name := "level", type := 3, offset := 1, embedded := false, tag := "", pkgPath := "lychway/expr", byteOffset := 16 }, { name := "args", type := 3, offset := 2, embedded := false, tag := "", pkgPath := "lychway/expr", byteOffset := 24 }] = some [(0, 1), (1, 1), (2, 1)] := by simp only [placesL, sz3, sz9]
theorem bA153 {z : List AV} {ps : List (Nat × AV)} : buildA tab 153 z ps = fillA (fun i => [(0, 1), (1, 1), (2, 1)][i]?) z ps := bA_struct und153 pl153
theorem pT153_0 : partType tab 153 0 = 9 := by simp only [partType, und153]; rfl
theorem pT153_1 : partType tab 153 1 = 3 := by simp only [partType, und153]; rfl
theorem pT153_2 : partType tab 153 2 = 3 := by simp only [partType, und153]; rfl
theorem und154 : tab.und 154 = some (.struct #[{ name := "sign", type := 9, offset := 0, embedded := false, tag := "", pkgPath := "lychway/expr", byteOffset := 0 }, { name := "level", type := 3, offset := 1, embedded := false, tag := "", pkgPath := "lychway/expr", byteOffset := 16 }, { name := "args", type := 3, offset := 2, embedded := false, tag := "", pkgPath := "lychway/expr", byteOffset := 24 }]) := (tab_und 154).trans Try.underlying154
theorem sz154 : size tab 154 = some 3 := by simp only [size, inf154, Option.map]
theorem ag154 : isAgg tab 154 = some true := by simp only [isAgg, und154]
theorem fo154 : fieldsOf tab 154 = some [{ name := "sign", type := 9, offset := 0, embedded := false, tag := "", pkgPath := "lychway/expr", byteOffset := 0 }, { name := "level", type := 3, offset := 1, embedded := false, tag := "", pkgPath := "lychway/expr", byteOffset := 16 }, { name := "args", type := 3, offset := 2, embedded := false, tag := "", pkgPath := "lychway/expr", byteOffset := 24 }] := by simp only [fieldsOf, und154]
theorem pl154 : placesL tab [{ name := "sign", type := 9, offset := 0, embedded := false, tag := "", pkgPath := "lychway/expr", byteOffset := 0 }, { name := "level", type := 3, offset := 1, embedded := false, tag := "", pkgPath := "lychway/expr", byteOffset := 16 }, { name := "args", type := 3, offset := 2, embedded := false, tag := "", pkgPath := "lychway/expr", byteOffset := 24 }] = some [(0, 1), (1, 1), (2, 1)] := by simp only [placesL, sz3, sz9]
theorem bA154 {z : List AV} {ps : List (Nat × AV)} : buildA tab 154 z ps = fillA (fun i => [(0, 1), (1, 1), (2, 1)][i]?) z ps := bA_struct und154 pl154
theorem pT154_0 : partType tab 154 0 = 9 := by simp only [partType, und154]; rfl
theorem pT154_1 : partType tab 154 1 = 3 := by simp only [partType, und154]; rfl
theorem pT154_2 : partType tab 154 2 = 3 := by simp only [partType, und154]; rfl
theorem und155 : tab.und 155 = some (.array 19 154) := (tab_und 155).trans Try.underlying155
theorem sz155 : size tab 155 = some 57 := by simp only [size, inf155, Option.map]
theorem ag155 : isAgg tab 155 = some true := by simp only [isAgg, und155]
theorem bA155 {z : List AV} {ps : List (Nat × AV)} : buildA tab 155 z ps = fillA (fun i => some (i * 3, 3)) z ps := by simp only [buildA, und155, sz154]
theorem pT155 {i : Nat} : partType tab 155 i = 154 := by simp only [partType, und155]
theorem und166 : tab.und 166 = some (.int .u32) := (tab_und 166).trans Try.underlying166
theorem sz166 : size tab 166 = some 1 := by simp only [size, inf166, Option.map]
theorem ag166 : isAgg tab 166 = some false := by simp only [isAgg, und166]
theorem und167 : tab.und 167 = some (.int .u8) := (tab_und 167).trans Try.underlying167
theorem sz167 : size tab 167 = some 1 := by simp only [size, inf167, Option.map]
theorem ag167 : isAgg tab 167 = some false := by simp only [isAgg, und167]
theorem und168 : tab.und 168 = some (.int .u8) := (tab_und 168).trans Try.underlying168
theorem sz168 : size tab 168 = some 1 := by simp only [size, inf168, Option.map]
theorem ag168 : isAgg tab 168 = some false := by simp only [isAgg, und168]
theorem und170 : tab.und 170 = some (.int .i32) := (tab_und 170).trans Try.underlying170
theorem sz170 : size tab 170 = some 1 := by simp only [size, inf170, Option.map]
theorem ag170 : isAgg tab 170 = some false := by simp only [isAgg, und170]
theorem und171 : tab.und 171 = some (.int .i32) := (tab_und 171).trans Try.underlying171
theorem sz171 : size tab 171 = some 1 := by simp only [size, inf171, Option.map]
theorem ag171 : isAgg tab 171 = some false := by simp only [isAgg, und171]
theorem lv2 : leaves tab 8 2 = some [.int .i64] := by (simp [leaves, leavesF, sized, tab_cmp, cmpsL, tab, und2, sz2]; try rfl)
theorem lv3 : leaves tab 8 3 = some [.int .i64] := by (simp [leaves, leavesF, sized, tab_cmp, cmpsL, tab, und3, sz3]; try rfl)
theorem lv4 : leaves tab 8 4 = some [.bool] := by (simp [leaves, leavesF, sized, tab_cmp, cmpsL, tab, und4, sz4]; try rfl)
theorem lv5 : leaves tab 8 5 = some [.int .u8] := by (simp [leaves, leavesF, sized, tab_cmp, cmpsL, tab, und5, sz5]; try rfl)
theorem lv6 : leaves tab 8 6 = some [.int .u8] := by (simp [leaves, leavesF, sized, tab_cmp, cmpsL, tab, und6, sz6]; try rfl)
theorem lv9 : leaves tab 8 9 = some [.string] := by (simp [leaves, leavesF, sized, tab_cmp, cmpsL, tab, und9, sz9]; try rfl)
theorem lv10 : leaves tab 8 10 = some [.string] := by (simp [leaves, leavesF, sized, tab_cmp, cmpsL, tab, und10, sz10]; try rfl)
theorem lv11 : leaves tab 8 11 = some [.string] := by (simp [leaves, leavesF, sized, tab_cmp, cmpsL, tab, und11, sz11]; try rfl)
theorem lv12 : leaves tab 8 12 = some [.int .u64] := by (simp [leaves, leavesF, sized, tab_cmp, cmpsL, tab, und12, sz12]; try rfl)
theorem lv21 : leaves tab 8 21 = some [.int .i32] := by (simp [leaves, leavesF, sized, tab_cmp, cmpsL, tab, und21, sz21]; try rfl)
theorem lv29 : leaves tab 8 29 = some [.int .i64] := by (simp [leaves, leavesF, sized, tab_cmp, cmpsL, tab, und29, sz29]; try rfl)
theorem lv34 : leaves tab 8 34 = some [.int .i64, .int .i64, .string] := by (simp [leaves, leavesF, sized, tab_cmp, cmpsL, tab, und3, sz3, und9, sz9, und34, sz34]; try rfl)
theorem lv36 : leaves tab 8 36 = some [.string, .int .i64, .int .i64, .int .i64, .string, .int .i64, .int .i64, .string] := by (simp [leaves, leavesF, sized, tab_cmp, cmpsL, tab, und3, sz3, und9, sz9, und34, sz34, und36, sz36]; try rfl)
theorem lv46 : leaves tab 8 46 = some [.int .i64, .int .i64, .int .i64, .int .i64, .int .i64, .string, .int .i64, .int .i64, .string, .int .i64] := by (simp [leaves, leavesF, sized, tab_cmp, cmpsL, tab, und3, sz3, und9, sz9, und34, sz34, und46, sz46]; try rfl)
theorem lv71 : leaves tab 8 71 = some [.int .i64, .int .i64] := by (simp [leaves, leavesF, sized, tab_cmp, cmpsL, tab, und3, sz3, und71, sz71]; try rfl)
theorem lv140 : leaves tab 8 140 = some [.int .u64] := by (simp [leaves, leavesF, sized, tab_cmp, cmpsL, tab, und140, sz140]; try rfl)
theorem lv166 : leaves tab 8 166 = some [.int .u32] := by (simp [leaves, leavesF, sized, tab_cmp, cmpsL, tab, und166, sz166]; try rfl)
theorem lv167 : leaves tab 8 167 = some [.int .u8] := by (simp [leaves, leavesF, sized, tab_cmp, cmpsL, tab, und167, sz167]; try rfl)
theorem lv168 : leaves tab 8 168 = some [.int .u8] := by (simp [leaves, leavesF, sized, tab_cmp, cmpsL, tab, und168, sz168]; try rfl)
theorem lv170 : leaves tab 8 170 = some [.int .i32] := by (simp [leaves, leavesF, sized, tab_cmp, cmpsL, tab, und170, sz170]; try rfl)
theorem lv171 : leaves tab 8 171 = some [.int .i32] := by (simp [leaves, leavesF, sized, tab_cmp, cmpsL, tab, und171, sz171]; try rfl)
theorem kp6_19 : tab.keep 6 19 = some ([11, 12, 15, 80, 81, 82], [5, 8, 9, 19, 21, 32, 35, 36, 43, 54, 61, 65, 81]) := tab_keep (by kernel_rfl)
theorem kp6_4 : tab.keep 6 4 = some ([5, 6, 20, 21, 22], [5, 17, 19, 21, 32, 35, 36, 43, 54, 61, 65, 81]) := tab_keep (by kernel_rfl)
theorem kp8_8 : tab.keep 8 8 = some ([11, 12, 14, 15], [9, 11, 12, 27, 29, 33, 35, 48, 70, 79, 99, 127]) := tab_keep (by kernel_rfl)
theorem kp10_8 : tab.keep 10 8 = some ([3, 6, 9, 10, 11, 12, 13, 14, 15, 16, 17, 18, 58, 59], [6, 9, 10, 12, 15, 18, 19, 22, 27, 31, 32, 41, 42, 47, 52, 66, 67, 76, 86, 87]) := tab_keep (by kernel_rfl)
theorem kp11_5 : tab.keep 11 5 = some ([5, 6, 7, 8, 9, 26, 27, 28], [5, 18, 19, 22, 27, 34, 42, 59]) := tab_keep (by kernel_rfl)
theorem kp14_9 : tab.keep 14 9 = some ([3, 9, 35, 36, 37], [17, 36, 45, 49, 50, 55, 56, 65]) := tab_keep (by kernel_rfl)
theorem kp15_3 : tab.keep 15 3 = some ([3, 6, 7, 8], [7, 20, 23, 26]) := tab_keep (by kernel_rfl)
theorem kp19_4 : tab.keep 19 4 = some ([0, 1, 12, 13], [7, 9, 12]) := tab_keep (by kernel_rfl)
theorem kp20_2 : tab.keep 20 2 = some ([0, 1, 11, 12], [16, 22, 24, 30]) := tab_keep (by kernel_rfl)
theorem kp21_11 : tab.keep 21 11 = some ([6, 25, 26, 27], [10, 17, 24, 26, 33]) := tab_keep (by kernel_rfl)
theorem kp21_3 : tab.keep 21 3 = some ([0, 3, 9, 10, 11], [10, 17, 24, 26, 33]) := tab_keep (by kernel_rfl)
theorem kp27_3 : tab.keep 27 3 = some ([4, 5, 8, 9, 10], [9]) := tab_keep (by kernel_rfl)
theorem kp33_3 : tab.keep 33 3 = some ([4, 11, 12, 13], [12, 26, 28, 35]) := tab_keep (by kernel_rfl)
theorem kp36_4 : tab.keep 36 4 = some ([0, 1, 12, 13], [7, 9, 12]) := tab_keep (by kernel_rfl)
theorem kp39_3 : tab.keep 39 3 = some ([4, 5, 11, 12, 13], [1, 12, 19, 27]) := tab_keep (by kernel_rfl)
theorem kp41_5 : tab.keep 41 5 = some ([0, 1, 8], [10, 16, 32, 36]) := tab_keep (by kernel_rfl)
theorem kp42_11 : tab.keep 42 11 = some ([6, 25, 26, 27], [10, 17, 24, 26, 33]) := tab_keep (by kernel_rfl)
theorem kp42_3 : tab.keep 42 3 = some ([0, 3, 9, 10, 11], [10, 17, 24, 26, 33]) := tab_keep (by kernel_rfl)
theorem kp46_5 : tab.keep 46 5 = some ([0, 5, 6], [10, 14, 26, 38, 43]) := tab_keep (by kernel_rfl)
theorem kp47_22 : tab.keep 47 22 = some ([1, 8, 63, 64, 65], [8, 12, 21, 24, 26, 33, 35, 40, 46, 53, 57, 61, 64, 70, 72, 74]) := tab_keep (by kernel_rfl)
theorem kp47_12 : tab.keep 47 12 = some ([0, 1, 5, 39, 40, 41], [8, 12, 21, 24, 26, 33, 35, 40, 46, 53, 57, 61, 64, 70, 72, 74]) := tab_keep (by kernel_rfl)
theorem kp48_4 : tab.keep 48 4 = some ([1, 2, 15, 16, 17], [11, 13, 16, 29]) := tab_keep (by kernel_rfl)
theorem kp53_4 : tab.keep 53 4 = some ([8, 9, 10], [6, 9, 24, 34]) := tab_keep (by kernel_rfl)
theorem kp55_3 : tab.keep 55 3 = some ([5, 15, 16, 17], [10, 12, 14, 16, 30]) := tab_keep (by kernel_rfl)
theorem kp59_4 : tab.keep 59 4 = some ([0, 8, 9, 10], [6, 9, 35, 47]) := tab_keep (by kernel_rfl)
theorem kp60_3 : tab.keep 60 3 = some ([0, 2, 4, 8, 9, 10], [4, 13, 30, 46]) := tab_keep (by kernel_rfl)
theorem kp66_5 : tab.keep 66 5 = some ([13, 14, 15], [1, 8, 14, 20]) := tab_keep (by kernel_rfl)
theorem kp68_2 : tab.keep 68 2 = some ([0, 1, 7, 8], [7, 16]) := tab_keep (by kernel_rfl)
theorem kp69_12 : tab.keep 69 12 = some ([0, 2, 36, 37], [2, 12, 14, 19, 21, 33, 42]) := tab_keep (by kernel_rfl)
theorem kp74_4 : tab.keep 74 4 = some ([0, 8, 9], [5, 8]) := tab_keep (by kernel_rfl)
theorem kp75_3 : tab.keep 75 3 = some ([3, 6, 7, 8], [7]) := tab_keep (by kernel_rfl)
theorem kp79_4 : tab.keep 79 4 = some ([1, 6, 7, 8, 13, 14, 15], [6, 7, 12, 14, 27, 30, 35, 40, 45, 46]) := tab_keep (by kernel_rfl)
theorem kp80_3 : tab.keep 80 3 = some ([2, 3, 4, 7, 8, 13, 14, 15], [7, 8, 14, 26, 28]) := tab_keep (by kernel_rfl)
theorem kp83_5 : tab.keep 83 5 = some ([0, 2, 4, 5, 17, 18], [2, 8]) := tab_keep (by kernel_rfl)
theorem kp85_2 : tab.keep 85 2 = some ([0, 1, 5], [8, 15]) := tab_keep (by kernel_rfl)
theorem kp87_3 : tab.keep 87 3 = some ([0, 2, 4, 5], [2, 9, 19, 24, 42, 66]) := tab_keep (by kernel_rfl)
theorem dr5_2 : tab.drw 5 2 = some [[], [], [1], [], [0, 1, 2, 3], [0, 1, 2, 3], [], []] := tab_drw (by kernel_rfl)
theorem dr5_11 : tab.drw 5 11 = some [[], [], [], [], [0, 1, 2], [], [], [], [], [], [0, 1, 2, 3, 4, 5], [], [], []] := tab_drw (by kernel_rfl)
theorem dr5_12 : tab.drw 5 12 = some [[], [], [], [], [], [], [], [], [], [], [], [], [], [], [], [], [], [], [], [], [], [], [], [], [], [], [], [], [], [], [], [], [], [], [], [], [], [], [], [], [], [], [], [], [], [], [], [], [], [], [], [], [], [], [], [], [], [], [], [], [], [], [], [], [], [], [], [], [], [], [69], [], [], []] := tab_drw (by kernel_rfl)
theorem dr6_6 : tab.drw 6 6 = some [[], [], [], [], [0], [4], [4], [0], [], [], [], [], [0, 3, 4, 5, 6, 7, 8], [], []] := tab_drw (by kernel_rfl)
theorem dr7_2 : tab.drw 7 2 = some [[], [], [1], [], [0, 1, 2, 3], [0, 1, 2, 3], [], []] := tab_drw (by kernel_rfl)
theorem dr8_3 : tab.drw 8 3 = some [[], [], [0], [], [], [], [], [], [0, 1, 2, 4], [], []] := tab_drw (by kernel_rfl)
theorem dr10_2 : tab.drw 10 2 = some [[], [], [0], [], [], [], [], [0, 1, 2, 3], [], []] := tab_drw (by kernel_rfl)
theorem dr10_3 : tab.drw 10 3 = some [[], [], [], [], [], [0, 1, 2, 3], [], [], [], [], [], [0, 1, 2, 3, 4, 5, 6], [], [], []] := tab_drw (by kernel_rfl)
theorem dr10_12 : tab.drw 10 12 = some [[], [], [], [], [], [0, 1, 2, 3], [], [], [], [], [], [0, 1, 2, 3, 4, 5, 6], [], [], []] := tab_drw (by kernel_rfl)
theorem dr15_6 : tab.drw 15 6 = some [[], [], [], [], [], [], [], [5], [], [], [], [], []] := tab_drw (by kernel_rfl)
theorem dr19_6 : tab.drw 19 6 = some [[], [], [], [], [], [], [], [], []] := tab_drw (by kernel_rfl)
theorem dr25_6 : tab.drw 25 6 = some [[], [], [0], [], [], [], []] := tab_drw (by kernel_rfl)
theorem dr30_6 : tab.drw 30 6 = some [[], [], [], [], [], [], [], [], [], []] := tab_drw (by kernel_rfl)
theorem dr31_12 : tab.drw 31 12 = some [[], [], [], [], [], [], [], [], []] := tab_drw (by kernel_rfl)
theorem dr34_5 : tab.drw 34 5 = some [[], [], [], [], [3], [], [], [], [], [], [], []] := tab_drw (by kernel_rfl)
theorem dr36_6 : tab.drw 36 6 = some [[], [], [], [], [], [], [], [], []] := tab_drw (by kernel_rfl)
theorem dr41_7 : tab.drw 41 7 = some [[], [], [], [], [], [], [], [], [], [], []] := tab_drw (by kernel_rfl)
theorem dr52_5 : tab.drw 52 5 = some [[], [], [], [], [], [], [], []] := tab_drw (by kernel_rfl)
theorem dr59_8 : tab.drw 59 8 = some [[], [], [], [], [], [], [], []] := tab_drw (by kernel_rfl)
theorem dr59_10 : tab.drw 59 10 = some [[], [], [], [], [], [], [], [], [], [], [], [], []] := tab_drw (by kernel_rfl)
theorem dr60_5 : tab.drw 60 5 = some [[], [], [], [], [], [], [], []] := tab_drw (by kernel_rfl)
theorem dr60_8 : tab.drw 60 8 = some [[], [], [], [], [], [], [], [], [], [], [], [], [], [], [], []] := tab_drw (by kernel_rfl)
theorem dr61_1 : tab.drw 61 1 = some [[], [], [], [], [], [4], [4], [4], [4], [], [], [], []] := tab_drw (by kernel_rfl)
theorem dr64_5 : tab.drw 64 5 = some [[], [], [], [], [], [], [], []] := tab_drw (by kernel_rfl)
theorem dr70_3 : tab.drw 70 3 = some [[], [], [], [], [], [], [4], [4], [4], [4], [], [], []] := tab_drw (by kernel_rfl)
theorem dr72_1 : tab.drw 72 1 = some [[], [], [], [], [], [], [4], [4], [4], [4], [], []] := tab_drw (by kernel_rfl)
theorem dr78_3 : tab.drw 78 3 = some [[], [], [], [], [], [], [], [], [], [], [], [], [], [], [], [], [1, 2, 3, 5, 6, 7, 9, 10, 11, 12, 14, 15], []] := tab_drw (by kernel_rfl)
theorem dr78_4 : tab.drw 78 4 = some [[], [], [], [], [], [], [], [], [], [], [], [], [], [], []] := tab_drw (by kernel_rfl)
theorem dr80_5 : tab.drw 80 5 = some [[], [], [], [], [], [], [], [0, 1], [], [], [], []] := tab_drw (by kernel_rfl)
theorem dr81_3 : tab.drw 81 3 = some [[], [], [], [0, 1, 2], [3], [3], [], [], []] := tab_drw (by kernel_rfl)
theorem dr87_10 : tab.drw 87 10 = some [[], [], [], [], [], [], [], [], [], []] := tab_drw (by kernel_rfl)
theorem dr90_0 : tab.drw 90 0 = some [[], [], [], [], [], [], [], [], [], [], [4, 8], [4, 8], [4, 8], [4, 8], [], []] := tab_drw (by kernel_rfl)
theorem lv3_0 : tab.lv 3 0 = some 7 := tab_lv (by kernel_rfl)
theorem lv3_1 : tab.lv 3 1 = some 134 := tab_lv (by kernel_rfl)
theorem lv3_2 : tab.lv 3 2 = some 134217862 := tab_lv (by kernel_rfl)
theorem lv3_3 : tab.lv 3 3 = some 64 := tab_lv (by kernel_rfl)
theorem lv3_4 : tab.lv 3 4 = some 388 := tab_lv (by kernel_rfl)
theorem lv3_5 : tab.lv 3 5 = some 896 := tab_lv (by kernel_rfl)
theorem lv3_6 : tab.lv 3 6 = some 3968 := tab_lv (by kernel_rfl)
theorem lv3_7 : tab.lv 3 7 = some 15232 := tab_lv (by kernel_rfl)
theorem lv3_8 : tab.lv 3 8 = some 63872 := tab_lv (by kernel_rfl)
theorem lv3_9 : tab.lv 3 9 = some 243840 := tab_lv (by kernel_rfl)
theorem lv3_10 : tab.lv 3 10 = some 64 := tab_lv (by kernel_rfl)
theorem lv4_0 : tab.lv 4 0 = some 3 := tab_lv (by kernel_rfl)
theorem lv4_1 : tab.lv 4 1 = some 96 := tab_lv (by kernel_rfl)
theorem lv4_2 : tab.lv 4 2 = some 480 := tab_lv (by kernel_rfl)
theorem lv4_3 : tab.lv 4 3 = some 2016 := tab_lv (by kernel_rfl)
theorem lv4_4 : tab.lv 4 4 = some 274877908608 := tab_lv (by kernel_rfl)
theorem lv4_5 : tab.lv 4 5 = some 16 := tab_lv (by kernel_rfl)
theorem lv4_6 : tab.lv 4 6 = some 2199023257216 := tab_lv (by kernel_rfl)
theorem lv4_7 : tab.lv 4 7 = some 16 := tab_lv (by kernel_rfl)
theorem lv4_8 : tab.lv 4 8 = some 16 := tab_lv (by kernel_rfl)
theorem lv5_0 : tab.lv 5 0 = some 403 := tab_lv (by kernel_rfl)
theorem lv5_1 : tab.lv 5 1 = some 2448 := tab_lv (by kernel_rfl)
theorem lv5_2 : tab.lv 5 2 = some 14608 := tab_lv (by kernel_rfl)
theorem lv5_3 : tab.lv 5 3 = some 63760 := tab_lv (by kernel_rfl)
theorem lv5_4 : tab.lv 5 4 = some 129296 := tab_lv (by kernel_rfl)
theorem lv5_5 : tab.lv 5 5 = some 129296 := tab_lv (by kernel_rfl)
theorem lv5_6 : tab.lv 5 6 = some 129296 := tab_lv (by kernel_rfl)
theorem lv5_7 : tab.lv 5 7 = some 1046784 := tab_lv (by kernel_rfl)
theorem lv5_8 : tab.lv 5 8 = some 8321280 := tab_lv (by kernel_rfl)
theorem lv5_9 : tab.lv 5 9 = some 67041536 := tab_lv (by kernel_rfl)
theorem lv5_10 : tab.lv 5 10 = some 536803584 := tab_lv (by kernel_rfl)
theorem lv5_11 : tab.lv 5 11 = some 4294893568 := tab_lv (by kernel_rfl)
theorem lv5_12 : tab.lv 5 12 = some 1024 := tab_lv (by kernel_rfl)
theorem lv6_0 : tab.lv 6 0 = some 3 := tab_lv (by kernel_rfl)
theorem lv6_1 : tab.lv 6 1 = some 33 := tab_lv (by kernel_rfl)
theorem lv6_2 : tab.lv 6 2 = some 97 := tab_lv (by kernel_rfl)
theorem lv6_3 : tab.lv 6 3 = some 7340128 := tab_lv (by kernel_rfl)
theorem lv6_4 : tab.lv 6 4 = some 15728736 := tab_lv (by kernel_rfl)
theorem lv6_5 : tab.lv 6 5 = some 7340512 := tab_lv (by kernel_rfl)
theorem lv6_6 : tab.lv 6 6 = some 7342048 := tab_lv (by kernel_rfl)
theorem lv6_7 : tab.lv 6 7 = some 1099518968800 := tab_lv (by kernel_rfl)
theorem lv6_8 : tab.lv 6 8 = some 16 := tab_lv (by kernel_rfl)
theorem lv6_9 : tab.lv 6 9 = some 17592193385184 := tab_lv (by kernel_rfl)
theorem lv6_10 : tab.lv 6 10 = some 7340640 := tab_lv (by kernel_rfl)
theorem lv6_11 : tab.lv 6 11 = some 7340128 := tab_lv (by kernel_rfl)
theorem lv6_12 : tab.lv 6 12 = some 7340128 := tab_lv (by kernel_rfl)
theorem lv6_13 : tab.lv 6 13 = some 6208 := tab_lv (by kernel_rfl)
theorem lv6_14 : tab.lv 6 14 = some 30784 := tab_lv (by kernel_rfl)
theorem lv6_15 : tab.lv 6 15 = some 604462909807314587359296 := tab_lv (by kernel_rfl)
theorem lv6_16 : tab.lv 6 16 = some 16 := tab_lv (by kernel_rfl)
theorem lv6_17 : tab.lv 6 17 = some 38976 := tab_lv (by kernel_rfl)
theorem lv6_18 : tab.lv 6 18 = some 8462480737302404222982144 := tab_lv (by kernel_rfl)
theorem lv6_19 : tab.lv 6 19 = some 18133887294219437620631552 := tab_lv (by kernel_rfl)
theorem lv6_20 : tab.lv 6 20 = some 8462480737302404223113216 := tab_lv (by kernel_rfl)
theorem lv6_21 : tab.lv 6 21 = some 317947490558647472947894272 := tab_lv (by kernel_rfl)
theorem lv6_22 : tab.lv 6 22 = some 8462480737302404223113216 := tab_lv (by kernel_rfl)
theorem lv6_23 : tab.lv 6 23 = some 633833762594852003152574584832 := tab_lv (by kernel_rfl)
theorem lv6_24 : tab.lv 6 24 = some 16 := tab_lv (by kernel_rfl)
theorem lv6_25 : tab.lv 6 25 = some 8462480737302404222982144 := tab_lv (by kernel_rfl)
theorem lv6_26 : tab.lv 6 26 = some 16 := tab_lv (by kernel_rfl)
theorem lv7_0 : tab.lv 7 0 = some 195 := tab_lv (by kernel_rfl)
theorem lv7_1 : tab.lv 7 1 = some 704 := tab_lv (by kernel_rfl)
theorem lv7_2 : tab.lv 7 2 = some 3584 := tab_lv (by kernel_rfl)
theorem lv7_3 : tab.lv 7 3 = some 32256 := tab_lv (by kernel_rfl)
theorem lv7_4 : tab.lv 7 4 = some 261632 := tab_lv (by kernel_rfl)
theorem lv7_5 : tab.lv 7 5 = some 2096640 := tab_lv (by kernel_rfl)
theorem lv7_6 : tab.lv 7 6 = some 16776192 := tab_lv (by kernel_rfl)
theorem lv7_7 : tab.lv 7 7 = some 67107840 := tab_lv (by kernel_rfl)
theorem lv7_8 : tab.lv 7 8 = some 154742504910672534386359296 := tab_lv (by kernel_rfl)
theorem lv7_9 : tab.lv 7 9 = some 256 := tab_lv (by kernel_rfl)
theorem lv7_10 : tab.lv 7 10 = some 256 := tab_lv (by kernel_rfl)
theorem lv8_0 : tab.lv 8 0 = some 527 := tab_lv (by kernel_rfl)
theorem lv8_1 : tab.lv 8 1 = some 2568 := tab_lv (by kernel_rfl)
theorem lv8_2 : tab.lv 8 2 = some 2568 := tab_lv (by kernel_rfl)
theorem lv8_3 : tab.lv 8 3 = some 14344 := tab_lv (by kernel_rfl)
theorem lv8_4 : tab.lv 8 4 = some 549755820040 := tab_lv (by kernel_rfl)
theorem lv8_5 : tab.lv 8 5 = some 1024 := tab_lv (by kernel_rfl)
theorem lv8_6 : tab.lv 8 6 = some 22536 := tab_lv (by kernel_rfl)
theorem lv8_7 : tab.lv 8 7 = some 55296 := tab_lv (by kernel_rfl)
theorem lv8_8 : tab.lv 8 8 = some 8796093077504 := tab_lv (by kernel_rfl)
theorem lv8_9 : tab.lv 8 9 = some 251904 := tab_lv (by kernel_rfl)
theorem lv8_10 : tab.lv 8 10 = some 4722366482869645236224 := tab_lv (by kernel_rfl)
theorem lv8_11 : tab.lv 8 11 = some 1024 := tab_lv (by kernel_rfl)
theorem lv8_12 : tab.lv 8 12 = some 1857536 := tab_lv (by kernel_rfl)
theorem lv8_13 : tab.lv 8 13 = some 4951760157141521099596519424 := tab_lv (by kernel_rfl)
theorem lv8_14 : tab.lv 8 14 = some 1024 := tab_lv (by kernel_rfl)
theorem lv8_15 : tab.lv 8 15 = some 55296 := tab_lv (by kernel_rfl)
theorem lv8_16 : tab.lv 8 16 = some 14735360 := tab_lv (by kernel_rfl)
theorem lv8_17 : tab.lv 8 17 = some 2596148429267413814265248170956800 := tab_lv (by kernel_rfl)
theorem lv8_18 : tab.lv 8 18 = some 1024 := tab_lv (by kernel_rfl)
theorem lv8_19 : tab.lv 8 19 = some 5192296858534827628530496331372544 := tab_lv (by kernel_rfl)
theorem lv8_20 : tab.lv 8 20 = some 2152448 := tab_lv (by kernel_rfl)
theorem lv8_21 : tab.lv 8 21 = some 55296 := tab_lv (by kernel_rfl)
theorem lv8_22 : tab.lv 8 22 = some 1024 := tab_lv (by kernel_rfl)
theorem lv9_0 : tab.lv 9 0 = some 3 := tab_lv (by kernel_rfl)
theorem lv9_1 : tab.lv 9 1 = some 98 := tab_lv (by kernel_rfl)
theorem lv9_2 : tab.lv 9 2 = some 480 := tab_lv (by kernel_rfl)
theorem lv9_3 : tab.lv 9 3 = some 1504 := tab_lv (by kernel_rfl)
theorem lv9_4 : tab.lv 9 4 = some 7520 := tab_lv (by kernel_rfl)
theorem lv9_5 : tab.lv 9 5 = some 23904 := tab_lv (by kernel_rfl)
theorem lv9_6 : tab.lv 9 6 = some 16 := tab_lv (by kernel_rfl)
theorem lv10_0 : tab.lv 10 0 = some 75 := tab_lv (by kernel_rfl)
theorem lv10_1 : tab.lv 10 1 = some 584 := tab_lv (by kernel_rfl)
theorem lv10_2 : tab.lv 10 2 = some 3656 := tab_lv (by kernel_rfl)
theorem lv10_3 : tab.lv 10 3 = some 32328 := tab_lv (by kernel_rfl)
theorem lv10_4 : tab.lv 10 4 = some 32328 := tab_lv (by kernel_rfl)
theorem lv10_5 : tab.lv 10 5 = some 261704 := tab_lv (by kernel_rfl)
theorem lv10_6 : tab.lv 10 6 = some 523848 := tab_lv (by kernel_rfl)
theorem lv10_7 : tab.lv 10 7 = some 864691128455659080 := tab_lv (by kernel_rfl)
theorem lv10_8 : tab.lv 10 8 = some 2017612633062506056 := tab_lv (by kernel_rfl)
theorem lv10_9 : tab.lv 10 9 = some 864691128455659080 := tab_lv (by kernel_rfl)
theorem lv10_10 : tab.lv 10 10 = some 864691128455659080 := tab_lv (by kernel_rfl)
theorem lv10_11 : tab.lv 10 11 = some 4193856 := tab_lv (by kernel_rfl)
theorem lv10_12 : tab.lv 10 12 = some 33552384 := tab_lv (by kernel_rfl)
theorem lv10_13 : tab.lv 10 13 = some 256 := tab_lv (by kernel_rfl)
theorem lv11_0 : tab.lv 11 0 = some 3 := tab_lv (by kernel_rfl)
theorem lv11_1 : tab.lv 11 1 = some 32 := tab_lv (by kernel_rfl)
theorem lv11_2 : tab.lv 11 2 = some 224 := tab_lv (by kernel_rfl)
theorem lv11_3 : tab.lv 11 3 = some 992 := tab_lv (by kernel_rfl)
theorem lv11_4 : tab.lv 11 4 = some 469763040 := tab_lv (by kernel_rfl)
theorem lv11_5 : tab.lv 11 5 = some 1006633952 := tab_lv (by kernel_rfl)
theorem lv11_6 : tab.lv 11 6 = some 469765088 := tab_lv (by kernel_rfl)
theorem lv11_7 : tab.lv 11 7 = some 469775328 := tab_lv (by kernel_rfl)
theorem lv11_8 : tab.lv 11 8 = some 469763040 := tab_lv (by kernel_rfl)
theorem lv11_9 : tab.lv 11 9 = some 469763040 := tab_lv (by kernel_rfl)
theorem lv11_10 : tab.lv 11 10 = some 16 := tab_lv (by kernel_rfl)
theorem lv12_0 : tab.lv 12 0 = some 7 := tab_lv (by kernel_rfl)
theorem lv12_1 : tab.lv 12 1 = some 390 := tab_lv (by kernel_rfl)
theorem lv12_2 : tab.lv 12 2 = some 390 := tab_lv (by kernel_rfl)
theorem lv12_3 : tab.lv 12 3 = some 3974 := tab_lv (by kernel_rfl)
theorem lv12_4 : tab.lv 12 4 = some 31622 := tab_lv (by kernel_rfl)
theorem lv12_5 : tab.lv 12 5 = some 260864 := tab_lv (by kernel_rfl)
theorem lv12_6 : tab.lv 12 6 = some 64 := tab_lv (by kernel_rfl)
theorem lv13_0 : tab.lv 13 0 = some 9 := tab_lv (by kernel_rfl)
theorem lv13_1 : tab.lv 13 1 = some 104 := tab_lv (by kernel_rfl)
theorem lv13_2 : tab.lv 13 2 = some 104 := tab_lv (by kernel_rfl)
theorem lv13_3 : tab.lv 13 3 = some 1000 := tab_lv (by kernel_rfl)
theorem lv13_4 : tab.lv 13 4 = some 549755814280 := tab_lv (by kernel_rfl)
theorem lv13_5 : tab.lv 13 5 = some 16 := tab_lv (by kernel_rfl)
theorem lv13_6 : tab.lv 13 6 = some 16 := tab_lv (by kernel_rfl)
theorem lv14_0 : tab.lv 14 0 = some 1 := tab_lv (by kernel_rfl)
theorem lv14_1 : tab.lv 14 1 = some 40 := tab_lv (by kernel_rfl)
theorem lv14_2 : tab.lv 14 2 = some 360 := tab_lv (by kernel_rfl)
theorem lv14_3 : tab.lv 14 3 = some 4294967336 := tab_lv (by kernel_rfl)
theorem lv14_4 : tab.lv 14 4 = some 4 := tab_lv (by kernel_rfl)
theorem lv14_5 : tab.lv 14 5 = some 17179869192 := tab_lv (by kernel_rfl)
theorem lv14_6 : tab.lv 14 6 = some 4 := tab_lv (by kernel_rfl)
theorem lv14_7 : tab.lv 14 7 = some 520 := tab_lv (by kernel_rfl)
theorem lv14_8 : tab.lv 14 8 = some 240518169096 := tab_lv (by kernel_rfl)
theorem lv14_9 : tab.lv 14 9 = some 515396076040 := tab_lv (by kernel_rfl)
theorem lv14_10 : tab.lv 14 10 = some 240518171144 := tab_lv (by kernel_rfl)
theorem lv14_11 : tab.lv 14 11 = some 240518169096 := tab_lv (by kernel_rfl)
theorem lv14_12 : tab.lv 14 12 = some 240518169096 := tab_lv (by kernel_rfl)
theorem lv14_13 : tab.lv 14 13 = some 21000 := tab_lv (by kernel_rfl)
theorem lv14_14 : tab.lv 14 14 = some 144115188075876360 := tab_lv (by kernel_rfl)
theorem lv14_15 : tab.lv 14 15 = some 4 := tab_lv (by kernel_rfl)
theorem lv14_16 : tab.lv 14 16 = some 4 := tab_lv (by kernel_rfl)
theorem lv15_0 : tab.lv 15 0 = some 1 := tab_lv (by kernel_rfl)
theorem lv15_1 : tab.lv 15 1 = some 9 := tab_lv (by kernel_rfl)
theorem lv15_2 : tab.lv 15 2 = some 456 := tab_lv (by kernel_rfl)
theorem lv15_3 : tab.lv 15 3 = some 968 := tab_lv (by kernel_rfl)
theorem lv15_4 : tab.lv 15 4 = some 504 := tab_lv (by kernel_rfl)
theorem lv15_5 : tab.lv 15 5 = some 16888 := tab_lv (by kernel_rfl)
theorem lv15_6 : tab.lv 15 6 = some 456 := tab_lv (by kernel_rfl)
theorem lv15_7 : tab.lv 15 7 = some 456 := tab_lv (by kernel_rfl)
theorem lv15_8 : tab.lv 15 8 = some 4 := tab_lv (by kernel_rfl)
theorem lv16_0 : tab.lv 16 0 = some 1 := tab_lv (by kernel_rfl)
theorem lv16_1 : tab.lv 16 1 = some 17 := tab_lv (by kernel_rfl)
theorem lv16_2 : tab.lv 16 2 = some 4 := tab_lv (by kernel_rfl)
theorem lv16_3 : tab.lv 16 3 = some 4 := tab_lv (by kernel_rfl)
theorem lv17_0 : tab.lv 17 0 = some 3 := tab_lv (by kernel_rfl)
theorem lv17_1 : tab.lv 17 1 = some 67 := tab_lv (by kernel_rfl)
theorem lv17_2 : tab.lv 17 2 = some 3 := tab_lv (by kernel_rfl)
theorem lv17_3 : tab.lv 17 3 = some 16 := tab_lv (by kernel_rfl)
theorem lv18_0 : tab.lv 18 0 = some 3 := tab_lv (by kernel_rfl)
theorem lv18_1 : tab.lv 18 1 = some 131 := tab_lv (by kernel_rfl)
theorem lv18_2 : tab.lv 18 2 = some 32899 := tab_lv (by kernel_rfl)
theorem lv18_3 : tab.lv 18 3 = some 48 := tab_lv (by kernel_rfl)
theorem lv18_4 : tab.lv 18 4 = some 48 := tab_lv (by kernel_rfl)
theorem lv19_0 : tab.lv 19 0 = some 3 := tab_lv (by kernel_rfl)
theorem lv19_1 : tab.lv 19 1 = some 1027 := tab_lv (by kernel_rfl)
theorem lv19_2 : tab.lv 19 2 = some 16 := tab_lv (by kernel_rfl)
theorem lv19_3 : tab.lv 19 3 = some 12291 := tab_lv (by kernel_rfl)
theorem lv19_4 : tab.lv 19 4 = some 28675 := tab_lv (by kernel_rfl)
theorem lv19_5 : tab.lv 19 5 = some 12323 := tab_lv (by kernel_rfl)
theorem lv19_6 : tab.lv 19 6 = some 16789507 := tab_lv (by kernel_rfl)
theorem lv19_7 : tab.lv 19 7 = some 16 := tab_lv (by kernel_rfl)
theorem lv19_8 : tab.lv 19 8 = some 12291 := tab_lv (by kernel_rfl)
theorem lv19_9 : tab.lv 19 9 = some 16 := tab_lv (by kernel_rfl)
theorem lv20_0 : tab.lv 20 0 = some 3 := tab_lv (by kernel_rfl)
theorem lv20_1 : tab.lv 20 1 = some 6147 := tab_lv (by kernel_rfl)
theorem lv20_2 : tab.lv 20 2 = some 14339 := tab_lv (by kernel_rfl)
theorem lv20_3 : tab.lv 20 3 = some 6275 := tab_lv (by kernel_rfl)
theorem lv20_4 : tab.lv 20 4 = some 6403 := tab_lv (by kernel_rfl)
theorem lv20_5 : tab.lv 20 5 = some 268547 := tab_lv (by kernel_rfl)
theorem lv20_6 : tab.lv 20 6 = some 48 := tab_lv (by kernel_rfl)
theorem lv20_7 : tab.lv 20 7 = some 6147 := tab_lv (by kernel_rfl)
theorem lv20_8 : tab.lv 20 8 = some 67108867 := tab_lv (by kernel_rfl)
theorem lv20_9 : tab.lv 20 9 = some 48 := tab_lv (by kernel_rfl)
theorem lv20_10 : tab.lv 20 10 = some 48 := tab_lv (by kernel_rfl)
theorem lv21_0 : tab.lv 21 0 = some 1 := tab_lv (by kernel_rfl)
theorem lv21_1 : tab.lv 21 1 = some 9 := tab_lv (by kernel_rfl)
theorem lv21_2 : tab.lv 21 2 = some 3593 := tab_lv (by kernel_rfl)
theorem lv21_3 : tab.lv 21 3 = some 7689 := tab_lv (by kernel_rfl)
theorem lv21_4 : tab.lv 21 4 = some 3625 := tab_lv (by kernel_rfl)
theorem lv21_5 : tab.lv 21 5 = some 3593 := tab_lv (by kernel_rfl)
theorem lv21_6 : tab.lv 21 6 = some 1052169 := tab_lv (by kernel_rfl)
theorem lv21_7 : tab.lv 21 7 = some 3593 := tab_lv (by kernel_rfl)
theorem lv21_8 : tab.lv 21 8 = some 3593 := tab_lv (by kernel_rfl)
theorem lv21_9 : tab.lv 21 9 = some 65 := tab_lv (by kernel_rfl)
theorem lv21_10 : tab.lv 21 10 = some 234881088 := tab_lv (by kernel_rfl)
theorem lv21_11 : tab.lv 21 11 = some 503316544 := tab_lv (by kernel_rfl)
theorem lv21_12 : tab.lv 21 12 = some 234881344 := tab_lv (by kernel_rfl)
theorem lv21_13 : tab.lv 21 13 = some 234881088 := tab_lv (by kernel_rfl)
theorem lv21_14 : tab.lv 21 14 = some 234881088 := tab_lv (by kernel_rfl)
theorem lv21_15 : tab.lv 21 15 = some 4 := tab_lv (by kernel_rfl)
theorem lv22_0 : tab.lv 22 0 = some 71 := tab_lv (by kernel_rfl)
theorem lv22_1 : tab.lv 22 1 = some 197 := tab_lv (by kernel_rfl)
theorem lv22_2 : tab.lv 22 2 = some 64 := tab_lv (by kernel_rfl)
theorem lv23_0 : tab.lv 23 0 = some 25 := tab_lv (by kernel_rfl)
theorem lv23_1 : tab.lv 23 1 = some 56 := tab_lv (by kernel_rfl)
theorem lv23_2 : tab.lv 23 2 = some 120 := tab_lv (by kernel_rfl)
theorem lv23_3 : tab.lv 23 3 = some 2072 := tab_lv (by kernel_rfl)
theorem lv23_4 : tab.lv 23 4 = some 16 := tab_lv (by kernel_rfl)
theorem lv23_5 : tab.lv 23 5 = some 16 := tab_lv (by kernel_rfl)
theorem lv23_6 : tab.lv 23 6 = some 4194328 := tab_lv (by kernel_rfl)
theorem lv23_7 : tab.lv 23 7 = some 16 := tab_lv (by kernel_rfl)
theorem lv23_8 : tab.lv 23 8 = some 16 := tab_lv (by kernel_rfl)
theorem lv24_0 : tab.lv 24 0 = some 346 := tab_lv (by kernel_rfl)
theorem lv24_1 : tab.lv 24 1 = some 1370 := tab_lv (by kernel_rfl)
theorem lv24_2 : tab.lv 24 2 = some 66906 := tab_lv (by kernel_rfl)
theorem lv24_3 : tab.lv 24 3 = some 768 := tab_lv (by kernel_rfl)
theorem lv24_4 : tab.lv 24 4 = some 4294967642 := tab_lv (by kernel_rfl)
theorem lv24_5 : tab.lv 24 5 = some 768 := tab_lv (by kernel_rfl)
theorem lv24_6 : tab.lv 24 6 = some 68719477082 := tab_lv (by kernel_rfl)
theorem lv24_7 : tab.lv 24 7 = some 768 := tab_lv (by kernel_rfl)
theorem lv24_8 : tab.lv 24 8 = some 2378 := tab_lv (by kernel_rfl)
theorem lv24_9 : tab.lv 24 9 = some 768 := tab_lv (by kernel_rfl)
theorem lv25_0 : tab.lv 25 0 = some 1892 := tab_lv (by kernel_rfl)
theorem lv25_1 : tab.lv 25 1 = some 10020 := tab_lv (by kernel_rfl)
theorem lv25_2 : tab.lv 25 2 = some 272164 := tab_lv (by kernel_rfl)
theorem lv25_3 : tab.lv 25 3 = some 7168 := tab_lv (by kernel_rfl)
theorem lv25_4 : tab.lv 25 4 = some 1099511629344 := tab_lv (by kernel_rfl)
theorem lv25_5 : tab.lv 25 5 = some 7168 := tab_lv (by kernel_rfl)
theorem lv25_6 : tab.lv 25 6 = some 1056 := tab_lv (by kernel_rfl)
theorem lv25_7 : tab.lv 25 7 = some 7168 := tab_lv (by kernel_rfl)
theorem lv26_0 : tab.lv 26 0 = some 6 := tab_lv (by kernel_rfl)
theorem lv26_1 : tab.lv 26 1 = some 22 := tab_lv (by kernel_rfl)
theorem lv26_2 : tab.lv 26 2 = some 54 := tab_lv (by kernel_rfl)
theorem lv26_3 : tab.lv 26 3 = some 4 := tab_lv (by kernel_rfl)
theorem lv26_4 : tab.lv 26 4 = some 516 := tab_lv (by kernel_rfl)
theorem lv26_5 : tab.lv 26 5 = some 4 := tab_lv (by kernel_rfl)
theorem lv26_6 : tab.lv 26 6 = some 4 := tab_lv (by kernel_rfl)
theorem lv27_0 : tab.lv 27 0 = some 1 := tab_lv (by kernel_rfl)
theorem lv27_1 : tab.lv 27 1 = some 49 := tab_lv (by kernel_rfl)
theorem lv27_2 : tab.lv 27 2 = some 1840 := tab_lv (by kernel_rfl)
theorem lv27_3 : tab.lv 27 3 = some 3888 := tab_lv (by kernel_rfl)
theorem lv27_4 : tab.lv 27 4 = some 1968 := tab_lv (by kernel_rfl)
theorem lv27_5 : tab.lv 27 5 = some 67110832 := tab_lv (by kernel_rfl)
theorem lv27_6 : tab.lv 27 6 = some 1840 := tab_lv (by kernel_rfl)
theorem lv27_7 : tab.lv 27 7 = some 1840 := tab_lv (by kernel_rfl)
theorem lv27_8 : tab.lv 27 8 = some 2147483664 := tab_lv (by kernel_rfl)
theorem lv27_9 : tab.lv 27 9 = some 12 := tab_lv (by kernel_rfl)
theorem lv27_10 : tab.lv 27 10 = some 12 := tab_lv (by kernel_rfl)
theorem lv28_0 : tab.lv 28 0 = some 1396 := tab_lv (by kernel_rfl)
theorem lv28_1 : tab.lv 28 1 = some 9588 := tab_lv (by kernel_rfl)
theorem lv28_2 : tab.lv 28 2 = some 2106740 := tab_lv (by kernel_rfl)
theorem lv28_3 : tab.lv 28 3 = some 7168 := tab_lv (by kernel_rfl)
theorem lv28_4 : tab.lv 28 4 = some 17780 := tab_lv (by kernel_rfl)
theorem lv28_5 : tab.lv 28 5 = some 134235508 := tab_lv (by kernel_rfl)
theorem lv28_6 : tab.lv 28 6 = some 7168 := tab_lv (by kernel_rfl)
theorem lv28_7 : tab.lv 28 7 = some 4294968692 := tab_lv (by kernel_rfl)
theorem lv28_8 : tab.lv 28 8 = some 7168 := tab_lv (by kernel_rfl)
theorem lv28_9 : tab.lv 28 9 = some 4398046512500 := tab_lv (by kernel_rfl)
theorem lv28_10 : tab.lv 28 10 = some 7168 := tab_lv (by kernel_rfl)
theorem lv28_11 : tab.lv 28 11 = some 99328 := tab_lv (by kernel_rfl)
theorem lv28_12 : tab.lv 28 12 = some 9007199254840320 := tab_lv (by kernel_rfl)
theorem lv28_13 : tab.lv 28 13 = some 7168 := tab_lv (by kernel_rfl)
theorem lv28_14 : tab.lv 28 14 = some 7168 := tab_lv (by kernel_rfl)
theorem lv29_0 : tab.lv 29 0 = some 25 := tab_lv (by kernel_rfl)
theorem lv29_1 : tab.lv 29 1 = some 281 := tab_lv (by kernel_rfl)
theorem lv29_2 : tab.lv 29 2 = some 48 := tab_lv (by kernel_rfl)
theorem lv29_3 : tab.lv 29 3 = some 48 := tab_lv (by kernel_rfl)
theorem lv30_0 : tab.lv 30 0 = some 6 := tab_lv (by kernel_rfl)
theorem lv30_1 : tab.lv 30 1 = some 70 := tab_lv (by kernel_rfl)
theorem lv30_2 : tab.lv 30 2 = some 1094 := tab_lv (by kernel_rfl)
theorem lv30_3 : tab.lv 30 3 = some 48 := tab_lv (by kernel_rfl)
theorem lv30_4 : tab.lv 30 4 = some 524294 := tab_lv (by kernel_rfl)
theorem lv30_5 : tab.lv 30 5 = some 48 := tab_lv (by kernel_rfl)
theorem lv30_6 : tab.lv 30 6 = some 48 := tab_lv (by kernel_rfl)
theorem lv31_0 : tab.lv 31 0 = some 12 := tab_lv (by kernel_rfl)
theorem lv31_1 : tab.lv 31 1 = some 44 := tab_lv (by kernel_rfl)
theorem lv31_2 : tab.lv 31 2 = some 2092 := tab_lv (by kernel_rfl)
theorem lv31_3 : tab.lv 31 3 = some 16 := tab_lv (by kernel_rfl)
theorem lv31_4 : tab.lv 31 4 = some 1048588 := tab_lv (by kernel_rfl)
theorem lv31_5 : tab.lv 31 5 = some 16 := tab_lv (by kernel_rfl)
theorem lv31_6 : tab.lv 31 6 = some 8388620 := tab_lv (by kernel_rfl)
theorem lv31_7 : tab.lv 31 7 = some 67108864 := tab_lv (by kernel_rfl)
theorem lv31_8 : tab.lv 31 8 = some 16 := tab_lv (by kernel_rfl)
theorem lv31_9 : tab.lv 31 9 = some 16 := tab_lv (by kernel_rfl)
theorem lv31_10 : tab.lv 31 10 = some 72057594037927948 := tab_lv (by kernel_rfl)
theorem lv31_11 : tab.lv 31 11 = some 16 := tab_lv (by kernel_rfl)
theorem lv31_12 : tab.lv 31 12 = some 204 := tab_lv (by kernel_rfl)
theorem lv31_13 : tab.lv 31 13 = some 20282409603651670423947251286016 := tab_lv (by kernel_rfl)
theorem lv31_14 : tab.lv 31 14 = some 16 := tab_lv (by kernel_rfl)
theorem lv31_15 : tab.lv 31 15 = some 16 := tab_lv (by kernel_rfl)
theorem lv32_0 : tab.lv 32 0 = some 92 := tab_lv (by kernel_rfl)
theorem lv32_1 : tab.lv 32 1 = some 604 := tab_lv (by kernel_rfl)
theorem lv32_2 : tab.lv 32 2 = some 66140 := tab_lv (by kernel_rfl)
theorem lv32_3 : tab.lv 32 3 = some 448 := tab_lv (by kernel_rfl)
theorem lv32_4 : tab.lv 32 4 = some 16777308 := tab_lv (by kernel_rfl)
theorem lv32_5 : tab.lv 32 5 = some 448 := tab_lv (by kernel_rfl)
theorem lv32_6 : tab.lv 32 6 = some 17179869276 := tab_lv (by kernel_rfl)
theorem lv32_7 : tab.lv 32 7 = some 448 := tab_lv (by kernel_rfl)
theorem lv32_8 : tab.lv 32 8 = some 1099511627868 := tab_lv (by kernel_rfl)
theorem lv32_9 : tab.lv 32 9 = some 72 := tab_lv (by kernel_rfl)
theorem lv32_10 : tab.lv 32 10 = some 448 := tab_lv (by kernel_rfl)
theorem lv32_11 : tab.lv 32 11 = some 92 := tab_lv (by kernel_rfl)
theorem lv32_12 : tab.lv 32 12 = some 1100 := tab_lv (by kernel_rfl)
theorem lv32_13 : tab.lv 32 13 = some 72 := tab_lv (by kernel_rfl)
theorem lv32_14 : tab.lv 32 14 = some 448 := tab_lv (by kernel_rfl)
theorem lv33_0 : tab.lv 33 0 = some 1 := tab_lv (by kernel_rfl)
theorem lv33_1 : tab.lv 33 1 = some 17 := tab_lv (by kernel_rfl)
theorem lv33_2 : tab.lv 33 2 = some 14352 := tab_lv (by kernel_rfl)
theorem lv33_3 : tab.lv 33 3 = some 30736 := tab_lv (by kernel_rfl)
theorem lv33_4 : tab.lv 33 4 = some 14448 := tab_lv (by kernel_rfl)
theorem lv33_5 : tab.lv 33 5 = some 538736 := tab_lv (by kernel_rfl)
theorem lv33_6 : tab.lv 33 6 = some 14752 := tab_lv (by kernel_rfl)
theorem lv33_7 : tab.lv 33 7 = some 549755828352 := tab_lv (by kernel_rfl)
theorem lv33_8 : tab.lv 33 8 = some 12 := tab_lv (by kernel_rfl)
theorem lv33_9 : tab.lv 33 9 = some 14352 := tab_lv (by kernel_rfl)
theorem lv33_10 : tab.lv 33 10 = some 14352 := tab_lv (by kernel_rfl)
theorem lv33_11 : tab.lv 33 11 = some 1552 := tab_lv (by kernel_rfl)
theorem lv33_12 : tab.lv 33 12 = some 12 := tab_lv (by kernel_rfl)
theorem lv34_0 : tab.lv 34 0 = some 9 := tab_lv (by kernel_rfl)
theorem lv34_1 : tab.lv 34 1 = some 73 := tab_lv (by kernel_rfl)
theorem lv34_2 : tab.lv 34 2 = some 16457 := tab_lv (by kernel_rfl)
theorem lv34_3 : tab.lv 34 3 = some 48 := tab_lv (by kernel_rfl)
theorem lv34_4 : tab.lv 34 4 = some 137 := tab_lv (by kernel_rfl)
theorem lv34_5 : tab.lv 34 5 = some 512 := tab_lv (by kernel_rfl)
theorem lv34_6 : tab.lv 34 6 = some 1536 := tab_lv (by kernel_rfl)
theorem lv34_7 : tab.lv 34 7 = some 68719478272 := tab_lv (by kernel_rfl)
theorem lv34_8 : tab.lv 34 8 = some 48 := tab_lv (by kernel_rfl)
theorem lv34_9 : tab.lv 34 9 = some 48 := tab_lv (by kernel_rfl)
theorem lv35_0 : tab.lv 35 0 = some 3 := tab_lv (by kernel_rfl)
theorem lv35_1 : tab.lv 35 1 = some 67 := tab_lv (by kernel_rfl)
theorem lv35_2 : tab.lv 35 2 = some 2115 := tab_lv (by kernel_rfl)
theorem lv35_3 : tab.lv 35 3 = some 48 := tab_lv (by kernel_rfl)
theorem lv35_4 : tab.lv 35 4 = some 129 := tab_lv (by kernel_rfl)
theorem lv35_5 : tab.lv 35 5 = some 131201 := tab_lv (by kernel_rfl)
theorem lv35_6 : tab.lv 35 6 = some 48 := tab_lv (by kernel_rfl)
theorem lv35_7 : tab.lv 35 7 = some 48 := tab_lv (by kernel_rfl)
theorem lv36_0 : tab.lv 36 0 = some 3 := tab_lv (by kernel_rfl)
theorem lv36_1 : tab.lv 36 1 = some 1027 := tab_lv (by kernel_rfl)
theorem lv36_2 : tab.lv 36 2 = some 16 := tab_lv (by kernel_rfl)
theorem lv36_3 : tab.lv 36 3 = some 12291 := tab_lv (by kernel_rfl)
theorem lv36_4 : tab.lv 36 4 = some 28675 := tab_lv (by kernel_rfl)
theorem lv36_5 : tab.lv 36 5 = some 12323 := tab_lv (by kernel_rfl)
theorem lv36_6 : tab.lv 36 6 = some 16789507 := tab_lv (by kernel_rfl)
theorem lv36_7 : tab.lv 36 7 = some 16 := tab_lv (by kernel_rfl)
theorem lv36_8 : tab.lv 36 8 = some 12291 := tab_lv (by kernel_rfl)
theorem lv36_9 : tab.lv 36 9 = some 16 := tab_lv (by kernel_rfl)
theorem lv37_0 : tab.lv 37 0 = some 71 := tab_lv (by kernel_rfl)
theorem lv37_1 : tab.lv 37 1 = some 198 := tab_lv (by kernel_rfl)
theorem lv37_2 : tab.lv 37 2 = some 64 := tab_lv (by kernel_rfl)
theorem lv38_0 : tab.lv 38 0 = some 0 := tab_lv (by kernel_rfl)
theorem lv38_1 : tab.lv 38 1 = some 1 := tab_lv (by kernel_rfl)
theorem lv39_0 : tab.lv 39 0 = some 2 := tab_lv (by kernel_rfl)
theorem lv39_1 : tab.lv 39 1 = some 50 := tab_lv (by kernel_rfl)
theorem lv39_2 : tab.lv 39 2 = some 14384 := tab_lv (by kernel_rfl)
theorem lv39_3 : tab.lv 39 3 = some 30768 := tab_lv (by kernel_rfl)
theorem lv39_4 : tab.lv 39 4 = some 14512 := tab_lv (by kernel_rfl)
theorem lv39_5 : tab.lv 39 5 = some 15152 := tab_lv (by kernel_rfl)
theorem lv39_6 : tab.lv 39 6 = some 14384 := tab_lv (by kernel_rfl)
theorem lv39_7 : tab.lv 39 7 = some 14384 := tab_lv (by kernel_rfl)
theorem lv39_8 : tab.lv 39 8 = some 12 := tab_lv (by kernel_rfl)
theorem lv40_0 : tab.lv 40 0 = some 2 := tab_lv (by kernel_rfl)
theorem lv40_1 : tab.lv 40 1 = some 26 := tab_lv (by kernel_rfl)
theorem lv40_2 : tab.lv 40 2 = some 2066 := tab_lv (by kernel_rfl)
theorem lv40_3 : tab.lv 40 3 = some 4 := tab_lv (by kernel_rfl)
theorem lv40_4 : tab.lv 40 4 = some 8194 := tab_lv (by kernel_rfl)
theorem lv40_5 : tab.lv 40 5 = some 4 := tab_lv (by kernel_rfl)
theorem lv40_6 : tab.lv 40 6 = some 4 := tab_lv (by kernel_rfl)
theorem lv41_0 : tab.lv 41 0 = some 3 := tab_lv (by kernel_rfl)
theorem lv41_1 : tab.lv 41 1 = some 131 := tab_lv (by kernel_rfl)
theorem lv41_2 : tab.lv 41 2 = some 4227 := tab_lv (by kernel_rfl)
theorem lv41_3 : tab.lv 41 3 = some 112 := tab_lv (by kernel_rfl)
theorem lv41_4 : tab.lv 41 4 = some 259 := tab_lv (by kernel_rfl)
theorem lv41_5 : tab.lv 41 5 = some 67109123 := tab_lv (by kernel_rfl)
theorem lv41_6 : tab.lv 41 6 = some 259 := tab_lv (by kernel_rfl)
theorem lv41_7 : tab.lv 41 7 = some 112 := tab_lv (by kernel_rfl)
theorem lv42_0 : tab.lv 42 0 = some 1 := tab_lv (by kernel_rfl)
theorem lv42_1 : tab.lv 42 1 = some 9 := tab_lv (by kernel_rfl)
theorem lv42_2 : tab.lv 42 2 = some 3593 := tab_lv (by kernel_rfl)
theorem lv42_3 : tab.lv 42 3 = some 7689 := tab_lv (by kernel_rfl)
theorem lv42_4 : tab.lv 42 4 = some 3625 := tab_lv (by kernel_rfl)
theorem lv42_5 : tab.lv 42 5 = some 3593 := tab_lv (by kernel_rfl)
theorem lv42_6 : tab.lv 42 6 = some 1052169 := tab_lv (by kernel_rfl)
theorem lv42_7 : tab.lv 42 7 = some 3593 := tab_lv (by kernel_rfl)
theorem lv42_8 : tab.lv 42 8 = some 3593 := tab_lv (by kernel_rfl)
theorem lv42_9 : tab.lv 42 9 = some 65 := tab_lv (by kernel_rfl)
theorem lv42_10 : tab.lv 42 10 = some 234881088 := tab_lv (by kernel_rfl)
theorem lv42_11 : tab.lv 42 11 = some 503316544 := tab_lv (by kernel_rfl)
theorem lv42_12 : tab.lv 42 12 = some 234881344 := tab_lv (by kernel_rfl)
theorem lv42_13 : tab.lv 42 13 = some 234881088 := tab_lv (by kernel_rfl)
theorem lv42_14 : tab.lv 42 14 = some 234881088 := tab_lv (by kernel_rfl)
theorem lv42_15 : tab.lv 42 15 = some 4 := tab_lv (by kernel_rfl)
theorem lv43_0 : tab.lv 43 0 = some 3 := tab_lv (by kernel_rfl)
theorem lv43_1 : tab.lv 43 1 = some 16 := tab_lv (by kernel_rfl)
theorem lv44_0 : tab.lv 44 0 = some 6 := tab_lv (by kernel_rfl)
theorem lv44_1 : tab.lv 44 1 = some 8 := tab_lv (by kernel_rfl)
theorem lv45_0 : tab.lv 45 0 = some 6 := tab_lv (by kernel_rfl)
theorem lv45_1 : tab.lv 45 1 = some 8 := tab_lv (by kernel_rfl)
theorem lv46_0 : tab.lv 46 0 = some 1 := tab_lv (by kernel_rfl)
theorem lv46_1 : tab.lv 46 1 = some 2049 := tab_lv (by kernel_rfl)
theorem lv46_2 : tab.lv 46 2 = some 28 := tab_lv (by kernel_rfl)
theorem lv46_3 : tab.lv 46 3 = some 33 := tab_lv (by kernel_rfl)
theorem lv46_4 : tab.lv 46 4 = some 97 := tab_lv (by kernel_rfl)
theorem lv46_5 : tab.lv 46 5 = some 32865 := tab_lv (by kernel_rfl)
theorem lv46_6 : tab.lv 46 6 = some 524385 := tab_lv (by kernel_rfl)
theorem lv46_7 : tab.lv 46 7 = some 97 := tab_lv (by kernel_rfl)
theorem lv46_8 : tab.lv 46 8 = some 481 := tab_lv (by kernel_rfl)
theorem lv46_9 : tab.lv 46 9 = some 1073742305 := tab_lv (by kernel_rfl)
theorem lv46_10 : tab.lv 46 10 = some 28 := tab_lv (by kernel_rfl)
theorem lv46_11 : tab.lv 46 11 = some 225 := tab_lv (by kernel_rfl)
theorem lv46_12 : tab.lv 46 12 = some 225 := tab_lv (by kernel_rfl)
theorem lv46_13 : tab.lv 46 13 = some 97 := tab_lv (by kernel_rfl)
theorem lv46_14 : tab.lv 46 14 = some 28 := tab_lv (by kernel_rfl)
theorem lv47_0 : tab.lv 47 0 = some 3 := tab_lv (by kernel_rfl)
theorem lv47_1 : tab.lv 47 1 = some 4099 := tab_lv (by kernel_rfl)
theorem lv47_2 : tab.lv 47 2 = some 12291 := tab_lv (by kernel_rfl)
theorem lv47_3 : tab.lv 47 3 = some 16 := tab_lv (by kernel_rfl)
theorem lv47_4 : tab.lv 47 4 = some 32771 := tab_lv (by kernel_rfl)
theorem lv47_5 : tab.lv 47 5 = some 16 := tab_lv (by kernel_rfl)
theorem lv47_6 : tab.lv 47 6 = some 35 := tab_lv (by kernel_rfl)
theorem lv47_7 : tab.lv 47 7 = some 4194339 := tab_lv (by kernel_rfl)
theorem lv47_8 : tab.lv 47 8 = some 536870947 := tab_lv (by kernel_rfl)
theorem lv47_9 : tab.lv 47 9 = some 35 := tab_lv (by kernel_rfl)
theorem lv47_10 : tab.lv 47 10 = some 35 := tab_lv (by kernel_rfl)
theorem lv47_11 : tab.lv 47 11 = some 3848290697251 := tab_lv (by kernel_rfl)
theorem lv47_12 : tab.lv 47 12 = some 8246337208355 := tab_lv (by kernel_rfl)
theorem lv47_13 : tab.lv 47 13 = some 3848290697379 := tab_lv (by kernel_rfl)
theorem lv47_14 : tab.lv 47 14 = some 566798244118691 := tab_lv (by kernel_rfl)
theorem lv47_15 : tab.lv 47 15 = some 3848290697379 := tab_lv (by kernel_rfl)
theorem lv47_16 : tab.lv 47 16 = some 3848290697251 := tab_lv (by kernel_rfl)
theorem lv47_17 : tab.lv 47 17 = some 3848290697251 := tab_lv (by kernel_rfl)
theorem lv47_18 : tab.lv 47 18 = some 291 := tab_lv (by kernel_rfl)
theorem lv47_19 : tab.lv 47 19 = some 259 := tab_lv (by kernel_rfl)
theorem lv47_20 : tab.lv 47 20 = some 259 := tab_lv (by kernel_rfl)
theorem lv47_21 : tab.lv 47 21 = some 64563604257983430914 := tab_lv (by kernel_rfl)
theorem lv47_22 : tab.lv 47 22 = some 138350580552821637378 := tab_lv (by kernel_rfl)
theorem lv47_23 : tab.lv 47 23 = some 64563604257983431938 := tab_lv (by kernel_rfl)
theorem lv47_24 : tab.lv 47 24 = some 64563604257983431938 := tab_lv (by kernel_rfl)
theorem lv47_25 : tab.lv 47 25 = some 64563604257983430914 := tab_lv (by kernel_rfl)
theorem lv47_26 : tab.lv 47 26 = some 64563604257983430914 := tab_lv (by kernel_rfl)
theorem lv47_27 : tab.lv 47 27 = some 16 := tab_lv (by kernel_rfl)
theorem lv48_0 : tab.lv 48 0 = some 7 := tab_lv (by kernel_rfl)
theorem lv48_1 : tab.lv 48 1 = some 16391 := tab_lv (by kernel_rfl)
theorem lv48_2 : tab.lv 48 2 = some 64 := tab_lv (by kernel_rfl)
theorem lv48_3 : tab.lv 48 3 = some 229382 := tab_lv (by kernel_rfl)
theorem lv48_4 : tab.lv 48 4 = some 491526 := tab_lv (by kernel_rfl)
theorem lv48_5 : tab.lv 48 5 = some 229766 := tab_lv (by kernel_rfl)
theorem lv48_6 : tab.lv 48 6 = some 230150 := tab_lv (by kernel_rfl)
theorem lv48_7 : tab.lv 48 7 = some 1073971206 := tab_lv (by kernel_rfl)
theorem lv48_8 : tab.lv 48 8 = some 64 := tab_lv (by kernel_rfl)
theorem lv48_9 : tab.lv 48 9 = some 229382 := tab_lv (by kernel_rfl)
theorem lv48_10 : tab.lv 48 10 = some 64 := tab_lv (by kernel_rfl)
theorem lv49_0 : tab.lv 49 0 = some 12 := tab_lv (by kernel_rfl)
theorem lv49_1 : tab.lv 49 1 = some 16 := tab_lv (by kernel_rfl)
theorem lv50_0 : tab.lv 50 0 = some 19 := tab_lv (by kernel_rfl)
theorem lv50_1 : tab.lv 50 1 = some 83 := tab_lv (by kernel_rfl)
theorem lv50_2 : tab.lv 50 2 = some 1107 := tab_lv (by kernel_rfl)
theorem lv50_3 : tab.lv 50 3 = some 48 := tab_lv (by kernel_rfl)
theorem lv50_4 : tab.lv 50 4 = some 1048595 := tab_lv (by kernel_rfl)
theorem lv50_5 : tab.lv 50 5 = some 48 := tab_lv (by kernel_rfl)
theorem lv50_6 : tab.lv 50 6 = some 48 := tab_lv (by kernel_rfl)
theorem lv51_0 : tab.lv 51 0 = some 1 := tab_lv (by kernel_rfl)
theorem lv51_1 : tab.lv 51 1 = some 17 := tab_lv (by kernel_rfl)
theorem lv51_2 : tab.lv 51 2 = some 4 := tab_lv (by kernel_rfl)
theorem lv51_3 : tab.lv 51 3 = some 4 := tab_lv (by kernel_rfl)
theorem lv52_0 : tab.lv 52 0 = some 7 := tab_lv (by kernel_rfl)
theorem lv52_1 : tab.lv 52 1 = some 7 := tab_lv (by kernel_rfl)
theorem lv52_2 : tab.lv 52 2 = some 65543 := tab_lv (by kernel_rfl)
theorem lv52_3 : tab.lv 52 3 = some 64 := tab_lv (by kernel_rfl)
theorem lv52_4 : tab.lv 52 4 = some 135 := tab_lv (by kernel_rfl)
theorem lv52_5 : tab.lv 52 5 = some 129 := tab_lv (by kernel_rfl)
theorem lv52_6 : tab.lv 52 6 = some 1 := tab_lv (by kernel_rfl)
theorem lv52_7 : tab.lv 52 7 = some 64 := tab_lv (by kernel_rfl)
theorem lv53_0 : tab.lv 53 0 = some 1 := tab_lv (by kernel_rfl)
theorem lv53_1 : tab.lv 53 1 = some 129 := tab_lv (by kernel_rfl)
theorem lv53_2 : tab.lv 53 2 = some 4 := tab_lv (by kernel_rfl)
theorem lv53_3 : tab.lv 53 3 = some 1792 := tab_lv (by kernel_rfl)
theorem lv53_4 : tab.lv 53 4 = some 3840 := tab_lv (by kernel_rfl)
theorem lv53_5 : tab.lv 53 5 = some 1808 := tab_lv (by kernel_rfl)
theorem lv53_6 : tab.lv 53 6 = some 2098960 := tab_lv (by kernel_rfl)
theorem lv53_7 : tab.lv 53 7 = some 4 := tab_lv (by kernel_rfl)
theorem lv53_8 : tab.lv 53 8 = some 137438955264 := tab_lv (by kernel_rfl)
theorem lv53_9 : tab.lv 53 9 = some 4 := tab_lv (by kernel_rfl)
theorem lv53_10 : tab.lv 53 10 = some 1792 := tab_lv (by kernel_rfl)
theorem lv53_11 : tab.lv 53 11 = some 4 := tab_lv (by kernel_rfl)
theorem lv54_0 : tab.lv 54 0 = some 3 := tab_lv (by kernel_rfl)
theorem lv54_1 : tab.lv 54 1 = some 67 := tab_lv (by kernel_rfl)
theorem lv54_2 : tab.lv 54 2 = some 3 := tab_lv (by kernel_rfl)
theorem lv54_3 : tab.lv 54 3 = some 3 := tab_lv (by kernel_rfl)
theorem lv54_4 : tab.lv 54 4 = some 65539 := tab_lv (by kernel_rfl)
theorem lv54_5 : tab.lv 54 5 = some 1 := tab_lv (by kernel_rfl)
theorem lv54_6 : tab.lv 54 6 = some 16 := tab_lv (by kernel_rfl)
theorem lv55_0 : tab.lv 55 0 = some 3 := tab_lv (by kernel_rfl)
theorem lv55_1 : tab.lv 55 1 = some 32 := tab_lv (by kernel_rfl)
theorem lv55_2 : tab.lv 55 2 = some 229408 := tab_lv (by kernel_rfl)
theorem lv55_3 : tab.lv 55 3 = some 491552 := tab_lv (by kernel_rfl)
theorem lv55_4 : tab.lv 55 4 = some 229600 := tab_lv (by kernel_rfl)
theorem lv55_5 : tab.lv 55 5 = some 229408 := tab_lv (by kernel_rfl)
theorem lv55_6 : tab.lv 55 6 = some 229408 := tab_lv (by kernel_rfl)
theorem lv55_7 : tab.lv 55 7 = some 16 := tab_lv (by kernel_rfl)
theorem lv56_0 : tab.lv 56 0 = some 2 := tab_lv (by kernel_rfl)
theorem lv56_1 : tab.lv 56 1 = some 4294967296 := tab_lv (by kernel_rfl)
theorem lv56_2 : tab.lv 56 2 = some 4 := tab_lv (by kernel_rfl)
theorem lv56_3 : tab.lv 56 3 = some 4 := tab_lv (by kernel_rfl)
theorem lv57_0 : tab.lv 57 0 = some 2 := tab_lv (by kernel_rfl)
theorem lv57_1 : tab.lv 57 1 = some 4 := tab_lv (by kernel_rfl)
theorem lv58_0 : tab.lv 58 0 = some 2 := tab_lv (by kernel_rfl)
theorem lv58_1 : tab.lv 58 1 = some 34 := tab_lv (by kernel_rfl)
theorem lv58_2 : tab.lv 58 2 = some 4 := tab_lv (by kernel_rfl)
theorem lv58_3 : tab.lv 58 3 = some 98 := tab_lv (by kernel_rfl)
theorem lv58_4 : tab.lv 58 4 = some 10 := tab_lv (by kernel_rfl)
theorem lv58_5 : tab.lv 58 5 = some 4106 := tab_lv (by kernel_rfl)
theorem lv58_6 : tab.lv 58 6 = some 4 := tab_lv (by kernel_rfl)
theorem lv58_7 : tab.lv 58 7 = some 16418 := tab_lv (by kernel_rfl)
theorem lv58_8 : tab.lv 58 8 = some 8388610 := tab_lv (by kernel_rfl)
theorem lv58_9 : tab.lv 58 9 = some 4 := tab_lv (by kernel_rfl)
theorem lv58_10 : tab.lv 58 10 = some 16777250 := tab_lv (by kernel_rfl)
theorem lv58_11 : tab.lv 58 11 = some 268435458 := tab_lv (by kernel_rfl)
theorem lv58_12 : tab.lv 58 12 = some 4 := tab_lv (by kernel_rfl)
theorem lv58_13 : tab.lv 58 13 = some 4 := tab_lv (by kernel_rfl)
theorem lv58_14 : tab.lv 58 14 = some 4294967330 := tab_lv (by kernel_rfl)
theorem lv58_15 : tab.lv 58 15 = some 68719476738 := tab_lv (by kernel_rfl)
theorem lv58_16 : tab.lv 58 16 = some 4 := tab_lv (by kernel_rfl)
theorem lv58_17 : tab.lv 58 17 = some 137438953474 := tab_lv (by kernel_rfl)
theorem lv58_18 : tab.lv 58 18 = some 70368744177666 := tab_lv (by kernel_rfl)
theorem lv58_19 : tab.lv 58 19 = some 4 := tab_lv (by kernel_rfl)
theorem lv58_20 : tab.lv 58 20 = some 562949953421312 := tab_lv (by kernel_rfl)
theorem lv58_21 : tab.lv 58 21 = some 4 := tab_lv (by kernel_rfl)
theorem lv58_22 : tab.lv 58 22 = some 4 := tab_lv (by kernel_rfl)
theorem lv59_0 : tab.lv 59 0 = some 1 := tab_lv (by kernel_rfl)
theorem lv59_1 : tab.lv 59 1 = some 129 := tab_lv (by kernel_rfl)
theorem lv59_2 : tab.lv 59 2 = some 4 := tab_lv (by kernel_rfl)
theorem lv59_3 : tab.lv 59 3 = some 1793 := tab_lv (by kernel_rfl)
theorem lv59_4 : tab.lv 59 4 = some 3841 := tab_lv (by kernel_rfl)
theorem lv59_5 : tab.lv 59 5 = some 1817 := tab_lv (by kernel_rfl)
theorem lv59_6 : tab.lv 59 6 = some 34585 := tab_lv (by kernel_rfl)
theorem lv59_7 : tab.lv 59 7 = some 4 := tab_lv (by kernel_rfl)
theorem lv59_8 : tab.lv 59 8 = some 536872729 := tab_lv (by kernel_rfl)
theorem lv59_9 : tab.lv 59 9 = some 4 := tab_lv (by kernel_rfl)
theorem lv59_10 : tab.lv 59 10 = some 137438955265 := tab_lv (by kernel_rfl)
theorem lv59_11 : tab.lv 59 11 = some 4 := tab_lv (by kernel_rfl)
theorem lv59_12 : tab.lv 59 12 = some 1793 := tab_lv (by kernel_rfl)
theorem lv59_13 : tab.lv 59 13 = some 4 := tab_lv (by kernel_rfl)
theorem lv60_0 : tab.lv 60 0 = some 21 := tab_lv (by kernel_rfl)
theorem lv60_1 : tab.lv 60 1 = some 277 := tab_lv (by kernel_rfl)
theorem lv60_2 : tab.lv 60 2 = some 1813 := tab_lv (by kernel_rfl)
theorem lv60_3 : tab.lv 60 3 = some 132885 := tab_lv (by kernel_rfl)
theorem lv60_4 : tab.lv 60 4 = some 3861 := tab_lv (by kernel_rfl)
theorem lv60_5 : tab.lv 60 5 = some 2147487509 := tab_lv (by kernel_rfl)
theorem lv60_6 : tab.lv 60 6 = some 1813 := tab_lv (by kernel_rfl)
theorem lv60_7 : tab.lv 60 7 = some 1813 := tab_lv (by kernel_rfl)
theorem lv60_8 : tab.lv 60 8 = some 192 := tab_lv (by kernel_rfl)
theorem lv61_0 : tab.lv 61 0 = some 12 := tab_lv (by kernel_rfl)
theorem lv61_1 : tab.lv 61 1 = some 16 := tab_lv (by kernel_rfl)
theorem lv62_0 : tab.lv 62 0 = some 1 := tab_lv (by kernel_rfl)
theorem lv62_1 : tab.lv 62 1 = some 17 := tab_lv (by kernel_rfl)
theorem lv62_2 : tab.lv 62 2 = some 4 := tab_lv (by kernel_rfl)
theorem lv62_3 : tab.lv 62 3 = some 4 := tab_lv (by kernel_rfl)
theorem lv63_0 : tab.lv 63 0 = some 9 := tab_lv (by kernel_rfl)
theorem lv63_1 : tab.lv 63 1 = some 16 := tab_lv (by kernel_rfl)
theorem lv64_0 : tab.lv 64 0 = some 7 := tab_lv (by kernel_rfl)
theorem lv64_1 : tab.lv 64 1 = some 7 := tab_lv (by kernel_rfl)
theorem lv64_2 : tab.lv 64 2 = some 65543 := tab_lv (by kernel_rfl)
theorem lv64_3 : tab.lv 64 3 = some 64 := tab_lv (by kernel_rfl)
theorem lv64_4 : tab.lv 64 4 = some 135 := tab_lv (by kernel_rfl)
theorem lv64_5 : tab.lv 64 5 = some 129 := tab_lv (by kernel_rfl)
theorem lv64_6 : tab.lv 64 6 = some 1 := tab_lv (by kernel_rfl)
theorem lv64_7 : tab.lv 64 7 = some 64 := tab_lv (by kernel_rfl)
theorem lv65_0 : tab.lv 65 0 = some 466 := tab_lv (by kernel_rfl)
theorem lv65_1 : tab.lv 65 1 = some 978 := tab_lv (by kernel_rfl)
theorem lv65_2 : tab.lv 65 2 = some 8389586 := tab_lv (by kernel_rfl)
theorem lv65_3 : tab.lv 65 3 = some 256 := tab_lv (by kernel_rfl)
theorem lv65_4 : tab.lv 65 4 = some 1794 := tab_lv (by kernel_rfl)
theorem lv65_5 : tab.lv 65 5 = some 4294969090 := tab_lv (by kernel_rfl)
theorem lv65_6 : tab.lv 65 6 = some 256 := tab_lv (by kernel_rfl)
theorem lv65_7 : tab.lv 65 7 = some 274877908736 := tab_lv (by kernel_rfl)
theorem lv65_8 : tab.lv 65 8 = some 824633722624 := tab_lv (by kernel_rfl)
theorem lv65_9 : tab.lv 65 9 = some 3328 := tab_lv (by kernel_rfl)
theorem lv65_10 : tab.lv 65 10 = some 17592186047744 := tab_lv (by kernel_rfl)
theorem lv65_11 : tab.lv 65 11 = some 256 := tab_lv (by kernel_rfl)
theorem lv65_12 : tab.lv 65 12 = some 9024791440788736 := tab_lv (by kernel_rfl)
theorem lv65_13 : tab.lv 65 13 = some 256 := tab_lv (by kernel_rfl)
theorem lv65_14 : tab.lv 65 14 = some 288230376151715072 := tab_lv (by kernel_rfl)
theorem lv65_15 : tab.lv 65 15 = some 256 := tab_lv (by kernel_rfl)
theorem lv65_16 : tab.lv 65 16 = some 9223372036854777600 := tab_lv (by kernel_rfl)
theorem lv65_17 : tab.lv 65 17 = some 5888 := tab_lv (by kernel_rfl)
theorem lv65_18 : tab.lv 65 18 = some 13568 := tab_lv (by kernel_rfl)
theorem lv65_19 : tab.lv 65 19 = some 256 := tab_lv (by kernel_rfl)
theorem lv65_20 : tab.lv 65 20 = some 1208925819614629174712064 := tab_lv (by kernel_rfl)
theorem lv65_21 : tab.lv 65 21 = some 256 := tab_lv (by kernel_rfl)
theorem lv65_22 : tab.lv 65 22 = some 77371252455336267181201152 := tab_lv (by kernel_rfl)
theorem lv65_23 : tab.lv 65 23 = some 256 := tab_lv (by kernel_rfl)
theorem lv65_24 : tab.lv 65 24 = some 256 := tab_lv (by kernel_rfl)
theorem lv66_0 : tab.lv 66 0 = some 2 := tab_lv (by kernel_rfl)
theorem lv66_1 : tab.lv 66 1 = some 10 := tab_lv (by kernel_rfl)
theorem lv66_2 : tab.lv 66 2 = some 1034 := tab_lv (by kernel_rfl)
theorem lv66_3 : tab.lv 66 3 = some 4 := tab_lv (by kernel_rfl)
theorem lv66_4 : tab.lv 66 4 = some 57344 := tab_lv (by kernel_rfl)
theorem lv66_5 : tab.lv 66 5 = some 122880 := tab_lv (by kernel_rfl)
theorem lv66_6 : tab.lv 66 6 = some 57376 := tab_lv (by kernel_rfl)
theorem lv66_7 : tab.lv 66 7 = some 57408 := tab_lv (by kernel_rfl)
theorem lv66_8 : tab.lv 66 8 = some 4251712 := tab_lv (by kernel_rfl)
theorem lv66_9 : tab.lv 66 9 = some 4 := tab_lv (by kernel_rfl)
theorem lv66_10 : tab.lv 66 10 = some 57344 := tab_lv (by kernel_rfl)
theorem lv66_11 : tab.lv 66 11 = some 4 := tab_lv (by kernel_rfl)
theorem lv67_0 : tab.lv 67 0 = some 3 := tab_lv (by kernel_rfl)
theorem lv67_1 : tab.lv 67 1 = some 67 := tab_lv (by kernel_rfl)
theorem lv67_2 : tab.lv 67 2 = some 3 := tab_lv (by kernel_rfl)
theorem lv67_3 : tab.lv 67 3 = some 3 := tab_lv (by kernel_rfl)
theorem lv67_4 : tab.lv 67 4 = some 65539 := tab_lv (by kernel_rfl)
theorem lv67_5 : tab.lv 67 5 = some 1 := tab_lv (by kernel_rfl)
theorem lv67_6 : tab.lv 67 6 = some 16 := tab_lv (by kernel_rfl)
theorem lv68_0 : tab.lv 68 0 = some 3 := tab_lv (by kernel_rfl)
theorem lv68_1 : tab.lv 68 1 = some 387 := tab_lv (by kernel_rfl)
theorem lv68_2 : tab.lv 68 2 = some 899 := tab_lv (by kernel_rfl)
theorem lv68_3 : tab.lv 68 3 = some 419 := tab_lv (by kernel_rfl)
theorem lv68_4 : tab.lv 68 4 = some 65955 := tab_lv (by kernel_rfl)
theorem lv68_5 : tab.lv 68 5 = some 16 := tab_lv (by kernel_rfl)
theorem lv68_6 : tab.lv 68 6 = some 387 := tab_lv (by kernel_rfl)
theorem lv68_7 : tab.lv 68 7 = some 16 := tab_lv (by kernel_rfl)
theorem lv69_0 : tab.lv 69 0 = some 5 := tab_lv (by kernel_rfl)
theorem lv69_1 : tab.lv 69 1 = some 21 := tab_lv (by kernel_rfl)
theorem lv69_2 : tab.lv 69 2 = some 1045 := tab_lv (by kernel_rfl)
theorem lv69_3 : tab.lv 69 3 = some 12 := tab_lv (by kernel_rfl)
theorem lv69_4 : tab.lv 69 4 = some 131093 := tab_lv (by kernel_rfl)
theorem lv69_5 : tab.lv 69 5 = some 37 := tab_lv (by kernel_rfl)
theorem lv69_6 : tab.lv 69 6 = some 8388645 := tab_lv (by kernel_rfl)
theorem lv69_7 : tab.lv 69 7 = some 12 := tab_lv (by kernel_rfl)
theorem lv69_8 : tab.lv 69 8 = some 12 := tab_lv (by kernel_rfl)
theorem lv69_9 : tab.lv 69 9 = some 536870917 := tab_lv (by kernel_rfl)
theorem lv69_10 : tab.lv 69 10 = some 12 := tab_lv (by kernel_rfl)
theorem lv69_11 : tab.lv 69 11 = some 206158430213 := tab_lv (by kernel_rfl)
theorem lv69_12 : tab.lv 69 12 = some 481036337157 := tab_lv (by kernel_rfl)
theorem lv69_13 : tab.lv 69 13 = some 206158430341 := tab_lv (by kernel_rfl)
theorem lv69_14 : tab.lv 69 14 = some 4604204941445 := tab_lv (by kernel_rfl)
theorem lv69_15 : tab.lv 69 15 = some 12 := tab_lv (by kernel_rfl)
theorem lv69_16 : tab.lv 69 16 = some 206158430213 := tab_lv (by kernel_rfl)
theorem lv69_17 : tab.lv 69 17 = some 12 := tab_lv (by kernel_rfl)
theorem lv70_0 : tab.lv 70 0 = some 3 := tab_lv (by kernel_rfl)
theorem lv70_1 : tab.lv 70 1 = some 131 := tab_lv (by kernel_rfl)
theorem lv70_2 : tab.lv 70 2 = some 3 := tab_lv (by kernel_rfl)
theorem lv70_3 : tab.lv 70 3 = some 2097155 := tab_lv (by kernel_rfl)
theorem lv70_4 : tab.lv 70 4 = some 0 := tab_lv (by kernel_rfl)
theorem lv71_0 : tab.lv 71 0 = some 3 := tab_lv (by kernel_rfl)
theorem lv71_1 : tab.lv 71 1 = some 3 := tab_lv (by kernel_rfl)
theorem lv71_2 : tab.lv 71 2 = some 2 := tab_lv (by kernel_rfl)
theorem lv71_3 : tab.lv 71 3 = some 48 := tab_lv (by kernel_rfl)
theorem lv72_0 : tab.lv 72 0 = some 1 := tab_lv (by kernel_rfl)
theorem lv72_1 : tab.lv 72 1 = some 4 := tab_lv (by kernel_rfl)
theorem lv73_0 : tab.lv 73 0 = some 1 := tab_lv (by kernel_rfl)
theorem lv73_1 : tab.lv 73 1 = some 256 := tab_lv (by kernel_rfl)
theorem lv73_2 : tab.lv 73 2 = some 4 := tab_lv (by kernel_rfl)
theorem lv73_3 : tab.lv 73 3 = some 4 := tab_lv (by kernel_rfl)
theorem lv74_0 : tab.lv 74 0 = some 1 := tab_lv (by kernel_rfl)
theorem lv74_1 : tab.lv 74 1 = some 65 := tab_lv (by kernel_rfl)
theorem lv74_2 : tab.lv 74 2 = some 4 := tab_lv (by kernel_rfl)
theorem lv74_3 : tab.lv 74 3 = some 769 := tab_lv (by kernel_rfl)
theorem lv74_4 : tab.lv 74 4 = some 1793 := tab_lv (by kernel_rfl)
theorem lv74_5 : tab.lv 74 5 = some 777 := tab_lv (by kernel_rfl)
theorem lv74_6 : tab.lv 74 6 = some 2097921 := tab_lv (by kernel_rfl)
theorem lv74_7 : tab.lv 74 7 = some 4 := tab_lv (by kernel_rfl)
theorem lv74_8 : tab.lv 74 8 = some 769 := tab_lv (by kernel_rfl)
theorem lv74_9 : tab.lv 74 9 = some 4 := tab_lv (by kernel_rfl)
theorem lv75_0 : tab.lv 75 0 = some 1 := tab_lv (by kernel_rfl)
theorem lv75_1 : tab.lv 75 1 = some 9 := tab_lv (by kernel_rfl)
theorem lv75_2 : tab.lv 75 2 = some 456 := tab_lv (by kernel_rfl)
theorem lv75_3 : tab.lv 75 3 = some 968 := tab_lv (by kernel_rfl)
theorem lv75_4 : tab.lv 75 4 = some 488 := tab_lv (by kernel_rfl)
theorem lv75_5 : tab.lv 75 5 = some 16872 := tab_lv (by kernel_rfl)
theorem lv75_6 : tab.lv 75 6 = some 4 := tab_lv (by kernel_rfl)
theorem lv75_7 : tab.lv 75 7 = some 456 := tab_lv (by kernel_rfl)
theorem lv75_8 : tab.lv 75 8 = some 4 := tab_lv (by kernel_rfl)
theorem lv76_0 : tab.lv 76 0 = some 3 := tab_lv (by kernel_rfl)
theorem lv76_1 : tab.lv 76 1 = some 35 := tab_lv (by kernel_rfl)
theorem lv76_2 : tab.lv 76 2 = some 99 := tab_lv (by kernel_rfl)
theorem lv76_3 : tab.lv 76 3 = some 2115 := tab_lv (by kernel_rfl)
theorem lv76_4 : tab.lv 76 4 = some 4096 := tab_lv (by kernel_rfl)
theorem lv76_5 : tab.lv 76 5 = some 16 := tab_lv (by kernel_rfl)
theorem lv76_6 : tab.lv 76 6 = some 16 := tab_lv (by kernel_rfl)
theorem lv76_7 : tab.lv 76 7 = some 8195 := tab_lv (by kernel_rfl)
theorem lv76_8 : tab.lv 76 8 = some 16 := tab_lv (by kernel_rfl)
theorem lv76_9 : tab.lv 76 9 = some 65539 := tab_lv (by kernel_rfl)
theorem lv76_10 : tab.lv 76 10 = some 16 := tab_lv (by kernel_rfl)
theorem lv76_11 : tab.lv 76 11 = some 524288 := tab_lv (by kernel_rfl)
theorem lv76_12 : tab.lv 76 12 = some 16 := tab_lv (by kernel_rfl)
theorem lv76_13 : tab.lv 76 13 = some 16 := tab_lv (by kernel_rfl)
theorem lv77_0 : tab.lv 77 0 = some 6 := tab_lv (by kernel_rfl)
theorem lv77_1 : tab.lv 77 1 = some 8 := tab_lv (by kernel_rfl)
theorem lv78_0 : tab.lv 78 0 = some 5 := tab_lv (by kernel_rfl)
theorem lv78_1 : tab.lv 78 1 = some 517 := tab_lv (by kernel_rfl)
theorem lv78_2 : tab.lv 78 2 = some 4 := tab_lv (by kernel_rfl)
theorem lv78_3 : tab.lv 78 3 = some 13 := tab_lv (by kernel_rfl)
theorem lv78_4 : tab.lv 78 4 = some 13 := tab_lv (by kernel_rfl)
theorem lv78_5 : tab.lv 78 5 = some 12 := tab_lv (by kernel_rfl)
theorem lv78_6 : tab.lv 78 6 = some 4 := tab_lv (by kernel_rfl)
theorem lv79_0 : tab.lv 79 0 = some 71 := tab_lv (by kernel_rfl)
theorem lv79_1 : tab.lv 79 1 = some 198 := tab_lv (by kernel_rfl)
theorem lv79_2 : tab.lv 79 2 = some 454 := tab_lv (by kernel_rfl)
theorem lv79_3 : tab.lv 79 3 = some 57794 := tab_lv (by kernel_rfl)
theorem lv79_4 : tab.lv 79 4 = some 123330 := tab_lv (by kernel_rfl)
theorem lv79_5 : tab.lv 79 5 = some 58818 := tab_lv (by kernel_rfl)
theorem lv79_6 : tab.lv 79 6 = some 4253122 := tab_lv (by kernel_rfl)
theorem lv79_7 : tab.lv 79 7 = some 57794 := tab_lv (by kernel_rfl)
theorem lv79_8 : tab.lv 79 8 = some 57794 := tab_lv (by kernel_rfl)
theorem lv79_9 : tab.lv 79 9 = some 137438953922 := tab_lv (by kernel_rfl)
theorem lv79_10 : tab.lv 79 10 = some 64 := tab_lv (by kernel_rfl)
theorem lv79_11 : tab.lv 79 11 = some 64 := tab_lv (by kernel_rfl)
theorem lv80_0 : tab.lv 80 0 = some 159 := tab_lv (by kernel_rfl)
theorem lv80_1 : tab.lv 80 1 = some 414 := tab_lv (by kernel_rfl)
theorem lv80_2 : tab.lv 80 2 = some 57756 := tab_lv (by kernel_rfl)
theorem lv80_3 : tab.lv 80 3 = some 123292 := tab_lv (by kernel_rfl)
theorem lv80_4 : tab.lv 80 4 = some 58780 := tab_lv (by kernel_rfl)
theorem lv80_5 : tab.lv 80 5 = some 57756 := tab_lv (by kernel_rfl)
theorem lv80_6 : tab.lv 80 6 = some 57756 := tab_lv (by kernel_rfl)
theorem lv80_7 : tab.lv 80 7 = some 128 := tab_lv (by kernel_rfl)
theorem lv81_0 : tab.lv 81 0 = some 2 := tab_lv (by kernel_rfl)
theorem lv81_1 : tab.lv 81 1 = some 1026 := tab_lv (by kernel_rfl)
theorem lv81_2 : tab.lv 81 2 = some 4 := tab_lv (by kernel_rfl)
theorem lv81_3 : tab.lv 81 3 = some 524290 := tab_lv (by kernel_rfl)
theorem lv81_4 : tab.lv 81 4 = some 4 := tab_lv (by kernel_rfl)
theorem lv81_5 : tab.lv 81 5 = some 2097154 := tab_lv (by kernel_rfl)
theorem lv81_6 : tab.lv 81 6 = some 1073741824 := tab_lv (by kernel_rfl)
theorem lv81_7 : tab.lv 81 7 = some 4 := tab_lv (by kernel_rfl)
theorem lv81_8 : tab.lv 81 8 = some 2149580802 := tab_lv (by kernel_rfl)
theorem lv81_9 : tab.lv 81 9 = some 9007199254740992 := tab_lv (by kernel_rfl)
theorem lv81_10 : tab.lv 81 10 = some 4 := tab_lv (by kernel_rfl)
theorem lv81_11 : tab.lv 81 11 = some 18014398509481986 := tab_lv (by kernel_rfl)
theorem lv81_12 : tab.lv 81 12 = some 36893488147419103232 := tab_lv (by kernel_rfl)
theorem lv81_13 : tab.lv 81 13 = some 4 := tab_lv (by kernel_rfl)
theorem lv81_14 : tab.lv 81 14 = some 4 := tab_lv (by kernel_rfl)
theorem lv82_0 : tab.lv 82 0 = some 1 := tab_lv (by kernel_rfl)
theorem lv82_1 : tab.lv 82 1 = some 4 := tab_lv (by kernel_rfl)
theorem lv83_0 : tab.lv 83 0 = some 5 := tab_lv (by kernel_rfl)
theorem lv83_1 : tab.lv 83 1 = some 53 := tab_lv (by kernel_rfl)
theorem lv83_2 : tab.lv 83 2 = some 32821 := tab_lv (by kernel_rfl)
theorem lv83_3 : tab.lv 83 3 = some 12 := tab_lv (by kernel_rfl)
theorem lv83_4 : tab.lv 83 4 = some 393269 := tab_lv (by kernel_rfl)
theorem lv83_5 : tab.lv 83 5 = some 917557 := tab_lv (by kernel_rfl)
theorem lv83_6 : tab.lv 83 6 = some 393333 := tab_lv (by kernel_rfl)
theorem lv83_7 : tab.lv 83 7 = some 393269 := tab_lv (by kernel_rfl)
theorem lv83_8 : tab.lv 83 8 = some 1074135093 := tab_lv (by kernel_rfl)
theorem lv83_9 : tab.lv 83 9 = some 12 := tab_lv (by kernel_rfl)
theorem lv83_10 : tab.lv 83 10 = some 393269 := tab_lv (by kernel_rfl)
theorem lv83_11 : tab.lv 83 11 = some 12 := tab_lv (by kernel_rfl)
theorem lv84_0 : tab.lv 84 0 = some 1 := tab_lv (by kernel_rfl)
theorem lv84_1 : tab.lv 84 1 = some 4 := tab_lv (by kernel_rfl)
theorem lv85_0 : tab.lv 85 0 = some 3 := tab_lv (by kernel_rfl)
theorem lv85_1 : tab.lv 85 1 = some 35 := tab_lv (by kernel_rfl)
theorem lv85_2 : tab.lv 85 2 = some 65571 := tab_lv (by kernel_rfl)
theorem lv85_3 : tab.lv 85 3 = some 35 := tab_lv (by kernel_rfl)
theorem lv85_4 : tab.lv 85 4 = some 16 := tab_lv (by kernel_rfl)
theorem lv86_0 : tab.lv 86 0 = some 1 := tab_lv (by kernel_rfl)
theorem lv86_1 : tab.lv 86 1 = some 4 := tab_lv (by kernel_rfl)
theorem lv87_0 : tab.lv 87 0 = some 5 := tab_lv (by kernel_rfl)
theorem lv87_1 : tab.lv 87 1 = some 21 := tab_lv (by kernel_rfl)
theorem lv87_2 : tab.lv 87 2 = some 53 := tab_lv (by kernel_rfl)
theorem lv87_3 : tab.lv 87 3 = some 1077 := tab_lv (by kernel_rfl)
theorem lv87_4 : tab.lv 87 4 = some 53 := tab_lv (by kernel_rfl)
theorem lv87_5 : tab.lv 87 5 = some 117 := tab_lv (by kernel_rfl)
theorem lv87_6 : tab.lv 87 6 = some 53 := tab_lv (by kernel_rfl)
theorem lv87_7 : tab.lv 87 7 = some 1048693 := tab_lv (by kernel_rfl)
theorem lv87_8 : tab.lv 87 8 = some 33554485 := tab_lv (by kernel_rfl)
theorem lv87_9 : tab.lv 87 9 = some 12 := tab_lv (by kernel_rfl)
theorem lv87_10 : tab.lv 87 10 = some 12 := tab_lv (by kernel_rfl)
theorem lv87_11 : tab.lv 87 11 = some 34359738485 := tab_lv (by kernel_rfl)
theorem lv87_12 : tab.lv 87 12 = some 53 := tab_lv (by kernel_rfl)
theorem lv87_13 : tab.lv 87 13 = some 53 := tab_lv (by kernel_rfl)
theorem lv87_14 : tab.lv 87 14 = some 147573952589676413045 := tab_lv (by kernel_rfl)
theorem lv87_15 : tab.lv 87 15 = some 12 := tab_lv (by kernel_rfl)
theorem lv87_16 : tab.lv 87 16 = some 12 := tab_lv (by kernel_rfl)
theorem lv88_0 : tab.lv 88 0 = some 3 := tab_lv (by kernel_rfl)
theorem lv88_1 : tab.lv 88 1 = some 16 := tab_lv (by kernel_rfl)
theorem lv89_0 : tab.lv 89 0 = some 65 := tab_lv (by kernel_rfl)
theorem lv89_1 : tab.lv 89 1 = some 0 := tab_lv (by kernel_rfl)
theorem lv89_2 : tab.lv 89 2 = some 524288 := tab_lv (by kernel_rfl)
theorem lv90_0 : tab.lv 90 0 = some 17 := tab_lv (by kernel_rfl)
theorem lv90_1 : tab.lv 90 1 = some 17 := tab_lv (by kernel_rfl)
theorem lv90_2 : tab.lv 90 2 = some 0 := tab_lv (by kernel_rfl)
theorem lv91_0 : tab.lv 91 0 = some 1 := tab_lv (by kernel_rfl)
theorem lv91_1 : tab.lv 91 1 = some 4 := tab_lv (by kernel_rfl)
theorem lv92_0 : tab.lv 92 0 = some 25 := tab_lv (by kernel_rfl)
theorem lv92_1 : tab.lv 92 1 = some 49 := tab_lv (by kernel_rfl)
theorem lv92_2 : tab.lv 92 2 = some 1072 := tab_lv (by kernel_rfl)
theorem lv92_3 : tab.lv 92 3 = some 48 := tab_lv (by kernel_rfl)
theorem lv92_4 : tab.lv 92 4 = some 16 := tab_lv (by kernel_rfl)
theorem lv93_0 : tab.lv 93 0 = some 1 := tab_lv (by kernel_rfl)
theorem lv93_1 : tab.lv 93 1 = some 1 := tab_lv (by kernel_rfl)
theorem lv94_0 : tab.lv 94 0 = some 1 := tab_lv (by kernel_rfl)
theorem lv94_1 : tab.lv 94 1 = some 1025 := tab_lv (by kernel_rfl)
theorem lv94_2 : tab.lv 94 2 = some 4 := tab_lv (by kernel_rfl)
theorem lv94_3 : tab.lv 94 3 = some 33554432 := tab_lv (by kernel_rfl)
theorem lv94_4 : tab.lv 94 4 = some 4 := tab_lv (by kernel_rfl)
theorem lv94_5 : tab.lv 94 5 = some 4 := tab_lv (by kernel_rfl)
theorem lv95_0 : tab.lv 95 0 = some 3 := tab_lv (by kernel_rfl)
theorem lv95_1 : tab.lv 95 1 = some 16 := tab_lv (by kernel_rfl)
theorem lv98_0 : tab.lv 98 0 = some 1 := tab_lv (by kernel_rfl)
theorem lv98_1 : tab.lv 98 1 = some 4 := tab_lv (by kernel_rfl)
theorem lv99_0 : tab.lv 99 0 = some 1 := tab_lv (by kernel_rfl)
theorem lv99_1 : tab.lv 99 1 = some 8 := tab_lv (by kernel_rfl)
theorem lv99_2 : tab.lv 99 2 = some 24 := tab_lv (by kernel_rfl)
theorem lv99_3 : tab.lv 99 3 = some 24 := tab_lv (by kernel_rfl)
theorem lv99_4 : tab.lv 99 4 = some 24 := tab_lv (by kernel_rfl)
theorem lv99_5 : tab.lv 99 5 = some 24 := tab_lv (by kernel_rfl)
theorem lv99_6 : tab.lv 99 6 = some 24 := tab_lv (by kernel_rfl)
theorem lv99_7 : tab.lv 99 7 = some 24 := tab_lv (by kernel_rfl)
theorem lv99_8 : tab.lv 99 8 = some 16 := tab_lv (by kernel_rfl)
theorem lv99_9 : tab.lv 99 9 = some 4 := tab_lv (by kernel_rfl)
theorem lv99_10 : tab.lv 99 10 = some 4 := tab_lv (by kernel_rfl)
theorem rs3 : Try.f3.results.toList = [.tmp 6] := rfl
theorem rs4 : Try.f4.results.toList = [.tmp 4] := rfl
theorem rs5 : Try.f5.results.toList = [.tmp 10] := rfl
theorem rs6 : Try.f6.results.toList = [.tmp 4] := rfl
theorem rs7 : Try.f7.results.toList = [.tmp 8] := rfl
theorem rs8 : Try.f8.results.toList = [.tmp 10] := rfl
theorem rs9 : Try.f9.results.toList = [.tmp 4] := rfl
theorem rs10 : Try.f10.results.toList = [.tmp 8] := rfl
theorem rs11 : Try.f11.results.toList = [.tmp 4] := rfl
theorem rs12 : Try.f12.results.toList = [.tmp 6] := rfl
theorem rs13 : Try.f13.results.toList = [.tmp 4] := rfl
theorem rs14 : Try.f14.results.toList = [.tmp 2] := rfl
theorem rs15 : Try.f15.results.toList = [.tmp 2] := rfl
theorem rs16 : Try.f16.results.toList = [.tmp 2] := rfl
theorem rs17 : Try.f17.results.toList = [.tmp 4] := rfl
theorem rs18 : Try.f18.results.toList = [.tmp 4, .tmp 5] := rfl
theorem rs19 : Try.f19.results.toList = [.tmp 4] := rfl
theorem rs20 : Try.f20.results.toList = [.tmp 4, .tmp 5] := rfl
theorem rs21 : Try.f21.results.toList = [.tmp 2] := rfl
theorem rs22 : Try.f22.results.toList = [.cell 6 42] := rfl
theorem rs23 : Try.f23.results.toList = [.cell 4 34] := rfl
theorem rs24 : Try.f24.results.toList = [.cell 8 46, .tmp 9] := rfl
theorem rs25 : Try.f25.results.toList = [.cell 10 46, .tmp 11, .tmp 12] := rfl
theorem rs26 : Try.f26.results.toList = [.cell 2 34] := rfl
theorem rs27 : Try.f27.results.toList = [.tmp 2, .tmp 3] := rfl
theorem rs28 : Try.f28.results.toList = [.cell 10 46, .tmp 11, .tmp 12] := rfl
theorem rs29 : Try.f29.results.toList = [.cell 4 36, .tmp 5] := rfl
theorem rs30 : Try.f30.results.toList = [.tmp 4, .tmp 5] := rfl
theorem rs31 : Try.f31.results.toList = [.tmp 4] := rfl
theorem rs32 : Try.f32.results.toList = [.cell 6 46, .tmp 7, .tmp 8] := rfl
theorem rs33 : Try.f33.results.toList = [.tmp 2, .tmp 3] := rfl
theorem rs34 : Try.f34.results.toList = [.tmp 4, .tmp 5] := rfl
theorem rs35 : Try.f35.results.toList = [.tmp 4, .tmp 5] := rfl
theorem rs36 : Try.f36.results.toList = [.tmp 4] := rfl
theorem rs37 : Try.f37.results.toList = [.cell 6 77] := rfl
theorem rs38 : Try.f38.results.toList = [.tmp 0] := rfl
theorem rs39 : Try.f39.results.toList = [.tmp 2, .tmp 3] := rfl
theorem rs40 : Try.f40.results.toList = [.tmp 2] := rfl
theorem rs41 : Try.f41.results.toList = [.tmp 4, .tmp 5, .tmp 6] := rfl
theorem rs42 : Try.f42.results.toList = [.tmp 2] := rfl
theorem rs43 : Try.f43.results.toList = [.tmp 4] := rfl
theorem rs44 : Try.f44.results.toList = [.tmp 3] := rfl
theorem rs45 : Try.f45.results.toList = [.tmp 3] := rfl
theorem rs46 : Try.f46.results.toList = [.tmp 2, .tmp 3, .tmp 4] := rfl
theorem rs47 : Try.f47.results.toList = [.tmp 4] := rfl
theorem rs48 : Try.f48.results.toList = [.tmp 6] := rfl
theorem rs49 : Try.f49.results.toList = [.tmp 4] := rfl
theorem rs50 : Try.f50.results.toList = [.cell 4 36, .tmp 5] := rfl
theorem rs51 : Try.f51.results.toList = [.tmp 2] := rfl
theorem rs52 : Try.f52.results.toList = [.tmp 6] := rfl
theorem rs53 : Try.f53.results.toList = [.tmp 2] := rfl
theorem rs54 : Try.f54.results.toList = [.tmp 4] := rfl
theorem rs55 : Try.f55.results.toList = [.tmp 4] := rfl
theorem rs56 : Try.f56.results.toList = [.tmp 2] := rfl
theorem rs57 : Try.f57.results.toList = [.tmp 2] := rfl
theorem rs58 : Try.f58.results.toList = [.tmp 2] := rfl
theorem rs59 : Try.f59.results.toList = [.tmp 2] := rfl
theorem rs60 : Try.f60.results.toList = [.tmp 6, .tmp 7] := rfl
theorem rs61 : Try.f61.results.toList = [.tmp 4] := rfl
theorem rs62 : Try.f62.results.toList = [.tmp 2] := rfl
theorem rs63 : Try.f63.results.toList = [.tmp 4] := rfl
theorem rs64 : Try.f64.results.toList = [.tmp 6] := rfl
theorem rs65 : Try.f65.results.toList = [.cell 8 77] := rfl
theorem rs66 : Try.f66.results.toList = [.tmp 2] := rfl
theorem rs67 : Try.f67.results.toList = [.tmp 4] := rfl
theorem rs68 : Try.f68.results.toList = [.tmp 4] := rfl
theorem rs69 : Try.f69.results.toList = [.cell 2 94, .tmp 3] := rfl
theorem rs70 : Try.f70.results.toList = [] := rfl
theorem rs71 : Try.f71.results.toList = [.tmp 4, .tmp 5] := rfl
theorem rs72 : Try.f72.results.toList = [.tmp 2] := rfl
theorem rs73 : Try.f73.results.toList = [.tmp 2] := rfl
theorem rs74 : Try.f74.results.toList = [.tmp 2] := rfl
theorem rs75 : Try.f75.results.toList = [.tmp 2] := rfl
theorem rs76 : Try.f76.results.toList = [.tmp 4] := rfl
theorem rs77 : Try.f77.results.toList = [.tmp 3] := rfl
theorem rs78 : Try.f78.results.toList = [.cell 2 27] := rfl
theorem rs79 : Try.f79.results.toList = [.cell 6 77] := rfl
theorem rs80 : Try.f80.results.toList = [.cell 7 77] := rfl
theorem rs81 : Try.f81.results.toList = [.tmp 2] := rfl
theorem rs82 : Try.f82.results.toList = [.tmp 2] := rfl
theorem rs83 : Try.f83.results.toList = [.cell 2 94, .tmp 3] := rfl
theorem rs84 : Try.f84.results.toList = [.tmp 2] := rfl
theorem rs85 : Try.f85.results.toList = [.tmp 4] := rfl
theorem rs86 : Try.f86.results.toList = [.tmp 2] := rfl
theorem rs87 : Try.f87.results.toList = [.cell 2 94, .tmp 3] := rfl
theorem rs88 : Try.f88.results.toList = [.tmp 4] := rfl
theorem rs89 : Try.f89.results.toList = [] := rfl
theorem rs90 : Try.f90.results.toList = [] := rfl
theorem rs91 : Try.f91.results.toList = [.tmp 2] := rfl
theorem rs92 : Try.f92.results.toList = [.cell 4 77] := rfl
theorem rs93 : Try.f93.results.toList = [.cell 0 155] := rfl
theorem rs94 : Try.f94.results.toList = [.tmp 2] := rfl
theorem rs95 : Try.f95.results.toList = [.tmp 4] := rfl
theorem rs98 : Try.f98.results.toList = [.tmp 2] := rfl
theorem rs99 : Try.f99.results.toList = [.tmp 2] := rfl
end Go.Proofs.Ythnlmhibbmogeaa.Am
