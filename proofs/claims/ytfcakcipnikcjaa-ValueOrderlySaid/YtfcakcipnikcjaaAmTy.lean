/- The table's entries, one by one. Printed by genty.py. -/
import Derived.Test.YtfcakcipnikcjaaAmRule
set_option linter.unusedVariables false
set_option linter.unusedSimpArgs false
namespace Go.Proofs.Ytfcakcipnikcjaa.Am
open Go Go.RowKit
set_option maxRecDepth 100000
theorem und2 : tab.und 2 = some (.int .i64) := (tab_und 2).trans Try.underlying2
theorem sz2 : size tab 2 = some 1 := by simp only [size, inf2, Option.map]
theorem ag2 : isAgg tab 2 = some false := by simp only [isAgg, und2]
theorem und3 : tab.und 3 = some (.int .i64) := (tab_und 3).trans Try.underlying3
theorem sz3 : size tab 3 = some 1 := by simp only [size, inf3, Option.map]
theorem ag3 : isAgg tab 3 = some false := by simp only [isAgg, und3]
theorem und4 : tab.und 4 = some (.bool) := (tab_und 4).trans Try.underlying4
theorem sz4 : size tab 4 = some 1 := by simp only [size, inf4, Option.map]
theorem ag4 : isAgg tab 4 = some false := by simp only [isAgg, und4]
theorem und5 : tab.und 5 = some (.int .u8) := (tab_und 5).trans Try.underlying5
theorem sz5 : size tab 5 = some 1 := by simp only [size, inf5, Option.map]
theorem ag5 : isAgg tab 5 = some false := by simp only [isAgg, und5]
theorem und6 : tab.und 6 = some (.int .u8) := (tab_und 6).trans Try.underlying6
theorem sz6 : size tab 6 = some 1 := by simp only [size, inf6, Option.map]
theorem ag6 : isAgg tab 6 = some false := by simp only [isAgg, und6]
theorem und7 : tab.und 7 = some (.struct #[{ name := "x", type := 2, offset := 0, embedded := false, tag := "", pkgPath := "runtime", byteOffset := 0 }, { name := "y", type := 3, offset := 1, embedded := false, tag := "", pkgPath := "runtime", byteOffset := 8 }, { name := "signed", type := 4, offset := 2, embedded := false, tag := "", pkgPath := "runtime", byteOffset := 16 }, { name := "code", type := 6, offset := 3, embedded := false, tag := "", pkgPath := "runtime", byteOffset := 17 }]) := (tab_und 7).trans Try.underlying7
theorem sz7 : size tab 7 = some 4 := by simp only [size, inf7, Option.map]
theorem ag7 : isAgg tab 7 = some true := by simp only [isAgg, und7]
theorem fo7 : fieldsOf tab 7 = some [{ name := "x", type := 2, offset := 0, embedded := false, tag := "", pkgPath := "runtime", byteOffset := 0 }, { name := "y", type := 3, offset := 1, embedded := false, tag := "", pkgPath := "runtime", byteOffset := 8 }, { name := "signed", type := 4, offset := 2, embedded := false, tag := "", pkgPath := "runtime", byteOffset := 16 }, { name := "code", type := 6, offset := 3, embedded := false, tag := "", pkgPath := "runtime", byteOffset := 17 }] := by simp only [fieldsOf, und7]
theorem pl7 : placesL tab [{ name := "x", type := 2, offset := 0, embedded := false, tag := "", pkgPath := "runtime", byteOffset := 0 }, { name := "y", type := 3, offset := 1, embedded := false, tag := "", pkgPath := "runtime", byteOffset := 8 }, { name := "signed", type := 4, offset := 2, embedded := false, tag := "", pkgPath := "runtime", byteOffset := 16 }, { name := "code", type := 6, offset := 3, embedded := false, tag := "", pkgPath := "runtime", byteOffset := 17 }] = some [(0, 1), (1, 1), (2, 1), (3, 1)] := by simp only [placesL, sz2, sz3, sz4, sz6]
theorem bA7 {z : List AV} {ps : List (Nat × AV)} : buildA tab 7 z ps = fillA (fun i => [(0, 1), (1, 1), (2, 1), (3, 1)][i]?) z ps := bA_struct und7 pl7
theorem pT7_0 : partType tab 7 0 = 2 := by simp only [partType, und7]; rfl
theorem pT7_1 : partType tab 7 1 = 3 := by simp only [partType, und7]; rfl
theorem pT7_2 : partType tab 7 2 = 4 := by simp only [partType, und7]; rfl
theorem pT7_3 : partType tab 7 3 = 6 := by simp only [partType, und7]; rfl
theorem und8 : tab.und 8 = some (.struct #[{ name := "x", type := 2, offset := 0, embedded := false, tag := "", pkgPath := "runtime", byteOffset := 0 }, { name := "y", type := 3, offset := 1, embedded := false, tag := "", pkgPath := "runtime", byteOffset := 8 }, { name := "signed", type := 4, offset := 2, embedded := false, tag := "", pkgPath := "runtime", byteOffset := 16 }, { name := "code", type := 6, offset := 3, embedded := false, tag := "", pkgPath := "runtime", byteOffset := 17 }]) := (tab_und 8).trans Try.underlying8
theorem sz8 : size tab 8 = some 4 := by simp only [size, inf8, Option.map]
theorem ag8 : isAgg tab 8 = some true := by simp only [isAgg, und8]
theorem fo8 : fieldsOf tab 8 = some [{ name := "x", type := 2, offset := 0, embedded := false, tag := "", pkgPath := "runtime", byteOffset := 0 }, { name := "y", type := 3, offset := 1, embedded := false, tag := "", pkgPath := "runtime", byteOffset := 8 }, { name := "signed", type := 4, offset := 2, embedded := false, tag := "", pkgPath := "runtime", byteOffset := 16 }, { name := "code", type := 6, offset := 3, embedded := false, tag := "", pkgPath := "runtime", byteOffset := 17 }] := by simp only [fieldsOf, und8]
theorem pl8 : placesL tab [{ name := "x", type := 2, offset := 0, embedded := false, tag := "", pkgPath := "runtime", byteOffset := 0 }, { name := "y", type := 3, offset := 1, embedded := false, tag := "", pkgPath := "runtime", byteOffset := 8 }, { name := "signed", type := 4, offset := 2, embedded := false, tag := "", pkgPath := "runtime", byteOffset := 16 }, { name := "code", type := 6, offset := 3, embedded := false, tag := "", pkgPath := "runtime", byteOffset := 17 }] = some [(0, 1), (1, 1), (2, 1), (3, 1)] := by simp only [placesL, sz2, sz3, sz4, sz6]
theorem bA8 {z : List AV} {ps : List (Nat × AV)} : buildA tab 8 z ps = fillA (fun i => [(0, 1), (1, 1), (2, 1), (3, 1)][i]?) z ps := bA_struct und8 pl8
theorem pT8_0 : partType tab 8 0 = 2 := by simp only [partType, und8]; rfl
theorem pT8_1 : partType tab 8 1 = 3 := by simp only [partType, und8]; rfl
theorem pT8_2 : partType tab 8 2 = 4 := by simp only [partType, und8]; rfl
theorem pT8_3 : partType tab 8 3 = 6 := by simp only [partType, und8]; rfl
theorem und9 : tab.und 9 = some (.string) := (tab_und 9).trans Try.underlying9
theorem sz9 : size tab 9 = some 1 := by simp only [size, inf9, Option.map]
theorem ag9 : isAgg tab 9 = some false := by simp only [isAgg, und9]
theorem und10 : tab.und 10 = some (.string) := (tab_und 10).trans Try.underlying10
theorem sz10 : size tab 10 = some 1 := by simp only [size, inf10, Option.map]
theorem ag10 : isAgg tab 10 = some false := by simp only [isAgg, und10]
theorem und11 : tab.und 11 = some (.string) := (tab_und 11).trans Try.underlying11
theorem sz11 : size tab 11 = some 1 := by simp only [size, inf11, Option.map]
theorem ag11 : isAgg tab 11 = some false := by simp only [isAgg, und11]
theorem und12 : tab.und 12 = some (.int .u64) := (tab_und 12).trans Try.underlying12
theorem sz12 : size tab 12 = some 1 := by simp only [size, inf12, Option.map]
theorem ag12 : isAgg tab 12 = some false := by simp only [isAgg, und12]
theorem und13 : tab.und 13 = some (.struct #[{ name := "msg", type := 9, offset := 0, embedded := false, tag := "", pkgPath := "runtime", byteOffset := 0 }, { name := "addr", type := 12, offset := 1, embedded := false, tag := "", pkgPath := "runtime", byteOffset := 16 }]) := (tab_und 13).trans Try.underlying13
theorem sz13 : size tab 13 = some 2 := by simp only [size, inf13, Option.map]
theorem ag13 : isAgg tab 13 = some true := by simp only [isAgg, und13]
theorem fo13 : fieldsOf tab 13 = some [{ name := "msg", type := 9, offset := 0, embedded := false, tag := "", pkgPath := "runtime", byteOffset := 0 }, { name := "addr", type := 12, offset := 1, embedded := false, tag := "", pkgPath := "runtime", byteOffset := 16 }] := by simp only [fieldsOf, und13]
theorem pl13 : placesL tab [{ name := "msg", type := 9, offset := 0, embedded := false, tag := "", pkgPath := "runtime", byteOffset := 0 }, { name := "addr", type := 12, offset := 1, embedded := false, tag := "", pkgPath := "runtime", byteOffset := 16 }] = some [(0, 1), (1, 1)] := by simp only [placesL, sz12, sz9]
theorem bA13 {z : List AV} {ps : List (Nat × AV)} : buildA tab 13 z ps = fillA (fun i => [(0, 1), (1, 1)][i]?) z ps := bA_struct und13 pl13
theorem pT13_0 : partType tab 13 0 = 9 := by simp only [partType, und13]; rfl
theorem pT13_1 : partType tab 13 1 = 12 := by simp only [partType, und13]; rfl
theorem und14 : tab.und 14 = some (.struct #[{ name := "msg", type := 9, offset := 0, embedded := false, tag := "", pkgPath := "runtime", byteOffset := 0 }, { name := "addr", type := 12, offset := 1, embedded := false, tag := "", pkgPath := "runtime", byteOffset := 16 }]) := (tab_und 14).trans Try.underlying14
theorem sz14 : size tab 14 = some 2 := by simp only [size, inf14, Option.map]
theorem ag14 : isAgg tab 14 = some true := by simp only [isAgg, und14]
theorem fo14 : fieldsOf tab 14 = some [{ name := "msg", type := 9, offset := 0, embedded := false, tag := "", pkgPath := "runtime", byteOffset := 0 }, { name := "addr", type := 12, offset := 1, embedded := false, tag := "", pkgPath := "runtime", byteOffset := 16 }] := by simp only [fieldsOf, und14]
theorem pl14 : placesL tab [{ name := "msg", type := 9, offset := 0, embedded := false, tag := "", pkgPath := "runtime", byteOffset := 0 }, { name := "addr", type := 12, offset := 1, embedded := false, tag := "", pkgPath := "runtime", byteOffset := 16 }] = some [(0, 1), (1, 1)] := by simp only [placesL, sz12, sz9]
theorem bA14 {z : List AV} {ps : List (Nat × AV)} : buildA tab 14 z ps = fillA (fun i => [(0, 1), (1, 1)][i]?) z ps := bA_struct und14 pl14
theorem pT14_0 : partType tab 14 0 = 9 := by simp only [partType, und14]; rfl
theorem pT14_1 : partType tab 14 1 = 12 := by simp only [partType, und14]; rfl
theorem und21 : tab.und 21 = some (.int .i32) := (tab_und 21).trans Try.underlying21
theorem sz21 : size tab 21 = some 1 := by simp only [size, inf21, Option.map]
theorem ag21 : isAgg tab 21 = some false := by simp only [isAgg, und21]
theorem und22 : tab.und 22 = some (.slice 50) := (tab_und 22).trans Try.underlying22
theorem sz22 : size tab 22 = some 1 := by simp only [size, inf22, Option.map]
theorem ag22 : isAgg tab 22 = some false := by simp only [isAgg, und22]
theorem pT22 {i : Nat} : partType tab 22 i = 50 := by simp only [partType, und22]
theorem und23 : tab.und 23 = some (.slice 34) := (tab_und 23).trans Try.underlying23
theorem sz23 : size tab 23 = some 1 := by simp only [size, inf23, Option.map]
theorem ag23 : isAgg tab 23 = some false := by simp only [isAgg, und23]
theorem pT23 {i : Nat} : partType tab 23 i = 34 := by simp only [partType, und23]
theorem und24 : tab.und 24 = some (.slice 85) := (tab_und 24).trans Try.underlying24
theorem sz24 : size tab 24 = some 1 := by simp only [size, inf24, Option.map]
theorem ag24 : isAgg tab 24 = some false := by simp only [isAgg, und24]
theorem pT24 {i : Nat} : partType tab 24 i = 85 := by simp only [partType, und24]
theorem und25 : tab.und 25 = some (.struct #[{ name := "Fields", type := 23, offset := 0, embedded := false, tag := "", pkgPath := "", byteOffset := 0 }, { name := "Pages", type := 24, offset := 1, embedded := false, tag := "", pkgPath := "", byteOffset := 24 }]) := (tab_und 25).trans Try.underlying25
theorem sz25 : size tab 25 = some 2 := by simp only [size, inf25, Option.map]
theorem ag25 : isAgg tab 25 = some true := by simp only [isAgg, und25]
theorem fo25 : fieldsOf tab 25 = some [{ name := "Fields", type := 23, offset := 0, embedded := false, tag := "", pkgPath := "", byteOffset := 0 }, { name := "Pages", type := 24, offset := 1, embedded := false, tag := "", pkgPath := "", byteOffset := 24 }] := by simp only [fieldsOf, und25]
theorem pl25 : placesL tab [{ name := "Fields", type := 23, offset := 0, embedded := false, tag := "", pkgPath := "", byteOffset := 0 }, { name := "Pages", type := 24, offset := 1, embedded := false, tag := "", pkgPath := "", byteOffset := 24 }] = some [(0, 1), (1, 1)] := by simp only [placesL, sz23, sz24]
theorem bA25 {z : List AV} {ps : List (Nat × AV)} : buildA tab 25 z ps = fillA (fun i => [(0, 1), (1, 1)][i]?) z ps := bA_struct und25 pl25
theorem pT25_0 : partType tab 25 0 = 23 := by simp only [partType, und25]; rfl
theorem pT25_1 : partType tab 25 1 = 24 := by simp only [partType, und25]; rfl
theorem und26 : tab.und 26 = some (.struct #[{ name := "Fields", type := 23, offset := 0, embedded := false, tag := "", pkgPath := "", byteOffset := 0 }, { name := "Pages", type := 24, offset := 1, embedded := false, tag := "", pkgPath := "", byteOffset := 24 }]) := (tab_und 26).trans Try.underlying26
theorem sz26 : size tab 26 = some 2 := by simp only [size, inf26, Option.map]
theorem ag26 : isAgg tab 26 = some true := by simp only [isAgg, und26]
theorem fo26 : fieldsOf tab 26 = some [{ name := "Fields", type := 23, offset := 0, embedded := false, tag := "", pkgPath := "", byteOffset := 0 }, { name := "Pages", type := 24, offset := 1, embedded := false, tag := "", pkgPath := "", byteOffset := 24 }] := by simp only [fieldsOf, und26]
theorem pl26 : placesL tab [{ name := "Fields", type := 23, offset := 0, embedded := false, tag := "", pkgPath := "", byteOffset := 0 }, { name := "Pages", type := 24, offset := 1, embedded := false, tag := "", pkgPath := "", byteOffset := 24 }] = some [(0, 1), (1, 1)] := by simp only [placesL, sz23, sz24]
theorem bA26 {z : List AV} {ps : List (Nat × AV)} : buildA tab 26 z ps = fillA (fun i => [(0, 1), (1, 1)][i]?) z ps := bA_struct und26 pl26
theorem pT26_0 : partType tab 26 0 = 23 := by simp only [partType, und26]; rfl
theorem pT26_1 : partType tab 26 1 = 24 := by simp only [partType, und26]; rfl
theorem und28 : tab.und 28 = some (.struct #[{ name := "Kind", type := 3, offset := 0, embedded := false, tag := "", pkgPath := "", byteOffset := 0 }, { name := "N", type := 3, offset := 1, embedded := false, tag := "", pkgPath := "", byteOffset := 8 }, { name := "S", type := 9, offset := 2, embedded := false, tag := "", pkgPath := "", byteOffset := 16 }]) := (tab_und 28).trans Try.underlying28
theorem sz28 : size tab 28 = some 3 := by simp only [size, inf28, Option.map]
theorem ag28 : isAgg tab 28 = some true := by simp only [isAgg, und28]
theorem fo28 : fieldsOf tab 28 = some [{ name := "Kind", type := 3, offset := 0, embedded := false, tag := "", pkgPath := "", byteOffset := 0 }, { name := "N", type := 3, offset := 1, embedded := false, tag := "", pkgPath := "", byteOffset := 8 }, { name := "S", type := 9, offset := 2, embedded := false, tag := "", pkgPath := "", byteOffset := 16 }] := by simp only [fieldsOf, und28]
theorem pl28 : placesL tab [{ name := "Kind", type := 3, offset := 0, embedded := false, tag := "", pkgPath := "", byteOffset := 0 }, { name := "N", type := 3, offset := 1, embedded := false, tag := "", pkgPath := "", byteOffset := 8 }, { name := "S", type := 9, offset := 2, embedded := false, tag := "", pkgPath := "", byteOffset := 16 }] = some [(0, 1), (1, 1), (2, 1)] := by simp only [placesL, sz3, sz9]
theorem bA28 {z : List AV} {ps : List (Nat × AV)} : buildA tab 28 z ps = fillA (fun i => [(0, 1), (1, 1), (2, 1)][i]?) z ps := bA_struct und28 pl28
theorem pT28_0 : partType tab 28 0 = 3 := by simp only [partType, und28]; rfl
theorem pT28_1 : partType tab 28 1 = 3 := by simp only [partType, und28]; rfl
theorem pT28_2 : partType tab 28 2 = 9 := by simp only [partType, und28]; rfl
theorem und29 : tab.und 29 = some (.struct #[{ name := "Kind", type := 3, offset := 0, embedded := false, tag := "", pkgPath := "", byteOffset := 0 }, { name := "N", type := 3, offset := 1, embedded := false, tag := "", pkgPath := "", byteOffset := 8 }, { name := "S", type := 9, offset := 2, embedded := false, tag := "", pkgPath := "", byteOffset := 16 }]) := (tab_und 29).trans Try.underlying29
theorem sz29 : size tab 29 = some 3 := by simp only [size, inf29, Option.map]
theorem ag29 : isAgg tab 29 = some true := by simp only [isAgg, und29]
theorem fo29 : fieldsOf tab 29 = some [{ name := "Kind", type := 3, offset := 0, embedded := false, tag := "", pkgPath := "", byteOffset := 0 }, { name := "N", type := 3, offset := 1, embedded := false, tag := "", pkgPath := "", byteOffset := 8 }, { name := "S", type := 9, offset := 2, embedded := false, tag := "", pkgPath := "", byteOffset := 16 }] := by simp only [fieldsOf, und29]
theorem pl29 : placesL tab [{ name := "Kind", type := 3, offset := 0, embedded := false, tag := "", pkgPath := "", byteOffset := 0 }, { name := "N", type := 3, offset := 1, embedded := false, tag := "", pkgPath := "", byteOffset := 8 }, { name := "S", type := 9, offset := 2, embedded := false, tag := "", pkgPath := "", byteOffset := 16 }] = some [(0, 1), (1, 1), (2, 1)] := by simp only [placesL, sz3, sz9]
theorem bA29 {z : List AV} {ps : List (Nat × AV)} : buildA tab 29 z ps = fillA (fun i => [(0, 1), (1, 1), (2, 1)][i]?) z ps := bA_struct und29 pl29
theorem pT29_0 : partType tab 29 0 = 3 := by simp only [partType, und29]; rfl
theorem pT29_1 : partType tab 29 1 = 3 := by simp only [partType, und29]; rfl
theorem pT29_2 : partType tab 29 2 = 9 := by simp only [partType, und29]; rfl
theorem und30 : tab.und 30 = some (.slice 32) := (tab_und 30).trans Try.underlying30
theorem sz30 : size tab 30 = some 1 := by simp only [size, inf30, Option.map]
theorem ag30 : isAgg tab 30 = some false := by simp only [isAgg, und30]
theorem pT30 {i : Nat} : partType tab 30 i = 32 := by simp only [partType, und30]
theorem und31 : tab.und 31 = some (.struct #[{ name := "Op", type := 3, offset := 0, embedded := false, tag := "", pkgPath := "", byteOffset := 0 }, { name := "V", type := 29, offset := 1, embedded := false, tag := "", pkgPath := "", byteOffset := 8 }, { name := "Name", type := 9, offset := 4, embedded := false, tag := "", pkgPath := "", byteOffset := 40 }, { name := "Args", type := 30, offset := 5, embedded := false, tag := "", pkgPath := "", byteOffset := 56 }]) := (tab_und 31).trans Try.underlying31
theorem sz31 : size tab 31 = some 6 := by simp only [size, inf31, Option.map]
theorem ag31 : isAgg tab 31 = some true := by simp only [isAgg, und31]
theorem fo31 : fieldsOf tab 31 = some [{ name := "Op", type := 3, offset := 0, embedded := false, tag := "", pkgPath := "", byteOffset := 0 }, { name := "V", type := 29, offset := 1, embedded := false, tag := "", pkgPath := "", byteOffset := 8 }, { name := "Name", type := 9, offset := 4, embedded := false, tag := "", pkgPath := "", byteOffset := 40 }, { name := "Args", type := 30, offset := 5, embedded := false, tag := "", pkgPath := "", byteOffset := 56 }] := by simp only [fieldsOf, und31]
theorem pl31 : placesL tab [{ name := "Op", type := 3, offset := 0, embedded := false, tag := "", pkgPath := "", byteOffset := 0 }, { name := "V", type := 29, offset := 1, embedded := false, tag := "", pkgPath := "", byteOffset := 8 }, { name := "Name", type := 9, offset := 4, embedded := false, tag := "", pkgPath := "", byteOffset := 40 }, { name := "Args", type := 30, offset := 5, embedded := false, tag := "", pkgPath := "", byteOffset := 56 }] = some [(0, 1), (1, 3), (4, 1), (5, 1)] := by simp only [placesL, sz29, sz3, sz30, sz9]
theorem bA31 {z : List AV} {ps : List (Nat × AV)} : buildA tab 31 z ps = fillA (fun i => [(0, 1), (1, 3), (4, 1), (5, 1)][i]?) z ps := bA_struct und31 pl31
theorem pT31_0 : partType tab 31 0 = 3 := by simp only [partType, und31]; rfl
theorem pT31_1 : partType tab 31 1 = 29 := by simp only [partType, und31]; rfl
theorem pT31_2 : partType tab 31 2 = 9 := by simp only [partType, und31]; rfl
theorem pT31_3 : partType tab 31 3 = 30 := by simp only [partType, und31]; rfl
theorem und32 : tab.und 32 = some (.struct #[{ name := "Op", type := 3, offset := 0, embedded := false, tag := "", pkgPath := "", byteOffset := 0 }, { name := "V", type := 29, offset := 1, embedded := false, tag := "", pkgPath := "", byteOffset := 8 }, { name := "Name", type := 9, offset := 4, embedded := false, tag := "", pkgPath := "", byteOffset := 40 }, { name := "Args", type := 30, offset := 5, embedded := false, tag := "", pkgPath := "", byteOffset := 56 }]) := (tab_und 32).trans Try.underlying32
theorem sz32 : size tab 32 = some 6 := by simp only [size, inf32, Option.map]
theorem ag32 : isAgg tab 32 = some true := by simp only [isAgg, und32]
theorem fo32 : fieldsOf tab 32 = some [{ name := "Op", type := 3, offset := 0, embedded := false, tag := "", pkgPath := "", byteOffset := 0 }, { name := "V", type := 29, offset := 1, embedded := false, tag := "", pkgPath := "", byteOffset := 8 }, { name := "Name", type := 9, offset := 4, embedded := false, tag := "", pkgPath := "", byteOffset := 40 }, { name := "Args", type := 30, offset := 5, embedded := false, tag := "", pkgPath := "", byteOffset := 56 }] := by simp only [fieldsOf, und32]
theorem pl32 : placesL tab [{ name := "Op", type := 3, offset := 0, embedded := false, tag := "", pkgPath := "", byteOffset := 0 }, { name := "V", type := 29, offset := 1, embedded := false, tag := "", pkgPath := "", byteOffset := 8 }, { name := "Name", type := 9, offset := 4, embedded := false, tag := "", pkgPath := "", byteOffset := 40 }, { name := "Args", type := 30, offset := 5, embedded := false, tag := "", pkgPath := "", byteOffset := 56 }] = some [(0, 1), (1, 3), (4, 1), (5, 1)] := by simp only [placesL, sz29, sz3, sz30, sz9]
theorem bA32 {z : List AV} {ps : List (Nat × AV)} : buildA tab 32 z ps = fillA (fun i => [(0, 1), (1, 3), (4, 1), (5, 1)][i]?) z ps := bA_struct und32 pl32
theorem pT32_0 : partType tab 32 0 = 3 := by simp only [partType, und32]; rfl
theorem pT32_1 : partType tab 32 1 = 29 := by simp only [partType, und32]; rfl
theorem pT32_2 : partType tab 32 2 = 9 := by simp only [partType, und32]; rfl
theorem pT32_3 : partType tab 32 3 = 30 := by simp only [partType, und32]; rfl
theorem und33 : tab.und 33 = some (.struct #[{ name := "Name", type := 9, offset := 0, embedded := false, tag := "", pkgPath := "", byteOffset := 0 }, { name := "Kind", type := 3, offset := 1, embedded := false, tag := "", pkgPath := "", byteOffset := 16 }, { name := "Type", type := 3, offset := 2, embedded := false, tag := "", pkgPath := "", byteOffset := 24 }, { name := "Source", type := 32, offset := 3, embedded := false, tag := "", pkgPath := "", byteOffset := 32 }]) := (tab_und 33).trans Try.underlying33
theorem sz33 : size tab 33 = some 9 := by simp only [size, inf33, Option.map]
theorem ag33 : isAgg tab 33 = some true := by simp only [isAgg, und33]
theorem fo33 : fieldsOf tab 33 = some [{ name := "Name", type := 9, offset := 0, embedded := false, tag := "", pkgPath := "", byteOffset := 0 }, { name := "Kind", type := 3, offset := 1, embedded := false, tag := "", pkgPath := "", byteOffset := 16 }, { name := "Type", type := 3, offset := 2, embedded := false, tag := "", pkgPath := "", byteOffset := 24 }, { name := "Source", type := 32, offset := 3, embedded := false, tag := "", pkgPath := "", byteOffset := 32 }] := by simp only [fieldsOf, und33]
theorem pl33 : placesL tab [{ name := "Name", type := 9, offset := 0, embedded := false, tag := "", pkgPath := "", byteOffset := 0 }, { name := "Kind", type := 3, offset := 1, embedded := false, tag := "", pkgPath := "", byteOffset := 16 }, { name := "Type", type := 3, offset := 2, embedded := false, tag := "", pkgPath := "", byteOffset := 24 }, { name := "Source", type := 32, offset := 3, embedded := false, tag := "", pkgPath := "", byteOffset := 32 }] = some [(0, 1), (1, 1), (2, 1), (3, 6)] := by simp only [placesL, sz3, sz32, sz9]
theorem bA33 {z : List AV} {ps : List (Nat × AV)} : buildA tab 33 z ps = fillA (fun i => [(0, 1), (1, 1), (2, 1), (3, 6)][i]?) z ps := bA_struct und33 pl33
theorem pT33_0 : partType tab 33 0 = 9 := by simp only [partType, und33]; rfl
theorem pT33_1 : partType tab 33 1 = 3 := by simp only [partType, und33]; rfl
theorem pT33_2 : partType tab 33 2 = 3 := by simp only [partType, und33]; rfl
theorem pT33_3 : partType tab 33 3 = 32 := by simp only [partType, und33]; rfl
theorem und34 : tab.und 34 = some (.struct #[{ name := "Name", type := 9, offset := 0, embedded := false, tag := "", pkgPath := "", byteOffset := 0 }, { name := "Kind", type := 3, offset := 1, embedded := false, tag := "", pkgPath := "", byteOffset := 16 }, { name := "Type", type := 3, offset := 2, embedded := false, tag := "", pkgPath := "", byteOffset := 24 }, { name := "Source", type := 32, offset := 3, embedded := false, tag := "", pkgPath := "", byteOffset := 32 }]) := (tab_und 34).trans Try.underlying34
theorem sz34 : size tab 34 = some 9 := by simp only [size, inf34, Option.map]
theorem ag34 : isAgg tab 34 = some true := by simp only [isAgg, und34]
theorem fo34 : fieldsOf tab 34 = some [{ name := "Name", type := 9, offset := 0, embedded := false, tag := "", pkgPath := "", byteOffset := 0 }, { name := "Kind", type := 3, offset := 1, embedded := false, tag := "", pkgPath := "", byteOffset := 16 }, { name := "Type", type := 3, offset := 2, embedded := false, tag := "", pkgPath := "", byteOffset := 24 }, { name := "Source", type := 32, offset := 3, embedded := false, tag := "", pkgPath := "", byteOffset := 32 }] := by simp only [fieldsOf, und34]
theorem pl34 : placesL tab [{ name := "Name", type := 9, offset := 0, embedded := false, tag := "", pkgPath := "", byteOffset := 0 }, { name := "Kind", type := 3, offset := 1, embedded := false, tag := "", pkgPath := "", byteOffset := 16 }, { name := "Type", type := 3, offset := 2, embedded := false, tag := "", pkgPath := "", byteOffset := 24 }, { name := "Source", type := 32, offset := 3, embedded := false, tag := "", pkgPath := "", byteOffset := 32 }] = some [(0, 1), (1, 1), (2, 1), (3, 6)] := by simp only [placesL, sz3, sz32, sz9]
theorem bA34 {z : List AV} {ps : List (Nat × AV)} : buildA tab 34 z ps = fillA (fun i => [(0, 1), (1, 1), (2, 1), (3, 6)][i]?) z ps := bA_struct und34 pl34
theorem pT34_0 : partType tab 34 0 = 9 := by simp only [partType, und34]; rfl
theorem pT34_1 : partType tab 34 1 = 3 := by simp only [partType, und34]; rfl
theorem pT34_2 : partType tab 34 2 = 3 := by simp only [partType, und34]; rfl
theorem pT34_3 : partType tab 34 3 = 32 := by simp only [partType, und34]; rfl
theorem und35 : tab.und 35 = some (.int .i64) := (tab_und 35).trans Try.underlying35
theorem sz35 : size tab 35 = some 1 := by simp only [size, inf35, Option.map]
theorem ag35 : isAgg tab 35 = some false := by simp only [isAgg, und35]
theorem und44 : tab.und 44 = some (.struct #[{ name := "Tries", type := 3, offset := 0, embedded := false, tag := "", pkgPath := "", byteOffset := 0 }, { name := "Base", type := 3, offset := 1, embedded := false, tag := "", pkgPath := "", byteOffset := 8 }, { name := "Cap", type := 3, offset := 2, embedded := false, tag := "", pkgPath := "", byteOffset := 16 }]) := (tab_und 44).trans Try.underlying44
theorem sz44 : size tab 44 = some 3 := by simp only [size, inf44, Option.map]
theorem ag44 : isAgg tab 44 = some true := by simp only [isAgg, und44]
theorem fo44 : fieldsOf tab 44 = some [{ name := "Tries", type := 3, offset := 0, embedded := false, tag := "", pkgPath := "", byteOffset := 0 }, { name := "Base", type := 3, offset := 1, embedded := false, tag := "", pkgPath := "", byteOffset := 8 }, { name := "Cap", type := 3, offset := 2, embedded := false, tag := "", pkgPath := "", byteOffset := 16 }] := by simp only [fieldsOf, und44]
theorem pl44 : placesL tab [{ name := "Tries", type := 3, offset := 0, embedded := false, tag := "", pkgPath := "", byteOffset := 0 }, { name := "Base", type := 3, offset := 1, embedded := false, tag := "", pkgPath := "", byteOffset := 8 }, { name := "Cap", type := 3, offset := 2, embedded := false, tag := "", pkgPath := "", byteOffset := 16 }] = some [(0, 1), (1, 1), (2, 1)] := by simp only [placesL, sz3]
theorem bA44 {z : List AV} {ps : List (Nat × AV)} : buildA tab 44 z ps = fillA (fun i => [(0, 1), (1, 1), (2, 1)][i]?) z ps := bA_struct und44 pl44
theorem pT44_0 : partType tab 44 0 = 3 := by simp only [partType, und44]; rfl
theorem pT44_1 : partType tab 44 1 = 3 := by simp only [partType, und44]; rfl
theorem pT44_2 : partType tab 44 2 = 3 := by simp only [partType, und44]; rfl
theorem und45 : tab.und 45 = some (.struct #[{ name := "Tries", type := 3, offset := 0, embedded := false, tag := "", pkgPath := "", byteOffset := 0 }, { name := "Base", type := 3, offset := 1, embedded := false, tag := "", pkgPath := "", byteOffset := 8 }, { name := "Cap", type := 3, offset := 2, embedded := false, tag := "", pkgPath := "", byteOffset := 16 }]) := (tab_und 45).trans Try.underlying45
theorem sz45 : size tab 45 = some 3 := by simp only [size, inf45, Option.map]
theorem ag45 : isAgg tab 45 = some true := by simp only [isAgg, und45]
theorem fo45 : fieldsOf tab 45 = some [{ name := "Tries", type := 3, offset := 0, embedded := false, tag := "", pkgPath := "", byteOffset := 0 }, { name := "Base", type := 3, offset := 1, embedded := false, tag := "", pkgPath := "", byteOffset := 8 }, { name := "Cap", type := 3, offset := 2, embedded := false, tag := "", pkgPath := "", byteOffset := 16 }] := by simp only [fieldsOf, und45]
theorem pl45 : placesL tab [{ name := "Tries", type := 3, offset := 0, embedded := false, tag := "", pkgPath := "", byteOffset := 0 }, { name := "Base", type := 3, offset := 1, embedded := false, tag := "", pkgPath := "", byteOffset := 8 }, { name := "Cap", type := 3, offset := 2, embedded := false, tag := "", pkgPath := "", byteOffset := 16 }] = some [(0, 1), (1, 1), (2, 1)] := by simp only [placesL, sz3]
theorem bA45 {z : List AV} {ps : List (Nat × AV)} : buildA tab 45 z ps = fillA (fun i => [(0, 1), (1, 1), (2, 1)][i]?) z ps := bA_struct und45 pl45
theorem pT45_0 : partType tab 45 0 = 3 := by simp only [partType, und45]; rfl
theorem pT45_1 : partType tab 45 1 = 3 := by simp only [partType, und45]; rfl
theorem pT45_2 : partType tab 45 2 = 3 := by simp only [partType, und45]; rfl
theorem und49 : tab.und 49 = some (.struct #[{ name := "Kind", type := 3, offset := 0, embedded := false, tag := "", pkgPath := "", byteOffset := 0 }, { name := "A", type := 3, offset := 1, embedded := false, tag := "", pkgPath := "", byteOffset := 8 }, { name := "B", type := 3, offset := 2, embedded := false, tag := "", pkgPath := "", byteOffset := 16 }, { name := "Text", type := 9, offset := 3, embedded := false, tag := "", pkgPath := "", byteOffset := 24 }]) := (tab_und 49).trans Try.underlying49
theorem sz49 : size tab 49 = some 4 := by simp only [size, inf49, Option.map]
theorem ag49 : isAgg tab 49 = some true := by simp only [isAgg, und49]
theorem fo49 : fieldsOf tab 49 = some [{ name := "Kind", type := 3, offset := 0, embedded := false, tag := "", pkgPath := "", byteOffset := 0 }, { name := "A", type := 3, offset := 1, embedded := false, tag := "", pkgPath := "", byteOffset := 8 }, { name := "B", type := 3, offset := 2, embedded := false, tag := "", pkgPath := "", byteOffset := 16 }, { name := "Text", type := 9, offset := 3, embedded := false, tag := "", pkgPath := "", byteOffset := 24 }] := by simp only [fieldsOf, und49]
theorem pl49 : placesL tab [{ name := "Kind", type := 3, offset := 0, embedded := false, tag := "", pkgPath := "", byteOffset := 0 }, { name := "A", type := 3, offset := 1, embedded := false, tag := "", pkgPath := "", byteOffset := 8 }, { name := "B", type := 3, offset := 2, embedded := false, tag := "", pkgPath := "", byteOffset := 16 }, { name := "Text", type := 9, offset := 3, embedded := false, tag := "", pkgPath := "", byteOffset := 24 }] = some [(0, 1), (1, 1), (2, 1), (3, 1)] := by simp only [placesL, sz3, sz9]
theorem bA49 {z : List AV} {ps : List (Nat × AV)} : buildA tab 49 z ps = fillA (fun i => [(0, 1), (1, 1), (2, 1), (3, 1)][i]?) z ps := bA_struct und49 pl49
theorem pT49_0 : partType tab 49 0 = 3 := by simp only [partType, und49]; rfl
theorem pT49_1 : partType tab 49 1 = 3 := by simp only [partType, und49]; rfl
theorem pT49_2 : partType tab 49 2 = 3 := by simp only [partType, und49]; rfl
theorem pT49_3 : partType tab 49 3 = 9 := by simp only [partType, und49]; rfl
theorem und50 : tab.und 50 = some (.struct #[{ name := "Kind", type := 3, offset := 0, embedded := false, tag := "", pkgPath := "", byteOffset := 0 }, { name := "A", type := 3, offset := 1, embedded := false, tag := "", pkgPath := "", byteOffset := 8 }, { name := "B", type := 3, offset := 2, embedded := false, tag := "", pkgPath := "", byteOffset := 16 }, { name := "Text", type := 9, offset := 3, embedded := false, tag := "", pkgPath := "", byteOffset := 24 }]) := (tab_und 50).trans Try.underlying50
theorem sz50 : size tab 50 = some 4 := by simp only [size, inf50, Option.map]
theorem ag50 : isAgg tab 50 = some true := by simp only [isAgg, und50]
theorem fo50 : fieldsOf tab 50 = some [{ name := "Kind", type := 3, offset := 0, embedded := false, tag := "", pkgPath := "", byteOffset := 0 }, { name := "A", type := 3, offset := 1, embedded := false, tag := "", pkgPath := "", byteOffset := 8 }, { name := "B", type := 3, offset := 2, embedded := false, tag := "", pkgPath := "", byteOffset := 16 }, { name := "Text", type := 9, offset := 3, embedded := false, tag := "", pkgPath := "", byteOffset := 24 }] := by simp only [fieldsOf, und50]
theorem pl50 : placesL tab [{ name := "Kind", type := 3, offset := 0, embedded := false, tag := "", pkgPath := "", byteOffset := 0 }, { name := "A", type := 3, offset := 1, embedded := false, tag := "", pkgPath := "", byteOffset := 8 }, { name := "B", type := 3, offset := 2, embedded := false, tag := "", pkgPath := "", byteOffset := 16 }, { name := "Text", type := 9, offset := 3, embedded := false, tag := "", pkgPath := "", byteOffset := 24 }] = some [(0, 1), (1, 1), (2, 1), (3, 1)] := by simp only [placesL, sz3, sz9]
theorem bA50 {z : List AV} {ps : List (Nat × AV)} : buildA tab 50 z ps = fillA (fun i => [(0, 1), (1, 1), (2, 1), (3, 1)][i]?) z ps := bA_struct und50 pl50
theorem pT50_0 : partType tab 50 0 = 3 := by simp only [partType, und50]; rfl
theorem pT50_1 : partType tab 50 1 = 3 := by simp only [partType, und50]; rfl
theorem pT50_2 : partType tab 50 2 = 3 := by simp only [partType, und50]; rfl
theorem pT50_3 : partType tab 50 3 = 9 := by simp only [partType, und50]; rfl
theorem und55 : tab.und 55 = some (.slice 74) := (tab_und 55).trans Try.underlying55
theorem sz55 : size tab 55 = some 1 := by simp only [size, inf55, Option.map]
theorem ag55 : isAgg tab 55 = some false := by simp only [isAgg, und55]
theorem pT55 {i : Nat} : partType tab 55 i = 74 := by simp only [partType, und55]
theorem und61 : tab.und 61 = some (.slice 65) := (tab_und 61).trans Try.underlying61
theorem sz61 : size tab 61 = some 1 := by simp only [size, inf61, Option.map]
theorem ag61 : isAgg tab 61 = some false := by simp only [isAgg, und61]
theorem pT61 {i : Nat} : partType tab 61 i = 65 := by simp only [partType, und61]
theorem und64 : tab.und 64 = some (.struct #[{ name := "ID", type := 3, offset := 0, embedded := false, tag := "", pkgPath := "", byteOffset := 0 }, { name := "At", type := 3, offset := 1, embedded := false, tag := "", pkgPath := "", byteOffset := 8 }]) := (tab_und 64).trans Try.underlying64
theorem sz64 : size tab 64 = some 2 := by simp only [size, inf64, Option.map]
theorem ag64 : isAgg tab 64 = some true := by simp only [isAgg, und64]
theorem fo64 : fieldsOf tab 64 = some [{ name := "ID", type := 3, offset := 0, embedded := false, tag := "", pkgPath := "", byteOffset := 0 }, { name := "At", type := 3, offset := 1, embedded := false, tag := "", pkgPath := "", byteOffset := 8 }] := by simp only [fieldsOf, und64]
theorem pl64 : placesL tab [{ name := "ID", type := 3, offset := 0, embedded := false, tag := "", pkgPath := "", byteOffset := 0 }, { name := "At", type := 3, offset := 1, embedded := false, tag := "", pkgPath := "", byteOffset := 8 }] = some [(0, 1), (1, 1)] := by simp only [placesL, sz3]
theorem bA64 {z : List AV} {ps : List (Nat × AV)} : buildA tab 64 z ps = fillA (fun i => [(0, 1), (1, 1)][i]?) z ps := bA_struct und64 pl64
theorem pT64_0 : partType tab 64 0 = 3 := by simp only [partType, und64]; rfl
theorem pT64_1 : partType tab 64 1 = 3 := by simp only [partType, und64]; rfl
theorem und65 : tab.und 65 = some (.struct #[{ name := "ID", type := 3, offset := 0, embedded := false, tag := "", pkgPath := "", byteOffset := 0 }, { name := "At", type := 3, offset := 1, embedded := false, tag := "", pkgPath := "", byteOffset := 8 }]) := (tab_und 65).trans Try.underlying65
theorem sz65 : size tab 65 = some 2 := by simp only [size, inf65, Option.map]
theorem ag65 : isAgg tab 65 = some true := by simp only [isAgg, und65]
theorem fo65 : fieldsOf tab 65 = some [{ name := "ID", type := 3, offset := 0, embedded := false, tag := "", pkgPath := "", byteOffset := 0 }, { name := "At", type := 3, offset := 1, embedded := false, tag := "", pkgPath := "", byteOffset := 8 }] := by simp only [fieldsOf, und65]
theorem pl65 : placesL tab [{ name := "ID", type := 3, offset := 0, embedded := false, tag := "", pkgPath := "", byteOffset := 0 }, { name := "At", type := 3, offset := 1, embedded := false, tag := "", pkgPath := "", byteOffset := 8 }] = some [(0, 1), (1, 1)] := by simp only [placesL, sz3]
theorem bA65 {z : List AV} {ps : List (Nat × AV)} : buildA tab 65 z ps = fillA (fun i => [(0, 1), (1, 1)][i]?) z ps := bA_struct und65 pl65
theorem pT65_0 : partType tab 65 0 = 3 := by simp only [partType, und65]; rfl
theorem pT65_1 : partType tab 65 1 = 3 := by simp only [partType, und65]; rfl
theorem und67 : tab.und 67 = some (.slice 71) := (tab_und 67).trans Try.underlying67
theorem sz67 : size tab 67 = some 1 := by simp only [size, inf67, Option.map]
theorem ag67 : isAgg tab 67 = some false := by simp only [isAgg, und67]
theorem pT67 {i : Nat} : partType tab 67 i = 71 := by simp only [partType, und67]
theorem und70 : tab.und 70 = some (.struct #[{ name := "Name", type := 9, offset := 0, embedded := false, tag := "", pkgPath := "", byteOffset := 0 }, { name := "Key", type := 29, offset := 1, embedded := false, tag := "", pkgPath := "", byteOffset := 16 }, { name := "Has", type := 29, offset := 4, embedded := false, tag := "", pkgPath := "", byteOffset := 48 }]) := (tab_und 70).trans Try.underlying70
theorem sz70 : size tab 70 = some 7 := by simp only [size, inf70, Option.map]
theorem ag70 : isAgg tab 70 = some true := by simp only [isAgg, und70]
theorem fo70 : fieldsOf tab 70 = some [{ name := "Name", type := 9, offset := 0, embedded := false, tag := "", pkgPath := "", byteOffset := 0 }, { name := "Key", type := 29, offset := 1, embedded := false, tag := "", pkgPath := "", byteOffset := 16 }, { name := "Has", type := 29, offset := 4, embedded := false, tag := "", pkgPath := "", byteOffset := 48 }] := by simp only [fieldsOf, und70]
theorem pl70 : placesL tab [{ name := "Name", type := 9, offset := 0, embedded := false, tag := "", pkgPath := "", byteOffset := 0 }, { name := "Key", type := 29, offset := 1, embedded := false, tag := "", pkgPath := "", byteOffset := 16 }, { name := "Has", type := 29, offset := 4, embedded := false, tag := "", pkgPath := "", byteOffset := 48 }] = some [(0, 1), (1, 3), (4, 3)] := by simp only [placesL, sz29, sz9]
theorem bA70 {z : List AV} {ps : List (Nat × AV)} : buildA tab 70 z ps = fillA (fun i => [(0, 1), (1, 3), (4, 3)][i]?) z ps := bA_struct und70 pl70
theorem pT70_0 : partType tab 70 0 = 9 := by simp only [partType, und70]; rfl
theorem pT70_1 : partType tab 70 1 = 29 := by simp only [partType, und70]; rfl
theorem pT70_2 : partType tab 70 2 = 29 := by simp only [partType, und70]; rfl
theorem und71 : tab.und 71 = some (.struct #[{ name := "Name", type := 9, offset := 0, embedded := false, tag := "", pkgPath := "", byteOffset := 0 }, { name := "Key", type := 29, offset := 1, embedded := false, tag := "", pkgPath := "", byteOffset := 16 }, { name := "Has", type := 29, offset := 4, embedded := false, tag := "", pkgPath := "", byteOffset := 48 }]) := (tab_und 71).trans Try.underlying71
theorem sz71 : size tab 71 = some 7 := by simp only [size, inf71, Option.map]
theorem ag71 : isAgg tab 71 = some true := by simp only [isAgg, und71]
theorem fo71 : fieldsOf tab 71 = some [{ name := "Name", type := 9, offset := 0, embedded := false, tag := "", pkgPath := "", byteOffset := 0 }, { name := "Key", type := 29, offset := 1, embedded := false, tag := "", pkgPath := "", byteOffset := 16 }, { name := "Has", type := 29, offset := 4, embedded := false, tag := "", pkgPath := "", byteOffset := 48 }] := by simp only [fieldsOf, und71]
theorem pl71 : placesL tab [{ name := "Name", type := 9, offset := 0, embedded := false, tag := "", pkgPath := "", byteOffset := 0 }, { name := "Key", type := 29, offset := 1, embedded := false, tag := "", pkgPath := "", byteOffset := 16 }, { name := "Has", type := 29, offset := 4, embedded := false, tag := "", pkgPath := "", byteOffset := 48 }] = some [(0, 1), (1, 3), (4, 3)] := by simp only [placesL, sz29, sz9]
theorem bA71 {z : List AV} {ps : List (Nat × AV)} : buildA tab 71 z ps = fillA (fun i => [(0, 1), (1, 3), (4, 3)][i]?) z ps := bA_struct und71 pl71
theorem pT71_0 : partType tab 71 0 = 9 := by simp only [partType, und71]; rfl
theorem pT71_1 : partType tab 71 1 = 29 := by simp only [partType, und71]; rfl
theorem pT71_2 : partType tab 71 2 = 29 := by simp only [partType, und71]; rfl
theorem und73 : tab.und 73 = some (.struct #[{ name := "Kind", type := 3, offset := 0, embedded := false, tag := "", pkgPath := "", byteOffset := 0 }, { name := "At", type := 3, offset := 1, embedded := false, tag := "", pkgPath := "", byteOffset := 8 }, { name := "S", type := 9, offset := 2, embedded := false, tag := "", pkgPath := "", byteOffset := 16 }, { name := "V", type := 29, offset := 3, embedded := false, tag := "", pkgPath := "", byteOffset := 32 }]) := (tab_und 73).trans Try.underlying73
theorem sz73 : size tab 73 = some 6 := by simp only [size, inf73, Option.map]
theorem ag73 : isAgg tab 73 = some true := by simp only [isAgg, und73]
theorem fo73 : fieldsOf tab 73 = some [{ name := "Kind", type := 3, offset := 0, embedded := false, tag := "", pkgPath := "", byteOffset := 0 }, { name := "At", type := 3, offset := 1, embedded := false, tag := "", pkgPath := "", byteOffset := 8 }, { name := "S", type := 9, offset := 2, embedded := false, tag := "", pkgPath := "", byteOffset := 16 }, { name := "V", type := 29, offset := 3, embedded := false, tag := "", pkgPath := "", byteOffset := 32 }] := by simp only [fieldsOf, und73]
theorem pl73 : placesL tab [{ name := "Kind", type := 3, offset := 0, embedded := false, tag := "", pkgPath := "", byteOffset := 0 }, { name := "At", type := 3, offset := 1, embedded := false, tag := "", pkgPath := "", byteOffset := 8 }, { name := "S", type := 9, offset := 2, embedded := false, tag := "", pkgPath := "", byteOffset := 16 }, { name := "V", type := 29, offset := 3, embedded := false, tag := "", pkgPath := "", byteOffset := 32 }] = some [(0, 1), (1, 1), (2, 1), (3, 3)] := by simp only [placesL, sz29, sz3, sz9]
theorem bA73 {z : List AV} {ps : List (Nat × AV)} : buildA tab 73 z ps = fillA (fun i => [(0, 1), (1, 1), (2, 1), (3, 3)][i]?) z ps := bA_struct und73 pl73
theorem pT73_0 : partType tab 73 0 = 3 := by simp only [partType, und73]; rfl
theorem pT73_1 : partType tab 73 1 = 3 := by simp only [partType, und73]; rfl
theorem pT73_2 : partType tab 73 2 = 9 := by simp only [partType, und73]; rfl
theorem pT73_3 : partType tab 73 3 = 29 := by simp only [partType, und73]; rfl
theorem und74 : tab.und 74 = some (.struct #[{ name := "Kind", type := 3, offset := 0, embedded := false, tag := "", pkgPath := "", byteOffset := 0 }, { name := "At", type := 3, offset := 1, embedded := false, tag := "", pkgPath := "", byteOffset := 8 }, { name := "S", type := 9, offset := 2, embedded := false, tag := "", pkgPath := "", byteOffset := 16 }, { name := "V", type := 29, offset := 3, embedded := false, tag := "", pkgPath := "", byteOffset := 32 }]) := (tab_und 74).trans Try.underlying74
theorem sz74 : size tab 74 = some 6 := by simp only [size, inf74, Option.map]
theorem ag74 : isAgg tab 74 = some true := by simp only [isAgg, und74]
theorem fo74 : fieldsOf tab 74 = some [{ name := "Kind", type := 3, offset := 0, embedded := false, tag := "", pkgPath := "", byteOffset := 0 }, { name := "At", type := 3, offset := 1, embedded := false, tag := "", pkgPath := "", byteOffset := 8 }, { name := "S", type := 9, offset := 2, embedded := false, tag := "", pkgPath := "", byteOffset := 16 }, { name := "V", type := 29, offset := 3, embedded := false, tag := "", pkgPath := "", byteOffset := 32 }] := by simp only [fieldsOf, und74]
theorem pl74 : placesL tab [{ name := "Kind", type := 3, offset := 0, embedded := false, tag := "", pkgPath := "", byteOffset := 0 }, { name := "At", type := 3, offset := 1, embedded := false, tag := "", pkgPath := "", byteOffset := 8 }, { name := "S", type := 9, offset := 2, embedded := false, tag := "", pkgPath := "", byteOffset := 16 }, { name := "V", type := 29, offset := 3, embedded := false, tag := "", pkgPath := "", byteOffset := 32 }] = some [(0, 1), (1, 1), (2, 1), (3, 3)] := by simp only [placesL, sz29, sz3, sz9]
theorem bA74 {z : List AV} {ps : List (Nat × AV)} : buildA tab 74 z ps = fillA (fun i => [(0, 1), (1, 1), (2, 1), (3, 3)][i]?) z ps := bA_struct und74 pl74
theorem pT74_0 : partType tab 74 0 = 3 := by simp only [partType, und74]; rfl
theorem pT74_1 : partType tab 74 1 = 3 := by simp only [partType, und74]; rfl
theorem pT74_2 : partType tab 74 2 = 9 := by simp only [partType, und74]; rfl
theorem pT74_3 : partType tab 74 3 = 29 := by simp only [partType, und74]; rfl
theorem und77 : tab.und 77 = some (.struct #[{ name := "l", type := 22, offset := 0, embedded := false, tag := "", pkgPath := "lychway/lychwaykeep", byteOffset := 0 }, { name := "at", type := 3, offset := 1, embedded := false, tag := "", pkgPath := "lychway/lychwaykeep", byteOffset := 24 }]) := (tab_und 77).trans Try.underlying77
theorem sz77 : size tab 77 = some 2 := by simp only [size, inf77, Option.map]
theorem ag77 : isAgg tab 77 = some true := by simp only [isAgg, und77]
theorem fo77 : fieldsOf tab 77 = some [{ name := "l", type := 22, offset := 0, embedded := false, tag := "", pkgPath := "lychway/lychwaykeep", byteOffset := 0 }, { name := "at", type := 3, offset := 1, embedded := false, tag := "", pkgPath := "lychway/lychwaykeep", byteOffset := 24 }] := by simp only [fieldsOf, und77]
theorem pl77 : placesL tab [{ name := "l", type := 22, offset := 0, embedded := false, tag := "", pkgPath := "lychway/lychwaykeep", byteOffset := 0 }, { name := "at", type := 3, offset := 1, embedded := false, tag := "", pkgPath := "lychway/lychwaykeep", byteOffset := 24 }] = some [(0, 1), (1, 1)] := by simp only [placesL, sz22, sz3]
theorem bA77 {z : List AV} {ps : List (Nat × AV)} : buildA tab 77 z ps = fillA (fun i => [(0, 1), (1, 1)][i]?) z ps := bA_struct und77 pl77
theorem pT77_0 : partType tab 77 0 = 22 := by simp only [partType, und77]; rfl
theorem pT77_1 : partType tab 77 1 = 3 := by simp only [partType, und77]; rfl
theorem und78 : tab.und 78 = some (.struct #[{ name := "l", type := 22, offset := 0, embedded := false, tag := "", pkgPath := "lychway/lychwaykeep", byteOffset := 0 }, { name := "at", type := 3, offset := 1, embedded := false, tag := "", pkgPath := "lychway/lychwaykeep", byteOffset := 24 }]) := (tab_und 78).trans Try.underlying78
theorem sz78 : size tab 78 = some 2 := by simp only [size, inf78, Option.map]
theorem ag78 : isAgg tab 78 = some true := by simp only [isAgg, und78]
theorem fo78 : fieldsOf tab 78 = some [{ name := "l", type := 22, offset := 0, embedded := false, tag := "", pkgPath := "lychway/lychwaykeep", byteOffset := 0 }, { name := "at", type := 3, offset := 1, embedded := false, tag := "", pkgPath := "lychway/lychwaykeep", byteOffset := 24 }] := by simp only [fieldsOf, und78]
theorem pl78 : placesL tab [{ name := "l", type := 22, offset := 0, embedded := false, tag := "", pkgPath := "lychway/lychwaykeep", byteOffset := 0 }, { name := "at", type := 3, offset := 1, embedded := false, tag := "", pkgPath := "lychway/lychwaykeep", byteOffset := 24 }] = some [(0, 1), (1, 1)] := by simp only [placesL, sz22, sz3]
theorem bA78 {z : List AV} {ps : List (Nat × AV)} : buildA tab 78 z ps = fillA (fun i => [(0, 1), (1, 1)][i]?) z ps := bA_struct und78 pl78
theorem pT78_0 : partType tab 78 0 = 22 := by simp only [partType, und78]; rfl
theorem pT78_1 : partType tab 78 1 = 3 := by simp only [partType, und78]; rfl
theorem und80 : tab.und 80 = some (.slice 9) := (tab_und 80).trans Try.underlying80
theorem sz80 : size tab 80 = some 1 := by simp only [size, inf80, Option.map]
theorem ag80 : isAgg tab 80 = some false := by simp only [isAgg, und80]
theorem pT80 {i : Nat} : partType tab 80 i = 9 := by simp only [partType, und80]
theorem und83 : tab.und 83 = some (.slice 5) := (tab_und 83).trans Try.underlying83
theorem sz83 : size tab 83 = some 1 := by simp only [size, inf83, Option.map]
theorem ag83 : isAgg tab 83 = some false := by simp only [isAgg, und83]
theorem pT83 {i : Nat} : partType tab 83 i = 5 := by simp only [partType, und83]
theorem und84 : tab.und 84 = some (.struct #[{ name := "Name", type := 9, offset := 0, embedded := false, tag := "", pkgPath := "", byteOffset := 0 }, { name := "Fields", type := 80, offset := 1, embedded := false, tag := "", pkgPath := "", byteOffset := 16 }, { name := "Skip", type := 32, offset := 2, embedded := false, tag := "", pkgPath := "", byteOffset := 40 }]) := (tab_und 84).trans Try.underlying84
theorem sz84 : size tab 84 = some 8 := by simp only [size, inf84, Option.map]
theorem ag84 : isAgg tab 84 = some true := by simp only [isAgg, und84]
theorem fo84 : fieldsOf tab 84 = some [{ name := "Name", type := 9, offset := 0, embedded := false, tag := "", pkgPath := "", byteOffset := 0 }, { name := "Fields", type := 80, offset := 1, embedded := false, tag := "", pkgPath := "", byteOffset := 16 }, { name := "Skip", type := 32, offset := 2, embedded := false, tag := "", pkgPath := "", byteOffset := 40 }] := by simp only [fieldsOf, und84]
theorem pl84 : placesL tab [{ name := "Name", type := 9, offset := 0, embedded := false, tag := "", pkgPath := "", byteOffset := 0 }, { name := "Fields", type := 80, offset := 1, embedded := false, tag := "", pkgPath := "", byteOffset := 16 }, { name := "Skip", type := 32, offset := 2, embedded := false, tag := "", pkgPath := "", byteOffset := 40 }] = some [(0, 1), (1, 1), (2, 6)] := by simp only [placesL, sz32, sz80, sz9]
theorem bA84 {z : List AV} {ps : List (Nat × AV)} : buildA tab 84 z ps = fillA (fun i => [(0, 1), (1, 1), (2, 6)][i]?) z ps := bA_struct und84 pl84
theorem pT84_0 : partType tab 84 0 = 9 := by simp only [partType, und84]; rfl
theorem pT84_1 : partType tab 84 1 = 80 := by simp only [partType, und84]; rfl
theorem pT84_2 : partType tab 84 2 = 32 := by simp only [partType, und84]; rfl
theorem und85 : tab.und 85 = some (.struct #[{ name := "Name", type := 9, offset := 0, embedded := false, tag := "", pkgPath := "", byteOffset := 0 }, { name := "Fields", type := 80, offset := 1, embedded := false, tag := "", pkgPath := "", byteOffset := 16 }, { name := "Skip", type := 32, offset := 2, embedded := false, tag := "", pkgPath := "", byteOffset := 40 }]) := (tab_und 85).trans Try.underlying85
theorem sz85 : size tab 85 = some 8 := by simp only [size, inf85, Option.map]
theorem ag85 : isAgg tab 85 = some true := by simp only [isAgg, und85]
theorem fo85 : fieldsOf tab 85 = some [{ name := "Name", type := 9, offset := 0, embedded := false, tag := "", pkgPath := "", byteOffset := 0 }, { name := "Fields", type := 80, offset := 1, embedded := false, tag := "", pkgPath := "", byteOffset := 16 }, { name := "Skip", type := 32, offset := 2, embedded := false, tag := "", pkgPath := "", byteOffset := 40 }] := by simp only [fieldsOf, und85]
theorem pl85 : placesL tab [{ name := "Name", type := 9, offset := 0, embedded := false, tag := "", pkgPath := "", byteOffset := 0 }, { name := "Fields", type := 80, offset := 1, embedded := false, tag := "", pkgPath := "", byteOffset := 16 }, { name := "Skip", type := 32, offset := 2, embedded := false, tag := "", pkgPath := "", byteOffset := 40 }] = some [(0, 1), (1, 1), (2, 6)] := by simp only [placesL, sz32, sz80, sz9]
theorem bA85 {z : List AV} {ps : List (Nat × AV)} : buildA tab 85 z ps = fillA (fun i => [(0, 1), (1, 1), (2, 6)][i]?) z ps := bA_struct und85 pl85
theorem pT85_0 : partType tab 85 0 = 9 := by simp only [partType, und85]; rfl
theorem pT85_1 : partType tab 85 1 = 80 := by simp only [partType, und85]; rfl
theorem pT85_2 : partType tab 85 2 = 32 := by simp only [partType, und85]; rfl
theorem und109 : tab.und 109 = some (.slice 3) := (tab_und 109).trans Try.underlying109
theorem sz109 : size tab 109 = some 1 := by simp only [size, inf109, Option.map]
theorem ag109 : isAgg tab 109 = some false := by simp only [isAgg, und109]
theorem pT109 {i : Nat} : partType tab 109 i = 3 := by simp only [partType, und109]
theorem und112 : tab.und 112 = some (.array 13 9) := (tab_und 112).trans Try.underlying112
theorem sz112 : size tab 112 = some 13 := by simp only [size, inf112, Option.map]
theorem ag112 : isAgg tab 112 = some true := by simp only [isAgg, und112]
theorem bA112 {z : List AV} {ps : List (Nat × AV)} : buildA tab 112 z ps = fillA (fun i => some (i * 1, 1)) z ps := by simp only [buildA, und112, sz9]
theorem pT112 {i : Nat} : partType tab 112 i = 9 := by simp only [partType, und112]
theorem und122 : tab.und 122 = some (.int .u64) := (tab_und 122).trans Try.underlying122
theorem sz122 : size tab 122 = some 1 := by simp only [size, inf122, Option.map]
theorem ag122 : isAgg tab 122 = some false := by simp only [isAgg, und122]
theorem und130 : tab.und 130 = some (.int .u32) := (tab_und 130).trans Try.underlying130
theorem sz130 : size tab 130 = some 1 := by simp only [size, inf130, Option.map]
theorem ag130 : isAgg tab 130 = some false := by simp only [isAgg, und130]
theorem und131 : tab.und 131 = some (.int .u8) := (tab_und 131).trans Try.underlying131
theorem sz131 : size tab 131 = some 1 := by simp only [size, inf131, Option.map]
theorem ag131 : isAgg tab 131 = some false := by simp only [isAgg, und131]
theorem und132 : tab.und 132 = some (.int .u8) := (tab_und 132).trans Try.underlying132
theorem sz132 : size tab 132 = some 1 := by simp only [size, inf132, Option.map]
theorem ag132 : isAgg tab 132 = some false := by simp only [isAgg, und132]
theorem und135 : tab.und 135 = some (.int .i32) := (tab_und 135).trans Try.underlying135
theorem sz135 : size tab 135 = some 1 := by simp only [size, inf135, Option.map]
theorem ag135 : isAgg tab 135 = some false := by simp only [isAgg, und135]
theorem und136 : tab.und 136 = some (.int .i32) := (tab_und 136).trans Try.underlying136
theorem sz136 : size tab 136 = some 1 := by simp only [size, inf136, Option.map]
theorem ag136 : isAgg tab 136 = some false := by simp only [isAgg, und136]
theorem lv2 : leaves tab 8 2 = some [.int .i64] := by (simp [leaves, leavesF, sized, tab_cmp, cmpsL, tab, und2, sz2]; try rfl)
theorem lv3 : leaves tab 8 3 = some [.int .i64] := by (simp [leaves, leavesF, sized, tab_cmp, cmpsL, tab, und3, sz3]; try rfl)
theorem lv4 : leaves tab 8 4 = some [.bool] := by (simp [leaves, leavesF, sized, tab_cmp, cmpsL, tab, und4, sz4]; try rfl)
theorem lv5 : leaves tab 8 5 = some [.int .u8] := by (simp [leaves, leavesF, sized, tab_cmp, cmpsL, tab, und5, sz5]; try rfl)
theorem lv6 : leaves tab 8 6 = some [.int .u8] := by (simp [leaves, leavesF, sized, tab_cmp, cmpsL, tab, und6, sz6]; try rfl)
theorem lv9 : leaves tab 8 9 = some [.string] := by (simp [leaves, leavesF, sized, tab_cmp, cmpsL, tab, und9, sz9]; try rfl)
theorem lv10 : leaves tab 8 10 = some [.string] := by (simp [leaves, leavesF, sized, tab_cmp, cmpsL, tab, und10, sz10]; try rfl)
theorem lv11 : leaves tab 8 11 = some [.string] := by (simp [leaves, leavesF, sized, tab_cmp, cmpsL, tab, und11, sz11]; try rfl)
theorem lv12 : leaves tab 8 12 = some [.int .u64] := by (simp [leaves, leavesF, sized, tab_cmp, cmpsL, tab, und12, sz12]; try rfl)
theorem lv21 : leaves tab 8 21 = some [.int .i32] := by (simp [leaves, leavesF, sized, tab_cmp, cmpsL, tab, und21, sz21]; try rfl)
theorem lv29 : leaves tab 8 29 = some [.int .i64, .int .i64, .string] := by (simp [leaves, leavesF, sized, tab_cmp, cmpsL, tab, und3, sz3, und9, sz9, und29, sz29]; try rfl)
theorem lv35 : leaves tab 8 35 = some [.int .i64] := by (simp [leaves, leavesF, sized, tab_cmp, cmpsL, tab, und35, sz35]; try rfl)
theorem lv122 : leaves tab 8 122 = some [.int .u64] := by (simp [leaves, leavesF, sized, tab_cmp, cmpsL, tab, und122, sz122]; try rfl)
theorem lv130 : leaves tab 8 130 = some [.int .u32] := by (simp [leaves, leavesF, sized, tab_cmp, cmpsL, tab, und130, sz130]; try rfl)
theorem lv131 : leaves tab 8 131 = some [.int .u8] := by (simp [leaves, leavesF, sized, tab_cmp, cmpsL, tab, und131, sz131]; try rfl)
theorem lv132 : leaves tab 8 132 = some [.int .u8] := by (simp [leaves, leavesF, sized, tab_cmp, cmpsL, tab, und132, sz132]; try rfl)
theorem lv135 : leaves tab 8 135 = some [.int .i32] := by (simp [leaves, leavesF, sized, tab_cmp, cmpsL, tab, und135, sz135]; try rfl)
theorem lv136 : leaves tab 8 136 = some [.int .i32] := by (simp [leaves, leavesF, sized, tab_cmp, cmpsL, tab, und136, sz136]; try rfl)
theorem kp3_3 : tab.keep 3 3 = some ([3, 15, 16, 17], [13, 16, 26, 39]) := tab_keep (by kernel_rfl)
theorem kp6_4 : tab.keep 6 4 = some ([7, 8, 9, 22, 23], [7, 20, 30, 54, 65, 73]) := tab_keep (by kernel_rfl)
theorem kp9_3 : tab.keep 9 3 = some ([0, 7, 18, 19, 20], [4, 7, 15, 17, 19, 25, 30, 46, 54]) := tab_keep (by kernel_rfl)
theorem kp12_3 : tab.keep 12 3 = some ([0, 3, 4, 12, 13], [8, 12, 64, 66, 67, 72]) := tab_keep (by kernel_rfl)
theorem kp15_23 : tab.keep 15 23 = some ([2, 3, 4, 5, 9, 10, 11, 12, 77, 78, 91, 92, 93], [2, 4, 5, 7, 8, 11, 12, 17, 19, 22, 23, 24, 30, 31, 37, 41, 53, 60, 64, 70, 75, 82, 92, 109, 114, 119, 125, 130, 134]) := tab_keep (by kernel_rfl)
theorem kp15_18 : tab.keep 15 18 = some ([2, 3, 4, 5, 9, 77, 78], [2, 4, 5, 7, 8, 17, 19, 22, 23, 24, 30, 31, 37, 41, 53, 60, 64, 70, 75, 82, 92, 109, 114, 119, 125, 130, 134]) := tab_keep (by kernel_rfl)
theorem kp15_5 : tab.keep 15 5 = some ([2, 3, 4, 5, 25, 26], [2, 4, 5, 11, 12, 14, 17, 19, 22, 23, 24, 30, 31, 37, 41, 53, 60, 64, 70, 75, 82, 92, 109, 114, 119, 125, 130, 134]) := tab_keep (by kernel_rfl)
theorem kp23_6 : tab.keep 23 6 = some ([1, 5, 15, 16], [1, 10, 23]) := tab_keep (by kernel_rfl)
theorem kp30_5 : tab.keep 30 5 = some ([0, 5, 6], [10, 14, 26, 38, 43]) := tab_keep (by kernel_rfl)
theorem kp32_3 : tab.keep 32 3 = some ([4, 11, 12, 13], [12, 26, 28, 35]) := tab_keep (by kernel_rfl)
theorem kp33_4 : tab.keep 33 4 = some ([0, 8, 9, 10], [6, 9, 35, 47]) := tab_keep (by kernel_rfl)
theorem kp34_4 : tab.keep 34 4 = some ([5, 6, 14, 15, 16], [2, 12, 15, 21, 28, 37, 40]) := tab_keep (by kernel_rfl)
theorem kp35_2 : tab.keep 35 2 = some ([1, 2, 8, 9, 10], [2, 9, 21, 33]) := tab_keep (by kernel_rfl)
theorem kp41_1 : tab.keep 41 1 = some ([0, 2, 3], [5]) := tab_keep (by kernel_rfl)
theorem kp42_2 : tab.keep 42 2 = some ([0, 1, 7, 8], [7, 16]) := tab_keep (by kernel_rfl)
theorem kp53_3 : tab.keep 53 3 = some ([5, 15, 16, 17], [10, 12, 14, 16, 30]) := tab_keep (by kernel_rfl)
theorem kp55_12 : tab.keep 55 12 = some ([0, 2, 36, 37], [2, 12, 14, 19, 21, 33, 42]) := tab_keep (by kernel_rfl)
theorem kp56_3 : tab.keep 56 3 = some ([3, 6, 7, 8], [7]) := tab_keep (by kernel_rfl)
theorem kp65_2 : tab.keep 65 2 = some ([0, 1, 5], [8, 15]) := tab_keep (by kernel_rfl)
theorem kp68_4 : tab.keep 68 4 = some ([1, 6, 7, 8, 13, 14, 15], [6, 7, 12, 14, 27, 30, 35, 40, 45, 46]) := tab_keep (by kernel_rfl)
theorem kp69_3 : tab.keep 69 3 = some ([2, 3, 4, 7, 8, 13, 14, 15], [7, 8, 14, 26, 28]) := tab_keep (by kernel_rfl)
theorem kp71_5 : tab.keep 71 5 = some ([0, 2, 4, 5, 17, 18], [2, 8]) := tab_keep (by kernel_rfl)
theorem kp73_3 : tab.keep 73 3 = some ([0, 2, 4, 5], [2, 9, 19, 24, 42, 66]) := tab_keep (by kernel_rfl)
theorem kp77_3 : tab.keep 77 3 = some ([0, 2, 4, 8, 9, 10], [4, 13, 30, 46]) := tab_keep (by kernel_rfl)
theorem kp79_2 : tab.keep 79 2 = some ([0, 1, 7, 8], [7, 16]) := tab_keep (by kernel_rfl)
theorem kp81_2 : tab.keep 81 2 = some ([0, 1, 7, 8], [7, 16]) := tab_keep (by kernel_rfl)
theorem kp83_4 : tab.keep 83 4 = some ([0, 8, 9], [5, 8]) := tab_keep (by kernel_rfl)
theorem dr9_1 : tab.drw 9 1 = some [[], [], [], [1], [], [1, 3, 4], []] := tab_drw (by kernel_rfl)
theorem dr9_5 : tab.drw 9 5 = some [[], [], [], [1], [1], [1], [], []] := tab_drw (by kernel_rfl)
theorem dr11_2 : tab.drw 11 2 = some [[], [], [], [], [2], [], [], [2, 5], [], [1, 2, 4, 5, 7, 8], [1, 2, 4, 5, 7, 8], [1, 2, 4, 5, 7, 8], [], [], []] := tab_drw (by kernel_rfl)
theorem dr12_5 : tab.drw 12 5 = some [[], [], [], [], [], [], [], [], [], [], [], [], [], [], [], [], [], [], [], [], [], [], [], [], [], [], [], [], [], [], [], [], [], [], [], [], [], [], [], [], [], [], [], []] := tab_drw (by kernel_rfl)
theorem dr13_7 : tab.drw 13 7 = some [[], [], [], [], [], [], [0], [], [], [], [0], [], [], []] := tab_drw (by kernel_rfl)
theorem dr15_4 : tab.drw 15 4 = some [[], [], [0, 1], [], [], [], []] := tab_drw (by kernel_rfl)
theorem dr15_8 : tab.drw 15 8 = some [[], [], [], [], [0], [0], [2, 3], [], [0, 6], [0, 6], [2, 3], [], [], [0, 2, 3, 4, 5, 6, 8, 9, 10], []] := tab_drw (by kernel_rfl)
theorem dr15_13 : tab.drw 15 13 = some [[], [], [], [], [], [3], [3], [], [], []] := tab_drw (by kernel_rfl)
theorem dr22_6 : tab.drw 22 6 = some [[], [], [], [], [], [], [], [], [], []] := tab_drw (by kernel_rfl)
theorem dr29_6 : tab.drw 29 6 = some [[], [], [], [], [], [], [], [], [], [], [], [], [], []] := tab_drw (by kernel_rfl)
theorem dr31_3 : tab.drw 31 3 = some [[], [], [], [], [], [4], [4], [4], [4], [], [], [], [], []] := tab_drw (by kernel_rfl)
theorem dr33_8 : tab.drw 33 8 = some [[], [], [], [], [], [], [], []] := tab_drw (by kernel_rfl)
theorem dr33_10 : tab.drw 33 10 = some [[], [], [], [], [], [], [], [], [], [], [], [], []] := tab_drw (by kernel_rfl)
theorem dr34_8 : tab.drw 34 8 = some [[], [], [], [], [], [], [1, 2], [], [], [], []] := tab_drw (by kernel_rfl)
theorem dr38_3 : tab.drw 38 3 = some [[], [], [], [], [], [], [], [], [], [], [], [], [], [], [], [], [1, 2, 3, 5, 6, 7, 9, 10, 11, 12, 14, 15], []] := tab_drw (by kernel_rfl)
theorem dr38_4 : tab.drw 38 4 = some [[], [], [], [], [], [], [], [], [], [], [], [], [], [], []] := tab_drw (by kernel_rfl)
theorem dr41_3 : tab.drw 41 3 = some [[], [], [], [], [], [], [], [], [], [], [], [], [], [], [], []] := tab_drw (by kernel_rfl)
theorem dr51_1 : tab.drw 51 1 = some [[], [], [], [], [], [], [], []] := tab_drw (by kernel_rfl)
theorem dr59_5 : tab.drw 59 5 = some [[], [], [], [], [3], [], [], [], [], [], [], []] := tab_drw (by kernel_rfl)
theorem dr61_1 : tab.drw 61 1 = some [[], [], [], [], [], [4], [4], [4], [4], [], [], [], []] := tab_drw (by kernel_rfl)
theorem dr69_5 : tab.drw 69 5 = some [[], [], [], [], [], [], [], [0, 1], [], [], [], []] := tab_drw (by kernel_rfl)
theorem dr73_10 : tab.drw 73 10 = some [[], [], [], [], [], [], [], [], [], []] := tab_drw (by kernel_rfl)
theorem dr77_5 : tab.drw 77 5 = some [[], [], [], [], [], [], [], []] := tab_drw (by kernel_rfl)
theorem dr77_8 : tab.drw 77 8 = some [[], [], [], [], [], [], [], [], [], [], [], [], [], [], [], []] := tab_drw (by kernel_rfl)
theorem lv3_0 : tab.lv 3 0 = some 1 := tab_lv (by kernel_rfl)
theorem lv3_1 : tab.lv 3 1 = some 8 := tab_lv (by kernel_rfl)
theorem lv3_2 : tab.lv 3 2 = some 229384 := tab_lv (by kernel_rfl)
theorem lv3_3 : tab.lv 3 3 = some 491528 := tab_lv (by kernel_rfl)
theorem lv3_4 : tab.lv 3 4 = some 229432 := tab_lv (by kernel_rfl)
theorem lv3_5 : tab.lv 3 5 = some 229592 := tab_lv (by kernel_rfl)
theorem lv3_6 : tab.lv 3 6 = some 34359967752 := tab_lv (by kernel_rfl)
theorem lv3_7 : tab.lv 3 7 = some 4 := tab_lv (by kernel_rfl)
theorem lv3_8 : tab.lv 3 8 = some 229384 := tab_lv (by kernel_rfl)
theorem lv3_9 : tab.lv 3 9 = some 512 := tab_lv (by kernel_rfl)
theorem lv3_10 : tab.lv 3 10 = some 3584 := tab_lv (by kernel_rfl)
theorem lv3_11 : tab.lv 3 11 = some 4 := tab_lv (by kernel_rfl)
theorem lv4_0 : tab.lv 4 0 = some 3 := tab_lv (by kernel_rfl)
theorem lv4_1 : tab.lv 4 1 = some 3 := tab_lv (by kernel_rfl)
theorem lv4_2 : tab.lv 4 2 = some 99 := tab_lv (by kernel_rfl)
theorem lv4_3 : tab.lv 4 3 = some 483 := tab_lv (by kernel_rfl)
theorem lv4_4 : tab.lv 4 4 = some 2019 := tab_lv (by kernel_rfl)
theorem lv4_5 : tab.lv 4 5 = some 281474976710755 := tab_lv (by kernel_rfl)
theorem lv4_6 : tab.lv 4 6 = some 16 := tab_lv (by kernel_rfl)
theorem lv4_7 : tab.lv 4 7 = some 1125899906842723 := tab_lv (by kernel_rfl)
theorem lv4_8 : tab.lv 4 8 = some 16 := tab_lv (by kernel_rfl)
theorem lv4_9 : tab.lv 4 9 = some 6179 := tab_lv (by kernel_rfl)
theorem lv4_10 : tab.lv 4 10 = some 16 := tab_lv (by kernel_rfl)
theorem lv5_0 : tab.lv 5 0 = some 7 := tab_lv (by kernel_rfl)
theorem lv5_1 : tab.lv 5 1 = some 7 := tab_lv (by kernel_rfl)
theorem lv5_2 : tab.lv 5 2 = some 391 := tab_lv (by kernel_rfl)
theorem lv5_3 : tab.lv 5 3 = some 1925 := tab_lv (by kernel_rfl)
theorem lv5_4 : tab.lv 5 4 = some 8069 := tab_lv (by kernel_rfl)
theorem lv5_5 : tab.lv 5 5 = some 281474976712581 := tab_lv (by kernel_rfl)
theorem lv5_6 : tab.lv 5 6 = some 64 := tab_lv (by kernel_rfl)
theorem lv5_7 : tab.lv 5 7 = some 18014398509482629 := tab_lv (by kernel_rfl)
theorem lv5_8 : tab.lv 5 8 = some 25089 := tab_lv (by kernel_rfl)
theorem lv5_9 : tab.lv 5 9 = some 122881 := tab_lv (by kernel_rfl)
theorem lv5_10 : tab.lv 5 10 = some 18889465931478580854785 := tab_lv (by kernel_rfl)
theorem lv5_11 : tab.lv 5 11 = some 64 := tab_lv (by kernel_rfl)
theorem lv5_12 : tab.lv 5 12 = some 393217 := tab_lv (by kernel_rfl)
theorem lv5_13 : tab.lv 5 13 = some 1835009 := tab_lv (by kernel_rfl)
theorem lv5_14 : tab.lv 5 14 = some 64 := tab_lv (by kernel_rfl)
theorem lv6_0 : tab.lv 6 0 = some 7 := tab_lv (by kernel_rfl)
theorem lv6_1 : tab.lv 6 1 = some 128 := tab_lv (by kernel_rfl)
theorem lv6_2 : tab.lv 6 2 = some 896 := tab_lv (by kernel_rfl)
theorem lv6_3 : tab.lv 6 3 = some 12583808 := tab_lv (by kernel_rfl)
theorem lv6_4 : tab.lv 6 4 = some 29361024 := tab_lv (by kernel_rfl)
theorem lv6_5 : tab.lv 6 5 = some 12584832 := tab_lv (by kernel_rfl)
theorem lv6_6 : tab.lv 6 6 = some 12590976 := tab_lv (by kernel_rfl)
theorem lv6_7 : tab.lv 6 7 = some 144115188088441472 := tab_lv (by kernel_rfl)
theorem lv6_8 : tab.lv 6 8 = some 64 := tab_lv (by kernel_rfl)
theorem lv6_9 : tab.lv 6 9 = some 12585856 := tab_lv (by kernel_rfl)
theorem lv6_10 : tab.lv 6 10 = some 12583808 := tab_lv (by kernel_rfl)
theorem lv6_11 : tab.lv 6 11 = some 12583808 := tab_lv (by kernel_rfl)
theorem lv6_12 : tab.lv 6 12 = some 25216 := tab_lv (by kernel_rfl)
theorem lv6_13 : tab.lv 6 13 = some 90624 := tab_lv (by kernel_rfl)
theorem lv6_14 : tab.lv 6 14 = some 64 := tab_lv (by kernel_rfl)
theorem lv7_0 : tab.lv 7 0 = some 7 := tab_lv (by kernel_rfl)
theorem lv7_1 : tab.lv 7 1 = some 7 := tab_lv (by kernel_rfl)
theorem lv7_2 : tab.lv 7 2 = some 391 := tab_lv (by kernel_rfl)
theorem lv7_3 : tab.lv 7 3 = some 1799 := tab_lv (by kernel_rfl)
theorem lv7_4 : tab.lv 7 4 = some 7941 := tab_lv (by kernel_rfl)
theorem lv7_5 : tab.lv 7 5 = some 32512 := tab_lv (by kernel_rfl)
theorem lv7_6 : tab.lv 7 6 = some 120576 := tab_lv (by kernel_rfl)
theorem lv7_7 : tab.lv 7 7 = some 513792 := tab_lv (by kernel_rfl)
theorem lv7_8 : tab.lv 7 8 = some 64 := tab_lv (by kernel_rfl)
theorem lv8_0 : tab.lv 8 0 = some 3 := tab_lv (by kernel_rfl)
theorem lv8_1 : tab.lv 8 1 = some 3 := tab_lv (by kernel_rfl)
theorem lv8_2 : tab.lv 8 2 = some 99 := tab_lv (by kernel_rfl)
theorem lv8_3 : tab.lv 8 3 = some 483 := tab_lv (by kernel_rfl)
theorem lv8_4 : tab.lv 8 4 = some 2019 := tab_lv (by kernel_rfl)
theorem lv8_5 : tab.lv 8 5 = some 274877907427 := tab_lv (by kernel_rfl)
theorem lv8_6 : tab.lv 8 6 = some 16 := tab_lv (by kernel_rfl)
theorem lv8_7 : tab.lv 8 7 = some 1099511628259 := tab_lv (by kernel_rfl)
theorem lv8_8 : tab.lv 8 8 = some 16 := tab_lv (by kernel_rfl)
theorem lv8_9 : tab.lv 8 9 = some 6595 := tab_lv (by kernel_rfl)
theorem lv8_10 : tab.lv 8 10 = some 73786976294838212739 := tab_lv (by kernel_rfl)
theorem lv8_11 : tab.lv 8 11 = some 16 := tab_lv (by kernel_rfl)
theorem lv8_12 : tab.lv 8 12 = some 37778931862957161709698 := tab_lv (by kernel_rfl)
theorem lv8_13 : tab.lv 8 13 = some 16 := tab_lv (by kernel_rfl)
theorem lv8_14 : tab.lv 8 14 = some 16 := tab_lv (by kernel_rfl)
theorem lv9_0 : tab.lv 9 0 = some 21 := tab_lv (by kernel_rfl)
theorem lv9_1 : tab.lv 9 1 = some 129 := tab_lv (by kernel_rfl)
theorem lv9_2 : tab.lv 9 2 = some 1835137 := tab_lv (by kernel_rfl)
theorem lv9_3 : tab.lv 9 3 = some 3932289 := tab_lv (by kernel_rfl)
theorem lv9_4 : tab.lv 9 4 = some 1835649 := tab_lv (by kernel_rfl)
theorem lv9_5 : tab.lv 9 5 = some 1836673 := tab_lv (by kernel_rfl)
theorem lv9_6 : tab.lv 9 6 = some 8796094857345 := tab_lv (by kernel_rfl)
theorem lv9_7 : tab.lv 9 7 = some 64 := tab_lv (by kernel_rfl)
theorem lv9_8 : tab.lv 9 8 = some 1835137 := tab_lv (by kernel_rfl)
theorem lv9_9 : tab.lv 9 9 = some 64 := tab_lv (by kernel_rfl)
theorem lv10_0 : tab.lv 10 0 = some 1 := tab_lv (by kernel_rfl)
theorem lv10_1 : tab.lv 10 1 = some 49 := tab_lv (by kernel_rfl)
theorem lv10_2 : tab.lv 10 2 = some 433 := tab_lv (by kernel_rfl)
theorem lv10_3 : tab.lv 10 3 = some 268435505 := tab_lv (by kernel_rfl)
theorem lv10_4 : tab.lv 10 4 = some 4 := tab_lv (by kernel_rfl)
theorem lv10_5 : tab.lv 10 5 = some 549755813905 := tab_lv (by kernel_rfl)
theorem lv10_6 : tab.lv 10 6 = some 4 := tab_lv (by kernel_rfl)
theorem lv10_7 : tab.lv 10 7 = some 562949953421329 := tab_lv (by kernel_rfl)
theorem lv10_8 : tab.lv 10 8 = some 4 := tab_lv (by kernel_rfl)
theorem lv10_9 : tab.lv 10 9 = some 2048 := tab_lv (by kernel_rfl)
theorem lv10_10 : tab.lv 10 10 = some 4 := tab_lv (by kernel_rfl)
theorem lv11_0 : tab.lv 11 0 = some 225 := tab_lv (by kernel_rfl)
theorem lv11_1 : tab.lv 11 1 = some 225 := tab_lv (by kernel_rfl)
theorem lv11_2 : tab.lv 11 2 = some 3584 := tab_lv (by kernel_rfl)
theorem lv11_3 : tab.lv 11 3 = some 15872 := tab_lv (by kernel_rfl)
theorem lv11_4 : tab.lv 11 4 = some 65024 := tab_lv (by kernel_rfl)
theorem lv11_5 : tab.lv 11 5 = some 261632 := tab_lv (by kernel_rfl)
theorem lv11_6 : tab.lv 11 6 = some 1046016 := tab_lv (by kernel_rfl)
theorem lv11_7 : tab.lv 11 7 = some 4191744 := tab_lv (by kernel_rfl)
theorem lv11_8 : tab.lv 11 8 = some 633825300114114700748351934464 := tab_lv (by kernel_rfl)
theorem lv11_9 : tab.lv 11 9 = some 256 := tab_lv (by kernel_rfl)
theorem lv11_10 : tab.lv 11 10 = some 256 := tab_lv (by kernel_rfl)
theorem lv12_0 : tab.lv 12 0 = some 1 := tab_lv (by kernel_rfl)
theorem lv12_1 : tab.lv 12 1 = some 25 := tab_lv (by kernel_rfl)
theorem lv12_2 : tab.lv 12 2 = some 12313 := tab_lv (by kernel_rfl)
theorem lv12_3 : tab.lv 12 3 = some 28697 := tab_lv (by kernel_rfl)
theorem lv12_4 : tab.lv 12 4 = some 12345 := tab_lv (by kernel_rfl)
theorem lv12_5 : tab.lv 12 5 = some 576460752303435801 := tab_lv (by kernel_rfl)
theorem lv12_6 : tab.lv 12 6 = some 4 := tab_lv (by kernel_rfl)
theorem lv12_7 : tab.lv 12 7 = some 12313 := tab_lv (by kernel_rfl)
theorem lv12_8 : tab.lv 12 8 = some 4 := tab_lv (by kernel_rfl)
theorem lv13_0 : tab.lv 13 0 = some 7 := tab_lv (by kernel_rfl)
theorem lv13_1 : tab.lv 13 1 = some 134 := tab_lv (by kernel_rfl)
theorem lv13_2 : tab.lv 13 2 = some 388 := tab_lv (by kernel_rfl)
theorem lv13_3 : tab.lv 13 3 = some 33554820 := tab_lv (by kernel_rfl)
theorem lv13_4 : tab.lv 13 4 = some 64 := tab_lv (by kernel_rfl)
theorem lv13_5 : tab.lv 13 5 = some 268435844 := tab_lv (by kernel_rfl)
theorem lv13_6 : tab.lv 13 6 = some 64 := tab_lv (by kernel_rfl)
theorem lv13_7 : tab.lv 13 7 = some 64 := tab_lv (by kernel_rfl)
theorem lv14_0 : tab.lv 14 0 = some 1 := tab_lv (by kernel_rfl)
theorem lv14_1 : tab.lv 14 1 = some 41 := tab_lv (by kernel_rfl)
theorem lv14_2 : tab.lv 14 2 = some 361 := tab_lv (by kernel_rfl)
theorem lv14_3 : tab.lv 14 3 = some 8589934633 := tab_lv (by kernel_rfl)
theorem lv14_4 : tab.lv 14 4 = some 4 := tab_lv (by kernel_rfl)
theorem lv14_5 : tab.lv 14 5 = some 68719476777 := tab_lv (by kernel_rfl)
theorem lv14_6 : tab.lv 14 6 = some 4 := tab_lv (by kernel_rfl)
theorem lv14_7 : tab.lv 14 7 = some 4 := tab_lv (by kernel_rfl)
theorem lv15_0 : tab.lv 15 0 = some 5 := tab_lv (by kernel_rfl)
theorem lv15_1 : tab.lv 15 1 = some 12 := tab_lv (by kernel_rfl)
theorem lv15_2 : tab.lv 15 2 = some 28 := tab_lv (by kernel_rfl)
theorem lv15_3 : tab.lv 15 3 = some 60 := tab_lv (by kernel_rfl)
theorem lv15_4 : tab.lv 15 4 = some 100663356 := tab_lv (by kernel_rfl)
theorem lv15_5 : tab.lv 15 5 = some 234881084 := tab_lv (by kernel_rfl)
theorem lv15_6 : tab.lv 15 6 = some 100663420 := tab_lv (by kernel_rfl)
theorem lv15_7 : tab.lv 15 7 = some 100663548 := tab_lv (by kernel_rfl)
theorem lv15_8 : tab.lv 15 8 = some 100663740 := tab_lv (by kernel_rfl)
theorem lv15_9 : tab.lv 15 9 = some 35184472752572 := tab_lv (by kernel_rfl)
theorem lv15_10 : tab.lv 15 10 = some 105553216930236 := tab_lv (by kernel_rfl)
theorem lv15_11 : tab.lv 15 11 = some 100663612 := tab_lv (by kernel_rfl)
theorem lv15_12 : tab.lv 15 12 = some 36028797119627708 := tab_lv (by kernel_rfl)
theorem lv15_13 : tab.lv 15 13 = some 100663612 := tab_lv (by kernel_rfl)
theorem lv15_14 : tab.lv 15 14 = some 100663356 := tab_lv (by kernel_rfl)
theorem lv15_15 : tab.lv 15 15 = some 100663356 := tab_lv (by kernel_rfl)
theorem lv15_16 : tab.lv 15 16 = some 572 := tab_lv (by kernel_rfl)
theorem lv15_17 : tab.lv 15 17 = some 453347182355485940515388 := tab_lv (by kernel_rfl)
theorem lv15_18 : tab.lv 15 18 = some 1057810092162800527868476 := tab_lv (by kernel_rfl)
theorem lv15_19 : tab.lv 15 19 = some 453347182355485940516412 := tab_lv (by kernel_rfl)
theorem lv15_20 : tab.lv 15 20 = some 453347182355485940518460 := tab_lv (by kernel_rfl)
theorem lv15_21 : tab.lv 15 21 = some 453347182355485940522556 := tab_lv (by kernel_rfl)
theorem lv15_22 : tab.lv 15 22 = some 17331613897177679334528261692 := tab_lv (by kernel_rfl)
theorem lv15_23 : tab.lv 15 23 = some 37138654525743763732914249276 := tab_lv (by kernel_rfl)
theorem lv15_24 : tab.lv 15 24 = some 17331613897177679334528286268 := tab_lv (by kernel_rfl)
theorem lv15_25 : tab.lv 15 25 = some 10158536415723012891308153921084 := tab_lv (by kernel_rfl)
theorem lv15_26 : tab.lv 15 26 = some 17331613897177679334528261692 := tab_lv (by kernel_rfl)
theorem lv15_27 : tab.lv 15 27 = some 17331613897177679334528261692 := tab_lv (by kernel_rfl)
theorem lv15_28 : tab.lv 15 28 = some 41538374868731968210599456574280252 := tab_lv (by kernel_rfl)
theorem lv15_29 : tab.lv 15 29 = some 453347182355485940519484 := tab_lv (by kernel_rfl)
theorem lv15_30 : tab.lv 15 30 = some 453347182355485940515388 := tab_lv (by kernel_rfl)
theorem lv15_31 : tab.lv 15 31 = some 453347182355485940515388 := tab_lv (by kernel_rfl)
theorem lv15_32 : tab.lv 15 32 = some 2722258935367507707706996859454145691668 := tab_lv (by kernel_rfl)
theorem lv15_33 : tab.lv 15 33 = some 20 := tab_lv (by kernel_rfl)
theorem lv15_34 : tab.lv 15 34 = some 4 := tab_lv (by kernel_rfl)
theorem lv16_0 : tab.lv 16 0 = some 9 := tab_lv (by kernel_rfl)
theorem lv16_1 : tab.lv 16 1 = some 64 := tab_lv (by kernel_rfl)
theorem lv16_2 : tab.lv 16 2 = some 2112 := tab_lv (by kernel_rfl)
theorem lv16_3 : tab.lv 16 3 = some 48 := tab_lv (by kernel_rfl)
theorem lv16_4 : tab.lv 16 4 = some 48 := tab_lv (by kernel_rfl)
theorem lv17_0 : tab.lv 17 0 = some 1 := tab_lv (by kernel_rfl)
theorem lv17_1 : tab.lv 17 1 = some 3 := tab_lv (by kernel_rfl)
theorem lv17_2 : tab.lv 17 2 = some 1 := tab_lv (by kernel_rfl)
theorem lv18_0 : tab.lv 18 0 = some 1 := tab_lv (by kernel_rfl)
theorem lv18_1 : tab.lv 18 1 = some 4 := tab_lv (by kernel_rfl)
theorem lv19_0 : tab.lv 19 0 = some 3 := tab_lv (by kernel_rfl)
theorem lv19_1 : tab.lv 19 1 = some 48 := tab_lv (by kernel_rfl)
theorem lv20_0 : tab.lv 20 0 = some 3 := tab_lv (by kernel_rfl)
theorem lv20_1 : tab.lv 20 1 = some 48 := tab_lv (by kernel_rfl)
theorem lv21_0 : tab.lv 21 0 = some 71 := tab_lv (by kernel_rfl)
theorem lv21_1 : tab.lv 21 1 = some 197 := tab_lv (by kernel_rfl)
theorem lv21_2 : tab.lv 21 2 = some 64 := tab_lv (by kernel_rfl)
theorem lv22_0 : tab.lv 22 0 = some 6 := tab_lv (by kernel_rfl)
theorem lv22_1 : tab.lv 22 1 = some 70 := tab_lv (by kernel_rfl)
theorem lv22_2 : tab.lv 22 2 = some 1094 := tab_lv (by kernel_rfl)
theorem lv22_3 : tab.lv 22 3 = some 48 := tab_lv (by kernel_rfl)
theorem lv22_4 : tab.lv 22 4 = some 524294 := tab_lv (by kernel_rfl)
theorem lv22_5 : tab.lv 22 5 = some 48 := tab_lv (by kernel_rfl)
theorem lv22_6 : tab.lv 22 6 = some 48 := tab_lv (by kernel_rfl)
theorem lv23_0 : tab.lv 23 0 = some 2 := tab_lv (by kernel_rfl)
theorem lv23_1 : tab.lv 23 1 = some 18 := tab_lv (by kernel_rfl)
theorem lv23_2 : tab.lv 23 2 = some 4114 := tab_lv (by kernel_rfl)
theorem lv23_3 : tab.lv 23 3 = some 12 := tab_lv (by kernel_rfl)
theorem lv23_4 : tab.lv 23 4 = some 34 := tab_lv (by kernel_rfl)
theorem lv23_5 : tab.lv 23 5 = some 98338 := tab_lv (by kernel_rfl)
theorem lv23_6 : tab.lv 23 6 = some 229410 := tab_lv (by kernel_rfl)
theorem lv23_7 : tab.lv 23 7 = some 98402 := tab_lv (by kernel_rfl)
theorem lv23_8 : tab.lv 23 8 = some 98466 := tab_lv (by kernel_rfl)
theorem lv23_9 : tab.lv 23 9 = some 98338 := tab_lv (by kernel_rfl)
theorem lv23_10 : tab.lv 23 10 = some 98338 := tab_lv (by kernel_rfl)
theorem lv23_11 : tab.lv 23 11 = some 12 := tab_lv (by kernel_rfl)
theorem lv24_0 : tab.lv 24 0 = some 3 := tab_lv (by kernel_rfl)
theorem lv24_1 : tab.lv 24 1 = some 48 := tab_lv (by kernel_rfl)
theorem lv25_0 : tab.lv 25 0 = some 3 := tab_lv (by kernel_rfl)
theorem lv25_1 : tab.lv 25 1 = some 4099 := tab_lv (by kernel_rfl)
theorem lv25_2 : tab.lv 25 2 = some 48 := tab_lv (by kernel_rfl)
theorem lv25_3 : tab.lv 25 3 = some 48 := tab_lv (by kernel_rfl)
theorem lv26_0 : tab.lv 26 0 = some 3 := tab_lv (by kernel_rfl)
theorem lv26_1 : tab.lv 26 1 = some 4099 := tab_lv (by kernel_rfl)
theorem lv26_2 : tab.lv 26 2 = some 48 := tab_lv (by kernel_rfl)
theorem lv26_3 : tab.lv 26 3 = some 48 := tab_lv (by kernel_rfl)
theorem lv27_0 : tab.lv 27 0 = some 25 := tab_lv (by kernel_rfl)
theorem lv27_1 : tab.lv 27 1 = some 56 := tab_lv (by kernel_rfl)
theorem lv27_2 : tab.lv 27 2 = some 120 := tab_lv (by kernel_rfl)
theorem lv27_3 : tab.lv 27 3 = some 2072 := tab_lv (by kernel_rfl)
theorem lv27_4 : tab.lv 27 4 = some 16 := tab_lv (by kernel_rfl)
theorem lv27_5 : tab.lv 27 5 = some 16 := tab_lv (by kernel_rfl)
theorem lv27_6 : tab.lv 27 6 = some 4194328 := tab_lv (by kernel_rfl)
theorem lv27_7 : tab.lv 27 7 = some 16 := tab_lv (by kernel_rfl)
theorem lv27_8 : tab.lv 27 8 = some 16 := tab_lv (by kernel_rfl)
theorem lv28_0 : tab.lv 28 0 = some 3 := tab_lv (by kernel_rfl)
theorem lv28_1 : tab.lv 28 1 = some 67 := tab_lv (by kernel_rfl)
theorem lv28_2 : tab.lv 28 2 = some 3 := tab_lv (by kernel_rfl)
theorem lv28_3 : tab.lv 28 3 = some 16 := tab_lv (by kernel_rfl)
theorem lv29_0 : tab.lv 29 0 = some 35 := tab_lv (by kernel_rfl)
theorem lv29_1 : tab.lv 29 1 = some 417 := tab_lv (by kernel_rfl)
theorem lv29_2 : tab.lv 29 2 = some 33185 := tab_lv (by kernel_rfl)
theorem lv29_3 : tab.lv 29 3 = some 64 := tab_lv (by kernel_rfl)
theorem lv29_4 : tab.lv 29 4 = some 524449 := tab_lv (by kernel_rfl)
theorem lv29_5 : tab.lv 29 5 = some 64 := tab_lv (by kernel_rfl)
theorem lv29_6 : tab.lv 29 6 = some 67108864 := tab_lv (by kernel_rfl)
theorem lv29_7 : tab.lv 29 7 = some 64 := tab_lv (by kernel_rfl)
theorem lv29_8 : tab.lv 29 8 = some 64 := tab_lv (by kernel_rfl)
theorem lv30_0 : tab.lv 30 0 = some 1 := tab_lv (by kernel_rfl)
theorem lv30_1 : tab.lv 30 1 = some 2049 := tab_lv (by kernel_rfl)
theorem lv30_2 : tab.lv 30 2 = some 28 := tab_lv (by kernel_rfl)
theorem lv30_3 : tab.lv 30 3 = some 33 := tab_lv (by kernel_rfl)
theorem lv30_4 : tab.lv 30 4 = some 97 := tab_lv (by kernel_rfl)
theorem lv30_5 : tab.lv 30 5 = some 32865 := tab_lv (by kernel_rfl)
theorem lv30_6 : tab.lv 30 6 = some 524385 := tab_lv (by kernel_rfl)
theorem lv30_7 : tab.lv 30 7 = some 97 := tab_lv (by kernel_rfl)
theorem lv30_8 : tab.lv 30 8 = some 481 := tab_lv (by kernel_rfl)
theorem lv30_9 : tab.lv 30 9 = some 1073742305 := tab_lv (by kernel_rfl)
theorem lv30_10 : tab.lv 30 10 = some 28 := tab_lv (by kernel_rfl)
theorem lv30_11 : tab.lv 30 11 = some 225 := tab_lv (by kernel_rfl)
theorem lv30_12 : tab.lv 30 12 = some 225 := tab_lv (by kernel_rfl)
theorem lv30_13 : tab.lv 30 13 = some 97 := tab_lv (by kernel_rfl)
theorem lv30_14 : tab.lv 30 14 = some 28 := tab_lv (by kernel_rfl)
theorem lv31_0 : tab.lv 31 0 = some 12 := tab_lv (by kernel_rfl)
theorem lv31_1 : tab.lv 31 1 = some 1048588 := tab_lv (by kernel_rfl)
theorem lv31_2 : tab.lv 31 2 = some 48 := tab_lv (by kernel_rfl)
theorem lv31_3 : tab.lv 31 3 = some 48 := tab_lv (by kernel_rfl)
theorem lv32_0 : tab.lv 32 0 = some 1 := tab_lv (by kernel_rfl)
theorem lv32_1 : tab.lv 32 1 = some 17 := tab_lv (by kernel_rfl)
theorem lv32_2 : tab.lv 32 2 = some 14352 := tab_lv (by kernel_rfl)
theorem lv32_3 : tab.lv 32 3 = some 30736 := tab_lv (by kernel_rfl)
theorem lv32_4 : tab.lv 32 4 = some 14448 := tab_lv (by kernel_rfl)
theorem lv32_5 : tab.lv 32 5 = some 538736 := tab_lv (by kernel_rfl)
theorem lv32_6 : tab.lv 32 6 = some 14752 := tab_lv (by kernel_rfl)
theorem lv32_7 : tab.lv 32 7 = some 549755828352 := tab_lv (by kernel_rfl)
theorem lv32_8 : tab.lv 32 8 = some 12 := tab_lv (by kernel_rfl)
theorem lv32_9 : tab.lv 32 9 = some 14352 := tab_lv (by kernel_rfl)
theorem lv32_10 : tab.lv 32 10 = some 14352 := tab_lv (by kernel_rfl)
theorem lv32_11 : tab.lv 32 11 = some 1552 := tab_lv (by kernel_rfl)
theorem lv32_12 : tab.lv 32 12 = some 12 := tab_lv (by kernel_rfl)
theorem lv33_0 : tab.lv 33 0 = some 1 := tab_lv (by kernel_rfl)
theorem lv33_1 : tab.lv 33 1 = some 129 := tab_lv (by kernel_rfl)
theorem lv33_2 : tab.lv 33 2 = some 4 := tab_lv (by kernel_rfl)
theorem lv33_3 : tab.lv 33 3 = some 1793 := tab_lv (by kernel_rfl)
theorem lv33_4 : tab.lv 33 4 = some 3841 := tab_lv (by kernel_rfl)
theorem lv33_5 : tab.lv 33 5 = some 1817 := tab_lv (by kernel_rfl)
theorem lv33_6 : tab.lv 33 6 = some 34585 := tab_lv (by kernel_rfl)
theorem lv33_7 : tab.lv 33 7 = some 4 := tab_lv (by kernel_rfl)
theorem lv33_8 : tab.lv 33 8 = some 536872729 := tab_lv (by kernel_rfl)
theorem lv33_9 : tab.lv 33 9 = some 4 := tab_lv (by kernel_rfl)
theorem lv33_10 : tab.lv 33 10 = some 137438955265 := tab_lv (by kernel_rfl)
theorem lv33_11 : tab.lv 33 11 = some 4 := tab_lv (by kernel_rfl)
theorem lv33_12 : tab.lv 33 12 = some 1793 := tab_lv (by kernel_rfl)
theorem lv33_13 : tab.lv 33 13 = some 4 := tab_lv (by kernel_rfl)
theorem lv34_0 : tab.lv 34 0 = some 6 := tab_lv (by kernel_rfl)
theorem lv34_1 : tab.lv 34 1 = some 36 := tab_lv (by kernel_rfl)
theorem lv34_2 : tab.lv 34 2 = some 100 := tab_lv (by kernel_rfl)
theorem lv34_3 : tab.lv 34 3 = some 114784 := tab_lv (by kernel_rfl)
theorem lv34_4 : tab.lv 34 4 = some 245856 := tab_lv (by kernel_rfl)
theorem lv34_5 : tab.lv 34 5 = some 115040 := tab_lv (by kernel_rfl)
theorem lv34_6 : tab.lv 34 6 = some 115552 := tab_lv (by kernel_rfl)
theorem lv34_7 : tab.lv 34 7 = some 1073857376 := tab_lv (by kernel_rfl)
theorem lv34_8 : tab.lv 34 8 = some 114784 := tab_lv (by kernel_rfl)
theorem lv34_9 : tab.lv 34 9 = some 114784 := tab_lv (by kernel_rfl)
theorem lv34_10 : tab.lv 34 10 = some 16 := tab_lv (by kernel_rfl)
theorem lv35_0 : tab.lv 35 0 = some 6 := tab_lv (by kernel_rfl)
theorem lv35_1 : tab.lv 35 1 = some 1798 := tab_lv (by kernel_rfl)
theorem lv35_2 : tab.lv 35 2 = some 3846 := tab_lv (by kernel_rfl)
theorem lv35_3 : tab.lv 35 3 = some 1894 := tab_lv (by kernel_rfl)
theorem lv35_4 : tab.lv 35 4 = some 2022 := tab_lv (by kernel_rfl)
theorem lv35_5 : tab.lv 35 5 = some 8390630 := tab_lv (by kernel_rfl)
theorem lv35_6 : tab.lv 35 6 = some 16 := tab_lv (by kernel_rfl)
theorem lv35_7 : tab.lv 35 7 = some 268437350 := tab_lv (by kernel_rfl)
theorem lv35_8 : tab.lv 35 8 = some 16 := tab_lv (by kernel_rfl)
theorem lv35_9 : tab.lv 35 9 = some 8589936390 := tab_lv (by kernel_rfl)
theorem lv35_10 : tab.lv 35 10 = some 16 := tab_lv (by kernel_rfl)
theorem lv35_11 : tab.lv 35 11 = some 1798 := tab_lv (by kernel_rfl)
theorem lv35_12 : tab.lv 35 12 = some 16 := tab_lv (by kernel_rfl)
theorem lv36_0 : tab.lv 36 0 = some 1 := tab_lv (by kernel_rfl)
theorem lv36_1 : tab.lv 36 1 = some 1025 := tab_lv (by kernel_rfl)
theorem lv36_2 : tab.lv 36 2 = some 4 := tab_lv (by kernel_rfl)
theorem lv36_3 : tab.lv 36 3 = some 33554432 := tab_lv (by kernel_rfl)
theorem lv36_4 : tab.lv 36 4 = some 4 := tab_lv (by kernel_rfl)
theorem lv36_5 : tab.lv 36 5 = some 4 := tab_lv (by kernel_rfl)
theorem lv37_0 : tab.lv 37 0 = some 1 := tab_lv (by kernel_rfl)
theorem lv37_1 : tab.lv 37 1 = some 8 := tab_lv (by kernel_rfl)
theorem lv37_2 : tab.lv 37 2 = some 24 := tab_lv (by kernel_rfl)
theorem lv37_3 : tab.lv 37 3 = some 24 := tab_lv (by kernel_rfl)
theorem lv37_4 : tab.lv 37 4 = some 24 := tab_lv (by kernel_rfl)
theorem lv37_5 : tab.lv 37 5 = some 24 := tab_lv (by kernel_rfl)
theorem lv37_6 : tab.lv 37 6 = some 24 := tab_lv (by kernel_rfl)
theorem lv37_7 : tab.lv 37 7 = some 24 := tab_lv (by kernel_rfl)
theorem lv37_8 : tab.lv 37 8 = some 16 := tab_lv (by kernel_rfl)
theorem lv37_9 : tab.lv 37 9 = some 4 := tab_lv (by kernel_rfl)
theorem lv37_10 : tab.lv 37 10 = some 4 := tab_lv (by kernel_rfl)
theorem lv38_0 : tab.lv 38 0 = some 5 := tab_lv (by kernel_rfl)
theorem lv38_1 : tab.lv 38 1 = some 517 := tab_lv (by kernel_rfl)
theorem lv38_2 : tab.lv 38 2 = some 4 := tab_lv (by kernel_rfl)
theorem lv38_3 : tab.lv 38 3 = some 13 := tab_lv (by kernel_rfl)
theorem lv38_4 : tab.lv 38 4 = some 13 := tab_lv (by kernel_rfl)
theorem lv38_5 : tab.lv 38 5 = some 12 := tab_lv (by kernel_rfl)
theorem lv38_6 : tab.lv 38 6 = some 4 := tab_lv (by kernel_rfl)
theorem lv39_0 : tab.lv 39 0 = some 0 := tab_lv (by kernel_rfl)
theorem lv39_1 : tab.lv 39 1 = some 1 := tab_lv (by kernel_rfl)
theorem lv40_0 : tab.lv 40 0 = some 466 := tab_lv (by kernel_rfl)
theorem lv40_1 : tab.lv 40 1 = some 978 := tab_lv (by kernel_rfl)
theorem lv40_2 : tab.lv 40 2 = some 8389586 := tab_lv (by kernel_rfl)
theorem lv40_3 : tab.lv 40 3 = some 256 := tab_lv (by kernel_rfl)
theorem lv40_4 : tab.lv 40 4 = some 1794 := tab_lv (by kernel_rfl)
theorem lv40_5 : tab.lv 40 5 = some 4294969090 := tab_lv (by kernel_rfl)
theorem lv40_6 : tab.lv 40 6 = some 256 := tab_lv (by kernel_rfl)
theorem lv40_7 : tab.lv 40 7 = some 274877908736 := tab_lv (by kernel_rfl)
theorem lv40_8 : tab.lv 40 8 = some 824633722624 := tab_lv (by kernel_rfl)
theorem lv40_9 : tab.lv 40 9 = some 3328 := tab_lv (by kernel_rfl)
theorem lv40_10 : tab.lv 40 10 = some 17592186047744 := tab_lv (by kernel_rfl)
theorem lv40_11 : tab.lv 40 11 = some 256 := tab_lv (by kernel_rfl)
theorem lv40_12 : tab.lv 40 12 = some 9024791440788736 := tab_lv (by kernel_rfl)
theorem lv40_13 : tab.lv 40 13 = some 256 := tab_lv (by kernel_rfl)
theorem lv40_14 : tab.lv 40 14 = some 288230376151715072 := tab_lv (by kernel_rfl)
theorem lv40_15 : tab.lv 40 15 = some 256 := tab_lv (by kernel_rfl)
theorem lv40_16 : tab.lv 40 16 = some 9223372036854777600 := tab_lv (by kernel_rfl)
theorem lv40_17 : tab.lv 40 17 = some 5888 := tab_lv (by kernel_rfl)
theorem lv40_18 : tab.lv 40 18 = some 13568 := tab_lv (by kernel_rfl)
theorem lv40_19 : tab.lv 40 19 = some 256 := tab_lv (by kernel_rfl)
theorem lv40_20 : tab.lv 40 20 = some 1208925819614629174712064 := tab_lv (by kernel_rfl)
theorem lv40_21 : tab.lv 40 21 = some 256 := tab_lv (by kernel_rfl)
theorem lv40_22 : tab.lv 40 22 = some 77371252455336267181201152 := tab_lv (by kernel_rfl)
theorem lv40_23 : tab.lv 40 23 = some 256 := tab_lv (by kernel_rfl)
theorem lv40_24 : tab.lv 40 24 = some 256 := tab_lv (by kernel_rfl)
theorem lv41_0 : tab.lv 41 0 = some 13 := tab_lv (by kernel_rfl)
theorem lv41_1 : tab.lv 41 1 = some 525 := tab_lv (by kernel_rfl)
theorem lv41_2 : tab.lv 41 2 = some 13 := tab_lv (by kernel_rfl)
theorem lv41_3 : tab.lv 41 3 = some 13 := tab_lv (by kernel_rfl)
theorem lv42_0 : tab.lv 42 0 = some 3 := tab_lv (by kernel_rfl)
theorem lv42_1 : tab.lv 42 1 = some 387 := tab_lv (by kernel_rfl)
theorem lv42_2 : tab.lv 42 2 = some 899 := tab_lv (by kernel_rfl)
theorem lv42_3 : tab.lv 42 3 = some 419 := tab_lv (by kernel_rfl)
theorem lv42_4 : tab.lv 42 4 = some 65955 := tab_lv (by kernel_rfl)
theorem lv42_5 : tab.lv 42 5 = some 16 := tab_lv (by kernel_rfl)
theorem lv42_6 : tab.lv 42 6 = some 387 := tab_lv (by kernel_rfl)
theorem lv42_7 : tab.lv 42 7 = some 16 := tab_lv (by kernel_rfl)
theorem lv43_0 : tab.lv 43 0 = some 6 := tab_lv (by kernel_rfl)
theorem lv43_1 : tab.lv 43 1 = some 8 := tab_lv (by kernel_rfl)
theorem lv44_0 : tab.lv 44 0 = some 7 := tab_lv (by kernel_rfl)
theorem lv44_1 : tab.lv 44 1 = some 131079 := tab_lv (by kernel_rfl)
theorem lv44_2 : tab.lv 44 2 = some 192 := tab_lv (by kernel_rfl)
theorem lv44_3 : tab.lv 44 3 = some 256 := tab_lv (by kernel_rfl)
theorem lv44_4 : tab.lv 44 4 = some 768 := tab_lv (by kernel_rfl)
theorem lv44_5 : tab.lv 44 5 = some 33555200 := tab_lv (by kernel_rfl)
theorem lv44_6 : tab.lv 44 6 = some 192 := tab_lv (by kernel_rfl)
theorem lv44_7 : tab.lv 44 7 = some 192 := tab_lv (by kernel_rfl)
theorem lv45_0 : tab.lv 45 0 = some 3 := tab_lv (by kernel_rfl)
theorem lv45_1 : tab.lv 45 1 = some 16 := tab_lv (by kernel_rfl)
theorem lv46_0 : tab.lv 46 0 = some 3 := tab_lv (by kernel_rfl)
theorem lv46_1 : tab.lv 46 1 = some 16 := tab_lv (by kernel_rfl)
theorem lv47_0 : tab.lv 47 0 = some 2 := tab_lv (by kernel_rfl)
theorem lv47_1 : tab.lv 47 1 = some 4294967296 := tab_lv (by kernel_rfl)
theorem lv47_2 : tab.lv 47 2 = some 4 := tab_lv (by kernel_rfl)
theorem lv47_3 : tab.lv 47 3 = some 4 := tab_lv (by kernel_rfl)
theorem lv48_0 : tab.lv 48 0 = some 3 := tab_lv (by kernel_rfl)
theorem lv48_1 : tab.lv 48 1 = some 274877906947 := tab_lv (by kernel_rfl)
theorem lv48_2 : tab.lv 48 2 = some 16 := tab_lv (by kernel_rfl)
theorem lv48_3 : tab.lv 48 3 = some 16 := tab_lv (by kernel_rfl)
theorem lv49_0 : tab.lv 49 0 = some 1 := tab_lv (by kernel_rfl)
theorem lv49_1 : tab.lv 49 1 = some 256 := tab_lv (by kernel_rfl)
theorem lv49_2 : tab.lv 49 2 = some 4 := tab_lv (by kernel_rfl)
theorem lv49_3 : tab.lv 49 3 = some 4 := tab_lv (by kernel_rfl)
theorem lv50_0 : tab.lv 50 0 = some 3 := tab_lv (by kernel_rfl)
theorem lv50_1 : tab.lv 50 1 = some 32 := tab_lv (by kernel_rfl)
theorem lv50_2 : tab.lv 50 2 = some 16 := tab_lv (by kernel_rfl)
theorem lv51_0 : tab.lv 51 0 = some 3 := tab_lv (by kernel_rfl)
theorem lv51_1 : tab.lv 51 1 = some 194 := tab_lv (by kernel_rfl)
theorem lv51_2 : tab.lv 51 2 = some 4194498 := tab_lv (by kernel_rfl)
theorem lv51_3 : tab.lv 51 3 = some 48 := tab_lv (by kernel_rfl)
theorem lv51_4 : tab.lv 51 4 = some 48 := tab_lv (by kernel_rfl)
theorem lv52_0 : tab.lv 52 0 = some 3 := tab_lv (by kernel_rfl)
theorem lv52_1 : tab.lv 52 1 = some 64 := tab_lv (by kernel_rfl)
theorem lv52_2 : tab.lv 52 2 = some 16 := tab_lv (by kernel_rfl)
theorem lv53_0 : tab.lv 53 0 = some 3 := tab_lv (by kernel_rfl)
theorem lv53_1 : tab.lv 53 1 = some 32 := tab_lv (by kernel_rfl)
theorem lv53_2 : tab.lv 53 2 = some 229408 := tab_lv (by kernel_rfl)
theorem lv53_3 : tab.lv 53 3 = some 491552 := tab_lv (by kernel_rfl)
theorem lv53_4 : tab.lv 53 4 = some 229600 := tab_lv (by kernel_rfl)
theorem lv53_5 : tab.lv 53 5 = some 229408 := tab_lv (by kernel_rfl)
theorem lv53_6 : tab.lv 53 6 = some 229408 := tab_lv (by kernel_rfl)
theorem lv53_7 : tab.lv 53 7 = some 16 := tab_lv (by kernel_rfl)
theorem lv54_0 : tab.lv 54 0 = some 2 := tab_lv (by kernel_rfl)
theorem lv54_1 : tab.lv 54 1 = some 4 := tab_lv (by kernel_rfl)
theorem lv55_0 : tab.lv 55 0 = some 5 := tab_lv (by kernel_rfl)
theorem lv55_1 : tab.lv 55 1 = some 21 := tab_lv (by kernel_rfl)
theorem lv55_2 : tab.lv 55 2 = some 1045 := tab_lv (by kernel_rfl)
theorem lv55_3 : tab.lv 55 3 = some 12 := tab_lv (by kernel_rfl)
theorem lv55_4 : tab.lv 55 4 = some 131093 := tab_lv (by kernel_rfl)
theorem lv55_5 : tab.lv 55 5 = some 37 := tab_lv (by kernel_rfl)
theorem lv55_6 : tab.lv 55 6 = some 8388645 := tab_lv (by kernel_rfl)
theorem lv55_7 : tab.lv 55 7 = some 12 := tab_lv (by kernel_rfl)
theorem lv55_8 : tab.lv 55 8 = some 12 := tab_lv (by kernel_rfl)
theorem lv55_9 : tab.lv 55 9 = some 536870917 := tab_lv (by kernel_rfl)
theorem lv55_10 : tab.lv 55 10 = some 12 := tab_lv (by kernel_rfl)
theorem lv55_11 : tab.lv 55 11 = some 206158430213 := tab_lv (by kernel_rfl)
theorem lv55_12 : tab.lv 55 12 = some 481036337157 := tab_lv (by kernel_rfl)
theorem lv55_13 : tab.lv 55 13 = some 206158430341 := tab_lv (by kernel_rfl)
theorem lv55_14 : tab.lv 55 14 = some 4604204941445 := tab_lv (by kernel_rfl)
theorem lv55_15 : tab.lv 55 15 = some 12 := tab_lv (by kernel_rfl)
theorem lv55_16 : tab.lv 55 16 = some 206158430213 := tab_lv (by kernel_rfl)
theorem lv55_17 : tab.lv 55 17 = some 12 := tab_lv (by kernel_rfl)
theorem lv56_0 : tab.lv 56 0 = some 1 := tab_lv (by kernel_rfl)
theorem lv56_1 : tab.lv 56 1 = some 9 := tab_lv (by kernel_rfl)
theorem lv56_2 : tab.lv 56 2 = some 456 := tab_lv (by kernel_rfl)
theorem lv56_3 : tab.lv 56 3 = some 968 := tab_lv (by kernel_rfl)
theorem lv56_4 : tab.lv 56 4 = some 488 := tab_lv (by kernel_rfl)
theorem lv56_5 : tab.lv 56 5 = some 16872 := tab_lv (by kernel_rfl)
theorem lv56_6 : tab.lv 56 6 = some 4 := tab_lv (by kernel_rfl)
theorem lv56_7 : tab.lv 56 7 = some 456 := tab_lv (by kernel_rfl)
theorem lv56_8 : tab.lv 56 8 = some 4 := tab_lv (by kernel_rfl)
theorem lv57_0 : tab.lv 57 0 = some 3 := tab_lv (by kernel_rfl)
theorem lv57_1 : tab.lv 57 1 = some 35 := tab_lv (by kernel_rfl)
theorem lv57_2 : tab.lv 57 2 = some 99 := tab_lv (by kernel_rfl)
theorem lv57_3 : tab.lv 57 3 = some 2115 := tab_lv (by kernel_rfl)
theorem lv57_4 : tab.lv 57 4 = some 4096 := tab_lv (by kernel_rfl)
theorem lv57_5 : tab.lv 57 5 = some 16 := tab_lv (by kernel_rfl)
theorem lv57_6 : tab.lv 57 6 = some 16 := tab_lv (by kernel_rfl)
theorem lv57_7 : tab.lv 57 7 = some 8195 := tab_lv (by kernel_rfl)
theorem lv57_8 : tab.lv 57 8 = some 16 := tab_lv (by kernel_rfl)
theorem lv57_9 : tab.lv 57 9 = some 65539 := tab_lv (by kernel_rfl)
theorem lv57_10 : tab.lv 57 10 = some 16 := tab_lv (by kernel_rfl)
theorem lv57_11 : tab.lv 57 11 = some 524288 := tab_lv (by kernel_rfl)
theorem lv57_12 : tab.lv 57 12 = some 16 := tab_lv (by kernel_rfl)
theorem lv57_13 : tab.lv 57 13 = some 16 := tab_lv (by kernel_rfl)
theorem lv58_0 : tab.lv 58 0 = some 3 := tab_lv (by kernel_rfl)
theorem lv58_1 : tab.lv 58 1 = some 35 := tab_lv (by kernel_rfl)
theorem lv58_2 : tab.lv 58 2 = some 99 := tab_lv (by kernel_rfl)
theorem lv58_3 : tab.lv 58 3 = some 2115 := tab_lv (by kernel_rfl)
theorem lv58_4 : tab.lv 58 4 = some 4096 := tab_lv (by kernel_rfl)
theorem lv58_5 : tab.lv 58 5 = some 16 := tab_lv (by kernel_rfl)
theorem lv58_6 : tab.lv 58 6 = some 16 := tab_lv (by kernel_rfl)
theorem lv58_7 : tab.lv 58 7 = some 8195 := tab_lv (by kernel_rfl)
theorem lv58_8 : tab.lv 58 8 = some 16 := tab_lv (by kernel_rfl)
theorem lv58_9 : tab.lv 58 9 = some 65539 := tab_lv (by kernel_rfl)
theorem lv58_10 : tab.lv 58 10 = some 16 := tab_lv (by kernel_rfl)
theorem lv58_11 : tab.lv 58 11 = some 524288 := tab_lv (by kernel_rfl)
theorem lv58_12 : tab.lv 58 12 = some 16 := tab_lv (by kernel_rfl)
theorem lv58_13 : tab.lv 58 13 = some 16 := tab_lv (by kernel_rfl)
theorem lv59_0 : tab.lv 59 0 = some 9 := tab_lv (by kernel_rfl)
theorem lv59_1 : tab.lv 59 1 = some 73 := tab_lv (by kernel_rfl)
theorem lv59_2 : tab.lv 59 2 = some 16457 := tab_lv (by kernel_rfl)
theorem lv59_3 : tab.lv 59 3 = some 48 := tab_lv (by kernel_rfl)
theorem lv59_4 : tab.lv 59 4 = some 137 := tab_lv (by kernel_rfl)
theorem lv59_5 : tab.lv 59 5 = some 512 := tab_lv (by kernel_rfl)
theorem lv59_6 : tab.lv 59 6 = some 1536 := tab_lv (by kernel_rfl)
theorem lv59_7 : tab.lv 59 7 = some 68719478272 := tab_lv (by kernel_rfl)
theorem lv59_8 : tab.lv 59 8 = some 48 := tab_lv (by kernel_rfl)
theorem lv59_9 : tab.lv 59 9 = some 48 := tab_lv (by kernel_rfl)
theorem lv60_0 : tab.lv 60 0 = some 9 := tab_lv (by kernel_rfl)
theorem lv60_1 : tab.lv 60 1 = some 16 := tab_lv (by kernel_rfl)
theorem lv61_0 : tab.lv 61 0 = some 12 := tab_lv (by kernel_rfl)
theorem lv61_1 : tab.lv 61 1 = some 16 := tab_lv (by kernel_rfl)
theorem lv62_0 : tab.lv 62 0 = some 3 := tab_lv (by kernel_rfl)
theorem lv62_1 : tab.lv 62 1 = some 16 := tab_lv (by kernel_rfl)
theorem lv63_0 : tab.lv 63 0 = some 6 := tab_lv (by kernel_rfl)
theorem lv63_1 : tab.lv 63 1 = some 8 := tab_lv (by kernel_rfl)
theorem lv64_0 : tab.lv 64 0 = some 1 := tab_lv (by kernel_rfl)
theorem lv64_1 : tab.lv 64 1 = some 4 := tab_lv (by kernel_rfl)
theorem lv65_0 : tab.lv 65 0 = some 3 := tab_lv (by kernel_rfl)
theorem lv65_1 : tab.lv 65 1 = some 35 := tab_lv (by kernel_rfl)
theorem lv65_2 : tab.lv 65 2 = some 65571 := tab_lv (by kernel_rfl)
theorem lv65_3 : tab.lv 65 3 = some 35 := tab_lv (by kernel_rfl)
theorem lv65_4 : tab.lv 65 4 = some 16 := tab_lv (by kernel_rfl)
theorem lv66_0 : tab.lv 66 0 = some 1 := tab_lv (by kernel_rfl)
theorem lv66_1 : tab.lv 66 1 = some 4 := tab_lv (by kernel_rfl)
theorem lv67_0 : tab.lv 67 0 = some 1 := tab_lv (by kernel_rfl)
theorem lv67_1 : tab.lv 67 1 = some 4 := tab_lv (by kernel_rfl)
theorem lv68_0 : tab.lv 68 0 = some 71 := tab_lv (by kernel_rfl)
theorem lv68_1 : tab.lv 68 1 = some 198 := tab_lv (by kernel_rfl)
theorem lv68_2 : tab.lv 68 2 = some 454 := tab_lv (by kernel_rfl)
theorem lv68_3 : tab.lv 68 3 = some 57794 := tab_lv (by kernel_rfl)
theorem lv68_4 : tab.lv 68 4 = some 123330 := tab_lv (by kernel_rfl)
theorem lv68_5 : tab.lv 68 5 = some 58818 := tab_lv (by kernel_rfl)
theorem lv68_6 : tab.lv 68 6 = some 4253122 := tab_lv (by kernel_rfl)
theorem lv68_7 : tab.lv 68 7 = some 57794 := tab_lv (by kernel_rfl)
theorem lv68_8 : tab.lv 68 8 = some 57794 := tab_lv (by kernel_rfl)
theorem lv68_9 : tab.lv 68 9 = some 137438953922 := tab_lv (by kernel_rfl)
theorem lv68_10 : tab.lv 68 10 = some 64 := tab_lv (by kernel_rfl)
theorem lv68_11 : tab.lv 68 11 = some 64 := tab_lv (by kernel_rfl)
theorem lv69_0 : tab.lv 69 0 = some 159 := tab_lv (by kernel_rfl)
theorem lv69_1 : tab.lv 69 1 = some 414 := tab_lv (by kernel_rfl)
theorem lv69_2 : tab.lv 69 2 = some 57756 := tab_lv (by kernel_rfl)
theorem lv69_3 : tab.lv 69 3 = some 123292 := tab_lv (by kernel_rfl)
theorem lv69_4 : tab.lv 69 4 = some 58780 := tab_lv (by kernel_rfl)
theorem lv69_5 : tab.lv 69 5 = some 57756 := tab_lv (by kernel_rfl)
theorem lv69_6 : tab.lv 69 6 = some 57756 := tab_lv (by kernel_rfl)
theorem lv69_7 : tab.lv 69 7 = some 128 := tab_lv (by kernel_rfl)
theorem lv70_0 : tab.lv 70 0 = some 2 := tab_lv (by kernel_rfl)
theorem lv70_1 : tab.lv 70 1 = some 34 := tab_lv (by kernel_rfl)
theorem lv70_2 : tab.lv 70 2 = some 4 := tab_lv (by kernel_rfl)
theorem lv70_3 : tab.lv 70 3 = some 98 := tab_lv (by kernel_rfl)
theorem lv70_4 : tab.lv 70 4 = some 10 := tab_lv (by kernel_rfl)
theorem lv70_5 : tab.lv 70 5 = some 4106 := tab_lv (by kernel_rfl)
theorem lv70_6 : tab.lv 70 6 = some 4 := tab_lv (by kernel_rfl)
theorem lv70_7 : tab.lv 70 7 = some 16418 := tab_lv (by kernel_rfl)
theorem lv70_8 : tab.lv 70 8 = some 8388610 := tab_lv (by kernel_rfl)
theorem lv70_9 : tab.lv 70 9 = some 4 := tab_lv (by kernel_rfl)
theorem lv70_10 : tab.lv 70 10 = some 16777250 := tab_lv (by kernel_rfl)
theorem lv70_11 : tab.lv 70 11 = some 268435458 := tab_lv (by kernel_rfl)
theorem lv70_12 : tab.lv 70 12 = some 4 := tab_lv (by kernel_rfl)
theorem lv70_13 : tab.lv 70 13 = some 4 := tab_lv (by kernel_rfl)
theorem lv70_14 : tab.lv 70 14 = some 4294967330 := tab_lv (by kernel_rfl)
theorem lv70_15 : tab.lv 70 15 = some 68719476738 := tab_lv (by kernel_rfl)
theorem lv70_16 : tab.lv 70 16 = some 4 := tab_lv (by kernel_rfl)
theorem lv70_17 : tab.lv 70 17 = some 137438953474 := tab_lv (by kernel_rfl)
theorem lv70_18 : tab.lv 70 18 = some 70368744177666 := tab_lv (by kernel_rfl)
theorem lv70_19 : tab.lv 70 19 = some 4 := tab_lv (by kernel_rfl)
theorem lv70_20 : tab.lv 70 20 = some 562949953421312 := tab_lv (by kernel_rfl)
theorem lv70_21 : tab.lv 70 21 = some 4 := tab_lv (by kernel_rfl)
theorem lv70_22 : tab.lv 70 22 = some 4 := tab_lv (by kernel_rfl)
theorem lv71_0 : tab.lv 71 0 = some 5 := tab_lv (by kernel_rfl)
theorem lv71_1 : tab.lv 71 1 = some 53 := tab_lv (by kernel_rfl)
theorem lv71_2 : tab.lv 71 2 = some 32821 := tab_lv (by kernel_rfl)
theorem lv71_3 : tab.lv 71 3 = some 12 := tab_lv (by kernel_rfl)
theorem lv71_4 : tab.lv 71 4 = some 393269 := tab_lv (by kernel_rfl)
theorem lv71_5 : tab.lv 71 5 = some 917557 := tab_lv (by kernel_rfl)
theorem lv71_6 : tab.lv 71 6 = some 393333 := tab_lv (by kernel_rfl)
theorem lv71_7 : tab.lv 71 7 = some 393269 := tab_lv (by kernel_rfl)
theorem lv71_8 : tab.lv 71 8 = some 1074135093 := tab_lv (by kernel_rfl)
theorem lv71_9 : tab.lv 71 9 = some 12 := tab_lv (by kernel_rfl)
theorem lv71_10 : tab.lv 71 10 = some 393269 := tab_lv (by kernel_rfl)
theorem lv71_11 : tab.lv 71 11 = some 12 := tab_lv (by kernel_rfl)
theorem lv72_0 : tab.lv 72 0 = some 1 := tab_lv (by kernel_rfl)
theorem lv72_1 : tab.lv 72 1 = some 4 := tab_lv (by kernel_rfl)
theorem lv73_0 : tab.lv 73 0 = some 5 := tab_lv (by kernel_rfl)
theorem lv73_1 : tab.lv 73 1 = some 21 := tab_lv (by kernel_rfl)
theorem lv73_2 : tab.lv 73 2 = some 53 := tab_lv (by kernel_rfl)
theorem lv73_3 : tab.lv 73 3 = some 1077 := tab_lv (by kernel_rfl)
theorem lv73_4 : tab.lv 73 4 = some 53 := tab_lv (by kernel_rfl)
theorem lv73_5 : tab.lv 73 5 = some 117 := tab_lv (by kernel_rfl)
theorem lv73_6 : tab.lv 73 6 = some 53 := tab_lv (by kernel_rfl)
theorem lv73_7 : tab.lv 73 7 = some 1048693 := tab_lv (by kernel_rfl)
theorem lv73_8 : tab.lv 73 8 = some 33554485 := tab_lv (by kernel_rfl)
theorem lv73_9 : tab.lv 73 9 = some 12 := tab_lv (by kernel_rfl)
theorem lv73_10 : tab.lv 73 10 = some 12 := tab_lv (by kernel_rfl)
theorem lv73_11 : tab.lv 73 11 = some 34359738485 := tab_lv (by kernel_rfl)
theorem lv73_12 : tab.lv 73 12 = some 53 := tab_lv (by kernel_rfl)
theorem lv73_13 : tab.lv 73 13 = some 53 := tab_lv (by kernel_rfl)
theorem lv73_14 : tab.lv 73 14 = some 147573952589676413045 := tab_lv (by kernel_rfl)
theorem lv73_15 : tab.lv 73 15 = some 12 := tab_lv (by kernel_rfl)
theorem lv73_16 : tab.lv 73 16 = some 12 := tab_lv (by kernel_rfl)
theorem lv74_0 : tab.lv 74 0 = some 3 := tab_lv (by kernel_rfl)
theorem lv74_1 : tab.lv 74 1 = some 16 := tab_lv (by kernel_rfl)
theorem lv75_0 : tab.lv 75 0 = some 1 := tab_lv (by kernel_rfl)
theorem lv75_1 : tab.lv 75 1 = some 4 := tab_lv (by kernel_rfl)
theorem lv76_0 : tab.lv 76 0 = some 1 := tab_lv (by kernel_rfl)
theorem lv76_1 : tab.lv 76 1 = some 4 := tab_lv (by kernel_rfl)
theorem lv77_0 : tab.lv 77 0 = some 21 := tab_lv (by kernel_rfl)
theorem lv77_1 : tab.lv 77 1 = some 277 := tab_lv (by kernel_rfl)
theorem lv77_2 : tab.lv 77 2 = some 1813 := tab_lv (by kernel_rfl)
theorem lv77_3 : tab.lv 77 3 = some 132885 := tab_lv (by kernel_rfl)
theorem lv77_4 : tab.lv 77 4 = some 3861 := tab_lv (by kernel_rfl)
theorem lv77_5 : tab.lv 77 5 = some 2147487509 := tab_lv (by kernel_rfl)
theorem lv77_6 : tab.lv 77 6 = some 1813 := tab_lv (by kernel_rfl)
theorem lv77_7 : tab.lv 77 7 = some 1813 := tab_lv (by kernel_rfl)
theorem lv77_8 : tab.lv 77 8 = some 192 := tab_lv (by kernel_rfl)
theorem lv78_0 : tab.lv 78 0 = some 1 := tab_lv (by kernel_rfl)
theorem lv78_1 : tab.lv 78 1 = some 17 := tab_lv (by kernel_rfl)
theorem lv78_2 : tab.lv 78 2 = some 4 := tab_lv (by kernel_rfl)
theorem lv78_3 : tab.lv 78 3 = some 4 := tab_lv (by kernel_rfl)
theorem lv79_0 : tab.lv 79 0 = some 3 := tab_lv (by kernel_rfl)
theorem lv79_1 : tab.lv 79 1 = some 387 := tab_lv (by kernel_rfl)
theorem lv79_2 : tab.lv 79 2 = some 899 := tab_lv (by kernel_rfl)
theorem lv79_3 : tab.lv 79 3 = some 419 := tab_lv (by kernel_rfl)
theorem lv79_4 : tab.lv 79 4 = some 65955 := tab_lv (by kernel_rfl)
theorem lv79_5 : tab.lv 79 5 = some 16 := tab_lv (by kernel_rfl)
theorem lv79_6 : tab.lv 79 6 = some 387 := tab_lv (by kernel_rfl)
theorem lv79_7 : tab.lv 79 7 = some 16 := tab_lv (by kernel_rfl)
theorem lv80_0 : tab.lv 80 0 = some 6 := tab_lv (by kernel_rfl)
theorem lv80_1 : tab.lv 80 1 = some 8 := tab_lv (by kernel_rfl)
theorem lv81_0 : tab.lv 81 0 = some 3 := tab_lv (by kernel_rfl)
theorem lv81_1 : tab.lv 81 1 = some 387 := tab_lv (by kernel_rfl)
theorem lv81_2 : tab.lv 81 2 = some 899 := tab_lv (by kernel_rfl)
theorem lv81_3 : tab.lv 81 3 = some 419 := tab_lv (by kernel_rfl)
theorem lv81_4 : tab.lv 81 4 = some 65955 := tab_lv (by kernel_rfl)
theorem lv81_5 : tab.lv 81 5 = some 16 := tab_lv (by kernel_rfl)
theorem lv81_6 : tab.lv 81 6 = some 387 := tab_lv (by kernel_rfl)
theorem lv81_7 : tab.lv 81 7 = some 16 := tab_lv (by kernel_rfl)
theorem lv82_0 : tab.lv 82 0 = some 25 := tab_lv (by kernel_rfl)
theorem lv82_1 : tab.lv 82 1 = some 49 := tab_lv (by kernel_rfl)
theorem lv82_2 : tab.lv 82 2 = some 1072 := tab_lv (by kernel_rfl)
theorem lv82_3 : tab.lv 82 3 = some 48 := tab_lv (by kernel_rfl)
theorem lv82_4 : tab.lv 82 4 = some 16 := tab_lv (by kernel_rfl)
theorem lv83_0 : tab.lv 83 0 = some 1 := tab_lv (by kernel_rfl)
theorem lv83_1 : tab.lv 83 1 = some 65 := tab_lv (by kernel_rfl)
theorem lv83_2 : tab.lv 83 2 = some 4 := tab_lv (by kernel_rfl)
theorem lv83_3 : tab.lv 83 3 = some 769 := tab_lv (by kernel_rfl)
theorem lv83_4 : tab.lv 83 4 = some 1793 := tab_lv (by kernel_rfl)
theorem lv83_5 : tab.lv 83 5 = some 777 := tab_lv (by kernel_rfl)
theorem lv83_6 : tab.lv 83 6 = some 2097921 := tab_lv (by kernel_rfl)
theorem lv83_7 : tab.lv 83 7 = some 4 := tab_lv (by kernel_rfl)
theorem lv83_8 : tab.lv 83 8 = some 769 := tab_lv (by kernel_rfl)
theorem lv83_9 : tab.lv 83 9 = some 4 := tab_lv (by kernel_rfl)
theorem lv84_0 : tab.lv 84 0 = some 3 := tab_lv (by kernel_rfl)
theorem lv84_1 : tab.lv 84 1 = some 16 := tab_lv (by kernel_rfl)
theorem rs3 : Try.f3.results.toList = [.tmp 2] := rfl
theorem rs4 : Try.f4.results.toList = [.tmp 4] := rfl
theorem rs5 : Try.f5.results.toList = [.tmp 6] := rfl
theorem rs6 : Try.f6.results.toList = [.tmp 6] := rfl
theorem rs7 : Try.f7.results.toList = [.tmp 6] := rfl
theorem rs8 : Try.f8.results.toList = [.tmp 4] := rfl
theorem rs9 : Try.f9.results.toList = [.tmp 6] := rfl
theorem rs10 : Try.f10.results.toList = [.tmp 2] := rfl
theorem rs11 : Try.f11.results.toList = [.tmp 8] := rfl
theorem rs12 : Try.f12.results.toList = [.tmp 2] := rfl
theorem rs13 : Try.f13.results.toList = [.tmp 6] := rfl
theorem rs14 : Try.f14.results.toList = [.tmp 2] := rfl
theorem rs15 : Try.f15.results.toList = [.cell 2 26] := rfl
theorem rs16 : Try.f16.results.toList = [.tmp 4, .tmp 5] := rfl
theorem rs17 : Try.f17.results.toList = [.cell 0 26] := rfl
theorem rs18 : Try.f18.results.toList = [.tmp 2] := rfl
theorem rs19 : Try.f19.results.toList = [.tmp 4, .tmp 5] := rfl
theorem rs20 : Try.f20.results.toList = [.tmp 4, .tmp 5] := rfl
theorem rs21 : Try.f21.results.toList = [.cell 6 45] := rfl
theorem rs22 : Try.f22.results.toList = [.tmp 4, .tmp 5] := rfl
theorem rs23 : Try.f23.results.toList = [.tmp 2, .tmp 3] := rfl
theorem rs24 : Try.f24.results.toList = [.tmp 4, .tmp 5] := rfl
theorem rs25 : Try.f25.results.toList = [.tmp 4, .tmp 5] := rfl
theorem rs26 : Try.f26.results.toList = [.tmp 4, .tmp 5] := rfl
theorem rs27 : Try.f27.results.toList = [.cell 4 29] := rfl
theorem rs28 : Try.f28.results.toList = [.tmp 4] := rfl
theorem rs29 : Try.f29.results.toList = [.tmp 6] := rfl
theorem rs30 : Try.f30.results.toList = [.tmp 2, .tmp 3, .tmp 4] := rfl
theorem rs31 : Try.f31.results.toList = [.tmp 4, .tmp 5] := rfl
theorem rs32 : Try.f32.results.toList = [.tmp 2, .tmp 3] := rfl
theorem rs33 : Try.f33.results.toList = [.tmp 2] := rfl
theorem rs34 : Try.f34.results.toList = [.tmp 4] := rfl
theorem rs35 : Try.f35.results.toList = [.tmp 4] := rfl
theorem rs36 : Try.f36.results.toList = [.tmp 2] := rfl
theorem rs37 : Try.f37.results.toList = [.tmp 2] := rfl
theorem rs38 : Try.f38.results.toList = [.cell 2 50] := rfl
theorem rs39 : Try.f39.results.toList = [.tmp 0] := rfl
theorem rs40 : Try.f40.results.toList = [.cell 8 32] := rfl
theorem rs41 : Try.f41.results.toList = [] := rfl
theorem rs42 : Try.f42.results.toList = [.tmp 4] := rfl
theorem rs43 : Try.f43.results.toList = [.tmp 3] := rfl
theorem rs44 : Try.f44.results.toList = [.tmp 6, .tmp 7] := rfl
theorem rs45 : Try.f45.results.toList = [.tmp 4] := rfl
theorem rs46 : Try.f46.results.toList = [.tmp 4] := rfl
theorem rs47 : Try.f47.results.toList = [.tmp 2] := rfl
theorem rs48 : Try.f48.results.toList = [.tmp 4] := rfl
theorem rs49 : Try.f49.results.toList = [.tmp 2] := rfl
theorem rs50 : Try.f50.results.toList = [.tmp 4] := rfl
theorem rs51 : Try.f51.results.toList = [.tmp 4, .tmp 5] := rfl
theorem rs52 : Try.f52.results.toList = [.tmp 4] := rfl
theorem rs53 : Try.f53.results.toList = [.tmp 4] := rfl
theorem rs54 : Try.f54.results.toList = [.tmp 2] := rfl
theorem rs55 : Try.f55.results.toList = [.cell 2 74, .tmp 3] := rfl
theorem rs56 : Try.f56.results.toList = [.tmp 2] := rfl
theorem rs57 : Try.f57.results.toList = [.tmp 4] := rfl
theorem rs58 : Try.f58.results.toList = [.tmp 4] := rfl
theorem rs59 : Try.f59.results.toList = [.tmp 4, .tmp 5] := rfl
theorem rs60 : Try.f60.results.toList = [.tmp 4] := rfl
theorem rs61 : Try.f61.results.toList = [.tmp 4] := rfl
theorem rs62 : Try.f62.results.toList = [.tmp 4] := rfl
theorem rs63 : Try.f63.results.toList = [.tmp 3] := rfl
theorem rs64 : Try.f64.results.toList = [.tmp 2] := rfl
theorem rs65 : Try.f65.results.toList = [.tmp 4] := rfl
theorem rs66 : Try.f66.results.toList = [.tmp 2] := rfl
theorem rs67 : Try.f67.results.toList = [.tmp 2] := rfl
theorem rs68 : Try.f68.results.toList = [.cell 6 32] := rfl
theorem rs69 : Try.f69.results.toList = [.cell 7 32] := rfl
theorem rs70 : Try.f70.results.toList = [.tmp 2] := rfl
theorem rs71 : Try.f71.results.toList = [.cell 2 74, .tmp 3] := rfl
theorem rs72 : Try.f72.results.toList = [.tmp 2] := rfl
theorem rs73 : Try.f73.results.toList = [.cell 2 74, .tmp 3] := rfl
theorem rs74 : Try.f74.results.toList = [.tmp 4] := rfl
theorem rs75 : Try.f75.results.toList = [.tmp 2] := rfl
theorem rs76 : Try.f76.results.toList = [.tmp 2] := rfl
theorem rs77 : Try.f77.results.toList = [.tmp 6, .tmp 7] := rfl
theorem rs78 : Try.f78.results.toList = [.tmp 2] := rfl
theorem rs79 : Try.f79.results.toList = [.tmp 4] := rfl
theorem rs80 : Try.f80.results.toList = [.tmp 3] := rfl
theorem rs81 : Try.f81.results.toList = [.tmp 4] := rfl
theorem rs82 : Try.f82.results.toList = [.cell 4 32] := rfl
theorem rs83 : Try.f83.results.toList = [.tmp 2] := rfl
theorem rs84 : Try.f84.results.toList = [.tmp 4] := rfl
end Go.Proofs.Ytfcakcipnikcjaa.Am
