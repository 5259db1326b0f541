/- The closed facts on the types of this translation that the walk asks; made by program. -/
import Derived.Test.YtngpggbigjeehaaDoorProg
import Derived.Test.YtngpggbigjeehaaDoorPvO
import Derived.KernelRfl
namespace Go.Proofs.YtngpggbigjeehaaDoor
open Go Go.Pv
namespace Pt
@[simp] theorem info_1 : (Tryd.prog.info? 1).isSome = true := by kernel_rfl
@[simp] theorem agg_1 : aggO Tryd.prog 1 = some false := by kernel_rfl
@[simp] theorem esz_1 : esz Tryd.prog 1 = 1 := by kernel_rfl
@[simp] theorem funct_1 : funcT Tryd.prog 1 = true := by kernel_rfl
@[simp] theorem conc_1 : Tryd.prog.concrete 1 = true := by kernel_rfl
@[simp] theorem zero_1 : azero Tryd.prog 1 = some [.nilFunc] := by kernel_rfl
@[simp] theorem nils_1 : nilPos Tryd.prog 1 = [] := by kernel_rfl
@[simp] theorem app_1 : appOk Tryd.prog 1 = true := by kernel_rfl
@[simp] theorem eby_1 : ebytes Tryd.prog 1 = 8 := by kernel_rfl
@[simp] theorem info_2 : (Tryd.prog.info? 2).isSome = true := by kernel_rfl
@[simp] theorem agg_2 : aggO Tryd.prog 2 = some false := by kernel_rfl
@[simp] theorem esz_2 : esz Tryd.prog 2 = 1 := by kernel_rfl
@[simp] theorem ikind_2 : ikind Tryd.prog 2 = some .i64 := by kernel_rfl
@[simp] theorem under_2 : Tryd.prog.underlying 2 = some (.int .i64) := by kernel_rfl
@[simp] theorem conc_2 : Tryd.prog.concrete 2 = true := by kernel_rfl
@[simp] theorem zero_2 : azero Tryd.prog 2 = some [.int .i64 0] := by kernel_rfl
@[simp] theorem nils_2 : nilPos Tryd.prog 2 = [] := by kernel_rfl
@[simp] theorem app_2 : appOk Tryd.prog 2 = true := by kernel_rfl
@[simp] theorem eby_2 : ebytes Tryd.prog 2 = 8 := by kernel_rfl
@[simp] theorem info_3 : (Tryd.prog.info? 3).isSome = true := by kernel_rfl
@[simp] theorem agg_3 : aggO Tryd.prog 3 = some false := by kernel_rfl
@[simp] theorem esz_3 : esz Tryd.prog 3 = 1 := by kernel_rfl
@[simp] theorem ikind_3 : ikind Tryd.prog 3 = some .i64 := by kernel_rfl
@[simp] theorem under_3 : Tryd.prog.underlying 3 = some (.int .i64) := by kernel_rfl
@[simp] theorem conc_3 : Tryd.prog.concrete 3 = true := by kernel_rfl
@[simp] theorem zero_3 : azero Tryd.prog 3 = some [.int .i64 0] := by kernel_rfl
@[simp] theorem nils_3 : nilPos Tryd.prog 3 = [] := by kernel_rfl
@[simp] theorem app_3 : appOk Tryd.prog 3 = true := by kernel_rfl
@[simp] theorem eby_3 : ebytes Tryd.prog 3 = 8 := by kernel_rfl
@[simp] theorem info_4 : (Tryd.prog.info? 4).isSome = true := by kernel_rfl
@[simp] theorem agg_4 : aggO Tryd.prog 4 = some false := by kernel_rfl
@[simp] theorem esz_4 : esz Tryd.prog 4 = 1 := by kernel_rfl
@[simp] theorem under_4 : Tryd.prog.underlying 4 = some .bool := by kernel_rfl
@[simp] theorem boolt_4 : boolT Tryd.prog 4 = true := by kernel_rfl
@[simp] theorem conc_4 : Tryd.prog.concrete 4 = true := by kernel_rfl
@[simp] theorem zero_4 : azero Tryd.prog 4 = some [.bool false] := by kernel_rfl
@[simp] theorem nils_4 : nilPos Tryd.prog 4 = [] := by kernel_rfl
@[simp] theorem app_4 : appOk Tryd.prog 4 = true := by kernel_rfl
@[simp] theorem eby_4 : ebytes Tryd.prog 4 = 1 := by kernel_rfl
@[simp] theorem info_5 : (Tryd.prog.info? 5).isSome = true := by kernel_rfl
@[simp] theorem agg_5 : aggO Tryd.prog 5 = some false := by kernel_rfl
@[simp] theorem esz_5 : esz Tryd.prog 5 = 1 := by kernel_rfl
@[simp] theorem ikind_5 : ikind Tryd.prog 5 = some .u8 := by kernel_rfl
@[simp] theorem under_5 : Tryd.prog.underlying 5 = some (.int .u8) := by kernel_rfl
@[simp] theorem conc_5 : Tryd.prog.concrete 5 = true := by kernel_rfl
@[simp] theorem zero_5 : azero Tryd.prog 5 = some [.int .u8 0] := by kernel_rfl
@[simp] theorem nils_5 : nilPos Tryd.prog 5 = [] := by kernel_rfl
@[simp] theorem app_5 : appOk Tryd.prog 5 = true := by kernel_rfl
@[simp] theorem eby_5 : ebytes Tryd.prog 5 = 1 := by kernel_rfl
@[simp] theorem info_6 : (Tryd.prog.info? 6).isSome = true := by kernel_rfl
@[simp] theorem agg_6 : aggO Tryd.prog 6 = some false := by kernel_rfl
@[simp] theorem esz_6 : esz Tryd.prog 6 = 1 := by kernel_rfl
@[simp] theorem ikind_6 : ikind Tryd.prog 6 = some .u8 := by kernel_rfl
@[simp] theorem under_6 : Tryd.prog.underlying 6 = some (.int .u8) := by kernel_rfl
@[simp] theorem conc_6 : Tryd.prog.concrete 6 = true := by kernel_rfl
@[simp] theorem zero_6 : azero Tryd.prog 6 = some [.int .u8 0] := by kernel_rfl
@[simp] theorem nils_6 : nilPos Tryd.prog 6 = [] := by kernel_rfl
@[simp] theorem app_6 : appOk Tryd.prog 6 = true := by kernel_rfl
@[simp] theorem eby_6 : ebytes Tryd.prog 6 = 1 := by kernel_rfl
@[simp] theorem info_7 : (Tryd.prog.info? 7).isSome = true := by kernel_rfl
@[simp] theorem agg_7 : aggO Tryd.prog 7 = some true := by kernel_rfl
@[simp] theorem esz_7 : esz Tryd.prog 7 = 4 := by kernel_rfl
@[simp] theorem conc_7 : Tryd.prog.concrete 7 = true := by kernel_rfl
@[simp] theorem foff_7_0 : foff Tryd.prog 7 0 = some 0 := by kernel_rfl
@[simp] theorem ftyp_7_0 : ftyp Tryd.prog 7 0 = 2 := by kernel_rfl
@[simp] theorem foff_7_1 : foff Tryd.prog 7 1 = some 1 := by kernel_rfl
@[simp] theorem ftyp_7_1 : ftyp Tryd.prog 7 1 = 3 := by kernel_rfl
@[simp] theorem foff_7_2 : foff Tryd.prog 7 2 = some 2 := by kernel_rfl
@[simp] theorem ftyp_7_2 : ftyp Tryd.prog 7 2 = 4 := by kernel_rfl
@[simp] theorem foff_7_3 : foff Tryd.prog 7 3 = some 3 := by kernel_rfl
@[simp] theorem ftyp_7_3 : ftyp Tryd.prog 7 3 = 6 := by kernel_rfl
@[simp] theorem known_7 : knownF Tryd.prog 7 = true := by kernel_rfl
@[simp] theorem zero_7 : azero Tryd.prog 7 = some [.int .i64 0, .int .i64 0, .bool false, .int .u8 0] := by kernel_rfl
@[simp] theorem nils_7 : nilPos Tryd.prog 7 = [] := by kernel_rfl
@[simp] theorem app_7 : appOk Tryd.prog 7 = true := by kernel_rfl
@[simp] theorem eby_7 : ebytes Tryd.prog 7 = 24 := by kernel_rfl
@[simp] theorem info_8 : (Tryd.prog.info? 8).isSome = true := by kernel_rfl
@[simp] theorem agg_8 : aggO Tryd.prog 8 = some true := by kernel_rfl
@[simp] theorem esz_8 : esz Tryd.prog 8 = 4 := by kernel_rfl
@[simp] theorem conc_8 : Tryd.prog.concrete 8 = true := by kernel_rfl
@[simp] theorem foff_8_0 : foff Tryd.prog 8 0 = some 0 := by kernel_rfl
@[simp] theorem ftyp_8_0 : ftyp Tryd.prog 8 0 = 2 := by kernel_rfl
@[simp] theorem foff_8_1 : foff Tryd.prog 8 1 = some 1 := by kernel_rfl
@[simp] theorem ftyp_8_1 : ftyp Tryd.prog 8 1 = 3 := by kernel_rfl
@[simp] theorem foff_8_2 : foff Tryd.prog 8 2 = some 2 := by kernel_rfl
@[simp] theorem ftyp_8_2 : ftyp Tryd.prog 8 2 = 4 := by kernel_rfl
@[simp] theorem foff_8_3 : foff Tryd.prog 8 3 = some 3 := by kernel_rfl
@[simp] theorem ftyp_8_3 : ftyp Tryd.prog 8 3 = 6 := by kernel_rfl
@[simp] theorem known_8 : knownF Tryd.prog 8 = true := by kernel_rfl
@[simp] theorem zero_8 : azero Tryd.prog 8 = some [.int .i64 0, .int .i64 0, .bool false, .int .u8 0] := by kernel_rfl
@[simp] theorem nils_8 : nilPos Tryd.prog 8 = [] := by kernel_rfl
@[simp] theorem app_8 : appOk Tryd.prog 8 = true := by kernel_rfl
@[simp] theorem eby_8 : ebytes Tryd.prog 8 = 24 := by kernel_rfl
@[simp] theorem info_9 : (Tryd.prog.info? 9).isSome = true := by kernel_rfl
@[simp] theorem agg_9 : aggO Tryd.prog 9 = some false := by kernel_rfl
@[simp] theorem esz_9 : esz Tryd.prog 9 = 1 := by kernel_rfl
@[simp] theorem under_9 : Tryd.prog.underlying 9 = some .string := by kernel_rfl
@[simp] theorem strt_9 : strT Tryd.prog 9 = true := by kernel_rfl
@[simp] theorem conc_9 : Tryd.prog.concrete 9 = true := by kernel_rfl
@[simp] theorem zero_9 : azero Tryd.prog 9 = some [.str []] := by kernel_rfl
@[simp] theorem nils_9 : nilPos Tryd.prog 9 = [] := by kernel_rfl
@[simp] theorem app_9 : appOk Tryd.prog 9 = true := by kernel_rfl
@[simp] theorem eby_9 : ebytes Tryd.prog 9 = 16 := by kernel_rfl
@[simp] theorem info_10 : (Tryd.prog.info? 10).isSome = true := by kernel_rfl
@[simp] theorem agg_10 : aggO Tryd.prog 10 = some false := by kernel_rfl
@[simp] theorem esz_10 : esz Tryd.prog 10 = 1 := by kernel_rfl
@[simp] theorem under_10 : Tryd.prog.underlying 10 = some .string := by kernel_rfl
@[simp] theorem strt_10 : strT Tryd.prog 10 = true := by kernel_rfl
@[simp] theorem conc_10 : Tryd.prog.concrete 10 = true := by kernel_rfl
@[simp] theorem zero_10 : azero Tryd.prog 10 = some [.str []] := by kernel_rfl
@[simp] theorem nils_10 : nilPos Tryd.prog 10 = [] := by kernel_rfl
@[simp] theorem app_10 : appOk Tryd.prog 10 = true := by kernel_rfl
@[simp] theorem eby_10 : ebytes Tryd.prog 10 = 16 := by kernel_rfl
@[simp] theorem info_11 : (Tryd.prog.info? 11).isSome = true := by kernel_rfl
@[simp] theorem agg_11 : aggO Tryd.prog 11 = some false := by kernel_rfl
@[simp] theorem esz_11 : esz Tryd.prog 11 = 1 := by kernel_rfl
@[simp] theorem under_11 : Tryd.prog.underlying 11 = some .string := by kernel_rfl
@[simp] theorem strt_11 : strT Tryd.prog 11 = true := by kernel_rfl
@[simp] theorem conc_11 : Tryd.prog.concrete 11 = true := by kernel_rfl
@[simp] theorem zero_11 : azero Tryd.prog 11 = some [.str []] := by kernel_rfl
@[simp] theorem nils_11 : nilPos Tryd.prog 11 = [] := by kernel_rfl
@[simp] theorem app_11 : appOk Tryd.prog 11 = true := by kernel_rfl
@[simp] theorem eby_11 : ebytes Tryd.prog 11 = 16 := by kernel_rfl
@[simp] theorem info_12 : (Tryd.prog.info? 12).isSome = true := by kernel_rfl
@[simp] theorem agg_12 : aggO Tryd.prog 12 = some false := by kernel_rfl
@[simp] theorem esz_12 : esz Tryd.prog 12 = 1 := by kernel_rfl
@[simp] theorem ikind_12 : ikind Tryd.prog 12 = some .u64 := by kernel_rfl
@[simp] theorem under_12 : Tryd.prog.underlying 12 = some (.int .u64) := by kernel_rfl
@[simp] theorem conc_12 : Tryd.prog.concrete 12 = true := by kernel_rfl
@[simp] theorem zero_12 : azero Tryd.prog 12 = some [.int .u64 0] := by kernel_rfl
@[simp] theorem nils_12 : nilPos Tryd.prog 12 = [] := by kernel_rfl
@[simp] theorem app_12 : appOk Tryd.prog 12 = true := by kernel_rfl
@[simp] theorem eby_12 : ebytes Tryd.prog 12 = 8 := by kernel_rfl
@[simp] theorem info_13 : (Tryd.prog.info? 13).isSome = true := by kernel_rfl
@[simp] theorem agg_13 : aggO Tryd.prog 13 = some true := by kernel_rfl
@[simp] theorem esz_13 : esz Tryd.prog 13 = 2 := by kernel_rfl
@[simp] theorem conc_13 : Tryd.prog.concrete 13 = true := by kernel_rfl
@[simp] theorem foff_13_0 : foff Tryd.prog 13 0 = some 0 := by kernel_rfl
@[simp] theorem ftyp_13_0 : ftyp Tryd.prog 13 0 = 9 := by kernel_rfl
@[simp] theorem foff_13_1 : foff Tryd.prog 13 1 = some 1 := by kernel_rfl
@[simp] theorem ftyp_13_1 : ftyp Tryd.prog 13 1 = 12 := by kernel_rfl
@[simp] theorem known_13 : knownF Tryd.prog 13 = true := by kernel_rfl
@[simp] theorem zero_13 : azero Tryd.prog 13 = some [.str [], .int .u64 0] := by kernel_rfl
@[simp] theorem nils_13 : nilPos Tryd.prog 13 = [] := by kernel_rfl
@[simp] theorem app_13 : appOk Tryd.prog 13 = true := by kernel_rfl
@[simp] theorem eby_13 : ebytes Tryd.prog 13 = 24 := by kernel_rfl
@[simp] theorem info_14 : (Tryd.prog.info? 14).isSome = true := by kernel_rfl
@[simp] theorem agg_14 : aggO Tryd.prog 14 = some true := by kernel_rfl
@[simp] theorem esz_14 : esz Tryd.prog 14 = 2 := by kernel_rfl
@[simp] theorem conc_14 : Tryd.prog.concrete 14 = true := by kernel_rfl
@[simp] theorem foff_14_0 : foff Tryd.prog 14 0 = some 0 := by kernel_rfl
@[simp] theorem ftyp_14_0 : ftyp Tryd.prog 14 0 = 9 := by kernel_rfl
@[simp] theorem foff_14_1 : foff Tryd.prog 14 1 = some 1 := by kernel_rfl
@[simp] theorem ftyp_14_1 : ftyp Tryd.prog 14 1 = 12 := by kernel_rfl
@[simp] theorem known_14 : knownF Tryd.prog 14 = true := by kernel_rfl
@[simp] theorem zero_14 : azero Tryd.prog 14 = some [.str [], .int .u64 0] := by kernel_rfl
@[simp] theorem nils_14 : nilPos Tryd.prog 14 = [] := by kernel_rfl
@[simp] theorem app_14 : appOk Tryd.prog 14 = true := by kernel_rfl
@[simp] theorem eby_14 : ebytes Tryd.prog 14 = 24 := by kernel_rfl
@[simp] theorem info_15 : (Tryd.prog.info? 15).isSome = true := by kernel_rfl
@[simp] theorem agg_15 : aggO Tryd.prog 15 = some false := by kernel_rfl
@[simp] theorem esz_15 : esz Tryd.prog 15 = 1 := by kernel_rfl
@[simp] theorem conc_15 : Tryd.prog.concrete 15 = true := by kernel_rfl
@[simp] theorem zero_15 : azero Tryd.prog 15 = some [.nilPtr] := by kernel_rfl
@[simp] theorem nils_15 : nilPos Tryd.prog 15 = [] := by kernel_rfl
@[simp] theorem app_15 : appOk Tryd.prog 15 = true := by kernel_rfl
@[simp] theorem eby_15 : ebytes Tryd.prog 15 = 8 := by kernel_rfl
@[simp] theorem info_16 : (Tryd.prog.info? 16).isSome = true := by kernel_rfl
@[simp] theorem agg_16 : aggO Tryd.prog 16 = some false := by kernel_rfl
@[simp] theorem esz_16 : esz Tryd.prog 16 = 1 := by kernel_rfl
@[simp] theorem conc_16 : Tryd.prog.concrete 16 = true := by kernel_rfl
@[simp] theorem zero_16 : azero Tryd.prog 16 = some [.nilPtr] := by kernel_rfl
@[simp] theorem nils_16 : nilPos Tryd.prog 16 = [] := by kernel_rfl
@[simp] theorem app_16 : appOk Tryd.prog 16 = true := by kernel_rfl
@[simp] theorem eby_16 : ebytes Tryd.prog 16 = 8 := by kernel_rfl
@[simp] theorem info_17 : (Tryd.prog.info? 17).isSome = true := by kernel_rfl
@[simp] theorem agg_17 : aggO Tryd.prog 17 = some false := by kernel_rfl
@[simp] theorem esz_17 : esz Tryd.prog 17 = 1 := by kernel_rfl
@[simp] theorem conc_17 : Tryd.prog.concrete 17 = true := by kernel_rfl
@[simp] theorem zero_17 : azero Tryd.prog 17 = some [.nilPtr] := by kernel_rfl
@[simp] theorem nils_17 : nilPos Tryd.prog 17 = [] := by kernel_rfl
@[simp] theorem app_17 : appOk Tryd.prog 17 = true := by kernel_rfl
@[simp] theorem eby_17 : ebytes Tryd.prog 17 = 8 := by kernel_rfl
@[simp] theorem info_18 : (Tryd.prog.info? 18).isSome = true := by kernel_rfl
@[simp] theorem agg_18 : aggO Tryd.prog 18 = some true := by kernel_rfl
@[simp] theorem esz_18 : esz Tryd.prog 18 = 1 := by kernel_rfl
@[simp] theorem conc_18 : Tryd.prog.concrete 18 = true := by kernel_rfl
@[simp] theorem foff_18_0 : foff Tryd.prog 18 0 = some 0 := by kernel_rfl
@[simp] theorem ftyp_18_0 : ftyp Tryd.prog 18 0 = 17 := by kernel_rfl
@[simp] theorem known_18 : knownF Tryd.prog 18 = true := by kernel_rfl
@[simp] theorem zero_18 : azero Tryd.prog 18 = some [.nilPtr] := by kernel_rfl
@[simp] theorem nils_18 : nilPos Tryd.prog 18 = [] := by kernel_rfl
@[simp] theorem app_18 : appOk Tryd.prog 18 = true := by kernel_rfl
@[simp] theorem eby_18 : ebytes Tryd.prog 18 = 8 := by kernel_rfl
@[simp] theorem info_19 : (Tryd.prog.info? 19).isSome = true := by kernel_rfl
@[simp] theorem agg_19 : aggO Tryd.prog 19 = some true := by kernel_rfl
@[simp] theorem esz_19 : esz Tryd.prog 19 = 1 := by kernel_rfl
@[simp] theorem conc_19 : Tryd.prog.concrete 19 = true := by kernel_rfl
@[simp] theorem foff_19_0 : foff Tryd.prog 19 0 = some 0 := by kernel_rfl
@[simp] theorem ftyp_19_0 : ftyp Tryd.prog 19 0 = 17 := by kernel_rfl
@[simp] theorem known_19 : knownF Tryd.prog 19 = true := by kernel_rfl
@[simp] theorem zero_19 : azero Tryd.prog 19 = some [.nilPtr] := by kernel_rfl
@[simp] theorem nils_19 : nilPos Tryd.prog 19 = [] := by kernel_rfl
@[simp] theorem app_19 : appOk Tryd.prog 19 = true := by kernel_rfl
@[simp] theorem eby_19 : ebytes Tryd.prog 19 = 8 := by kernel_rfl
@[simp] theorem info_20 : (Tryd.prog.info? 20).isSome = true := by kernel_rfl
@[simp] theorem agg_20 : aggO Tryd.prog 20 = some false := by kernel_rfl
@[simp] theorem esz_20 : esz Tryd.prog 20 = 1 := by kernel_rfl
@[simp] theorem ifacet_20 : ifaceT Tryd.prog 20 = true := by kernel_rfl
@[simp] theorem zero_20 : azero Tryd.prog 20 = some [.nilIface] := by kernel_rfl
@[simp] theorem nils_20 : nilPos Tryd.prog 20 = [] := by kernel_rfl
@[simp] theorem app_20 : appOk Tryd.prog 20 = true := by kernel_rfl
@[simp] theorem eby_20 : ebytes Tryd.prog 20 = 16 := by kernel_rfl
@[simp] theorem info_21 : (Tryd.prog.info? 21).isSome = true := by kernel_rfl
@[simp] theorem agg_21 : aggO Tryd.prog 21 = some false := by kernel_rfl
@[simp] theorem esz_21 : esz Tryd.prog 21 = 1 := by kernel_rfl
@[simp] theorem ikind_21 : ikind Tryd.prog 21 = some .i32 := by kernel_rfl
@[simp] theorem under_21 : Tryd.prog.underlying 21 = some (.int .i32) := by kernel_rfl
@[simp] theorem conc_21 : Tryd.prog.concrete 21 = true := by kernel_rfl
@[simp] theorem zero_21 : azero Tryd.prog 21 = some [.int .i32 0] := by kernel_rfl
@[simp] theorem nils_21 : nilPos Tryd.prog 21 = [] := by kernel_rfl
@[simp] theorem app_21 : appOk Tryd.prog 21 = true := by kernel_rfl
@[simp] theorem eby_21 : ebytes Tryd.prog 21 = 4 := by kernel_rfl
@[simp] theorem info_22 : (Tryd.prog.info? 22).isSome = true := by kernel_rfl
@[simp] theorem agg_22 : aggO Tryd.prog 22 = some false := by kernel_rfl
@[simp] theorem esz_22 : esz Tryd.prog 22 = 1 := by kernel_rfl
@[simp] theorem funct_22 : funcT Tryd.prog 22 = true := by kernel_rfl
@[simp] theorem conc_22 : Tryd.prog.concrete 22 = true := by kernel_rfl
@[simp] theorem zero_22 : azero Tryd.prog 22 = some [.nilFunc] := by kernel_rfl
@[simp] theorem nils_22 : nilPos Tryd.prog 22 = [] := by kernel_rfl
@[simp] theorem app_22 : appOk Tryd.prog 22 = true := by kernel_rfl
@[simp] theorem eby_22 : ebytes Tryd.prog 22 = 8 := by kernel_rfl
@[simp] theorem info_23 : (Tryd.prog.info? 23).isSome = true := by kernel_rfl
@[simp] theorem agg_23 : aggO Tryd.prog 23 = some false := by kernel_rfl
@[simp] theorem esz_23 : esz Tryd.prog 23 = 1 := by kernel_rfl
@[simp] theorem funct_23 : funcT Tryd.prog 23 = true := by kernel_rfl
@[simp] theorem conc_23 : Tryd.prog.concrete 23 = true := by kernel_rfl
@[simp] theorem zero_23 : azero Tryd.prog 23 = some [.nilFunc] := by kernel_rfl
@[simp] theorem nils_23 : nilPos Tryd.prog 23 = [] := by kernel_rfl
@[simp] theorem app_23 : appOk Tryd.prog 23 = true := by kernel_rfl
@[simp] theorem eby_23 : ebytes Tryd.prog 23 = 8 := by kernel_rfl
@[simp] theorem info_24 : (Tryd.prog.info? 24).isSome = true := by kernel_rfl
@[simp] theorem agg_24 : aggO Tryd.prog 24 = some false := by kernel_rfl
@[simp] theorem esz_24 : esz Tryd.prog 24 = 1 := by kernel_rfl
@[simp] theorem funct_24 : funcT Tryd.prog 24 = true := by kernel_rfl
@[simp] theorem conc_24 : Tryd.prog.concrete 24 = true := by kernel_rfl
@[simp] theorem zero_24 : azero Tryd.prog 24 = some [.nilFunc] := by kernel_rfl
@[simp] theorem nils_24 : nilPos Tryd.prog 24 = [] := by kernel_rfl
@[simp] theorem app_24 : appOk Tryd.prog 24 = true := by kernel_rfl
@[simp] theorem eby_24 : ebytes Tryd.prog 24 = 8 := by kernel_rfl
@[simp] theorem info_25 : (Tryd.prog.info? 25).isSome = true := by kernel_rfl
@[simp] theorem agg_25 : aggO Tryd.prog 25 = some false := by kernel_rfl
@[simp] theorem esz_25 : esz Tryd.prog 25 = 1 := by kernel_rfl
@[simp] theorem funct_25 : funcT Tryd.prog 25 = true := by kernel_rfl
@[simp] theorem conc_25 : Tryd.prog.concrete 25 = true := by kernel_rfl
@[simp] theorem zero_25 : azero Tryd.prog 25 = some [.nilFunc] := by kernel_rfl
@[simp] theorem nils_25 : nilPos Tryd.prog 25 = [] := by kernel_rfl
@[simp] theorem app_25 : appOk Tryd.prog 25 = true := by kernel_rfl
@[simp] theorem eby_25 : ebytes Tryd.prog 25 = 8 := by kernel_rfl
@[simp] theorem info_26 : (Tryd.prog.info? 26).isSome = true := by kernel_rfl
@[simp] theorem agg_26 : aggO Tryd.prog 26 = some false := by kernel_rfl
@[simp] theorem esz_26 : esz Tryd.prog 26 = 1 := by kernel_rfl
@[simp] theorem funct_26 : funcT Tryd.prog 26 = true := by kernel_rfl
@[simp] theorem conc_26 : Tryd.prog.concrete 26 = true := by kernel_rfl
@[simp] theorem zero_26 : azero Tryd.prog 26 = some [.nilFunc] := by kernel_rfl
@[simp] theorem nils_26 : nilPos Tryd.prog 26 = [] := by kernel_rfl
@[simp] theorem app_26 : appOk Tryd.prog 26 = true := by kernel_rfl
@[simp] theorem eby_26 : ebytes Tryd.prog 26 = 8 := by kernel_rfl
@[simp] theorem info_28 : (Tryd.prog.info? 28).isSome = true := by kernel_rfl
@[simp] theorem agg_28 : aggO Tryd.prog 28 = some false := by kernel_rfl
@[simp] theorem esz_28 : esz Tryd.prog 28 = 1 := by kernel_rfl
@[simp] theorem funct_28 : funcT Tryd.prog 28 = true := by kernel_rfl
@[simp] theorem conc_28 : Tryd.prog.concrete 28 = true := by kernel_rfl
@[simp] theorem zero_28 : azero Tryd.prog 28 = some [.nilFunc] := by kernel_rfl
@[simp] theorem nils_28 : nilPos Tryd.prog 28 = [] := by kernel_rfl
@[simp] theorem app_28 : appOk Tryd.prog 28 = true := by kernel_rfl
@[simp] theorem eby_28 : ebytes Tryd.prog 28 = 8 := by kernel_rfl
@[simp] theorem info_29 : (Tryd.prog.info? 29).isSome = true := by kernel_rfl
@[simp] theorem agg_29 : aggO Tryd.prog 29 = some false := by kernel_rfl
@[simp] theorem esz_29 : esz Tryd.prog 29 = 1 := by kernel_rfl
@[simp] theorem funct_29 : funcT Tryd.prog 29 = true := by kernel_rfl
@[simp] theorem conc_29 : Tryd.prog.concrete 29 = true := by kernel_rfl
@[simp] theorem zero_29 : azero Tryd.prog 29 = some [.nilFunc] := by kernel_rfl
@[simp] theorem nils_29 : nilPos Tryd.prog 29 = [] := by kernel_rfl
@[simp] theorem app_29 : appOk Tryd.prog 29 = true := by kernel_rfl
@[simp] theorem eby_29 : ebytes Tryd.prog 29 = 8 := by kernel_rfl
@[simp] theorem info_30 : (Tryd.prog.info? 30).isSome = true := by kernel_rfl
@[simp] theorem agg_30 : aggO Tryd.prog 30 = some false := by kernel_rfl
@[simp] theorem esz_30 : esz Tryd.prog 30 = 1 := by kernel_rfl
@[simp] theorem funct_30 : funcT Tryd.prog 30 = true := by kernel_rfl
@[simp] theorem conc_30 : Tryd.prog.concrete 30 = true := by kernel_rfl
@[simp] theorem zero_30 : azero Tryd.prog 30 = some [.nilFunc] := by kernel_rfl
@[simp] theorem nils_30 : nilPos Tryd.prog 30 = [] := by kernel_rfl
@[simp] theorem app_30 : appOk Tryd.prog 30 = true := by kernel_rfl
@[simp] theorem eby_30 : ebytes Tryd.prog 30 = 8 := by kernel_rfl
@[simp] theorem info_31 : (Tryd.prog.info? 31).isSome = true := by kernel_rfl
@[simp] theorem agg_31 : aggO Tryd.prog 31 = some false := by kernel_rfl
@[simp] theorem esz_31 : esz Tryd.prog 31 = 1 := by kernel_rfl
@[simp] theorem funct_31 : funcT Tryd.prog 31 = true := by kernel_rfl
@[simp] theorem conc_31 : Tryd.prog.concrete 31 = true := by kernel_rfl
@[simp] theorem zero_31 : azero Tryd.prog 31 = some [.nilFunc] := by kernel_rfl
@[simp] theorem nils_31 : nilPos Tryd.prog 31 = [] := by kernel_rfl
@[simp] theorem app_31 : appOk Tryd.prog 31 = true := by kernel_rfl
@[simp] theorem eby_31 : ebytes Tryd.prog 31 = 8 := by kernel_rfl
@[simp] theorem info_32 : (Tryd.prog.info? 32).isSome = true := by kernel_rfl
@[simp] theorem agg_32 : aggO Tryd.prog 32 = some false := by kernel_rfl
@[simp] theorem esz_32 : esz Tryd.prog 32 = 1 := by kernel_rfl
@[simp] theorem funct_32 : funcT Tryd.prog 32 = true := by kernel_rfl
@[simp] theorem conc_32 : Tryd.prog.concrete 32 = true := by kernel_rfl
@[simp] theorem zero_32 : azero Tryd.prog 32 = some [.nilFunc] := by kernel_rfl
@[simp] theorem nils_32 : nilPos Tryd.prog 32 = [] := by kernel_rfl
@[simp] theorem app_32 : appOk Tryd.prog 32 = true := by kernel_rfl
@[simp] theorem eby_32 : ebytes Tryd.prog 32 = 8 := by kernel_rfl
@[simp] theorem info_33 : (Tryd.prog.info? 33).isSome = true := by kernel_rfl
@[simp] theorem agg_33 : aggO Tryd.prog 33 = some false := by kernel_rfl
@[simp] theorem esz_33 : esz Tryd.prog 33 = 1 := by kernel_rfl
@[simp] theorem funct_33 : funcT Tryd.prog 33 = true := by kernel_rfl
@[simp] theorem conc_33 : Tryd.prog.concrete 33 = true := by kernel_rfl
@[simp] theorem zero_33 : azero Tryd.prog 33 = some [.nilFunc] := by kernel_rfl
@[simp] theorem nils_33 : nilPos Tryd.prog 33 = [] := by kernel_rfl
@[simp] theorem app_33 : appOk Tryd.prog 33 = true := by kernel_rfl
@[simp] theorem eby_33 : ebytes Tryd.prog 33 = 8 := by kernel_rfl
@[simp] theorem info_34 : (Tryd.prog.info? 34).isSome = true := by kernel_rfl
@[simp] theorem agg_34 : aggO Tryd.prog 34 = some false := by kernel_rfl
@[simp] theorem esz_34 : esz Tryd.prog 34 = 1 := by kernel_rfl
@[simp] theorem funct_34 : funcT Tryd.prog 34 = true := by kernel_rfl
@[simp] theorem conc_34 : Tryd.prog.concrete 34 = true := by kernel_rfl
@[simp] theorem zero_34 : azero Tryd.prog 34 = some [.nilFunc] := by kernel_rfl
@[simp] theorem nils_34 : nilPos Tryd.prog 34 = [] := by kernel_rfl
@[simp] theorem app_34 : appOk Tryd.prog 34 = true := by kernel_rfl
@[simp] theorem eby_34 : ebytes Tryd.prog 34 = 8 := by kernel_rfl
@[simp] theorem info_35 : (Tryd.prog.info? 35).isSome = true := by kernel_rfl
@[simp] theorem agg_35 : aggO Tryd.prog 35 = some false := by kernel_rfl
@[simp] theorem esz_35 : esz Tryd.prog 35 = 1 := by kernel_rfl
@[simp] theorem funct_35 : funcT Tryd.prog 35 = true := by kernel_rfl
@[simp] theorem conc_35 : Tryd.prog.concrete 35 = true := by kernel_rfl
@[simp] theorem zero_35 : azero Tryd.prog 35 = some [.nilFunc] := by kernel_rfl
@[simp] theorem nils_35 : nilPos Tryd.prog 35 = [] := by kernel_rfl
@[simp] theorem app_35 : appOk Tryd.prog 35 = true := by kernel_rfl
@[simp] theorem eby_35 : ebytes Tryd.prog 35 = 8 := by kernel_rfl
@[simp] theorem info_36 : (Tryd.prog.info? 36).isSome = true := by kernel_rfl
@[simp] theorem agg_36 : aggO Tryd.prog 36 = some false := by kernel_rfl
@[simp] theorem esz_36 : esz Tryd.prog 36 = 1 := by kernel_rfl
@[simp] theorem elem_36 : elemT Tryd.prog 36 = some 9 := by kernel_rfl
@[simp] theorem conc_36 : Tryd.prog.concrete 36 = true := by kernel_rfl
@[simp] theorem zero_36 : azero Tryd.prog 36 = some [.slice []] := by kernel_rfl
@[simp] theorem nils_36 : nilPos Tryd.prog 36 = [0] := by kernel_rfl
@[simp] theorem app_36 : appOk Tryd.prog 36 = true := by kernel_rfl
@[simp] theorem eby_36 : ebytes Tryd.prog 36 = 24 := by kernel_rfl
@[simp] theorem info_37 : (Tryd.prog.info? 37).isSome = true := by kernel_rfl
@[simp] theorem agg_37 : aggO Tryd.prog 37 = some true := by kernel_rfl
@[simp] theorem esz_37 : esz Tryd.prog 37 = 7 := by kernel_rfl
@[simp] theorem arrt_37 : arrT Tryd.prog 37 = some (7, 9) := by kernel_rfl
@[simp] theorem conc_37 : Tryd.prog.concrete 37 = true := by kernel_rfl
@[simp] theorem zero_37 : azero Tryd.prog 37 = some [.str [], .str [], .str [], .str [], .str [], .str [], .str []] := by kernel_rfl
@[simp] theorem nils_37 : nilPos Tryd.prog 37 = [] := by kernel_rfl
@[simp] theorem app_37 : appOk Tryd.prog 37 = true := by kernel_rfl
@[simp] theorem eby_37 : ebytes Tryd.prog 37 = 112 := by kernel_rfl
@[simp] theorem info_39 : (Tryd.prog.info? 39).isSome = true := by kernel_rfl
@[simp] theorem agg_39 : aggO Tryd.prog 39 = some false := by kernel_rfl
@[simp] theorem esz_39 : esz Tryd.prog 39 = 1 := by kernel_rfl
@[simp] theorem funct_39 : funcT Tryd.prog 39 = true := by kernel_rfl
@[simp] theorem conc_39 : Tryd.prog.concrete 39 = true := by kernel_rfl
@[simp] theorem zero_39 : azero Tryd.prog 39 = some [.nilFunc] := by kernel_rfl
@[simp] theorem nils_39 : nilPos Tryd.prog 39 = [] := by kernel_rfl
@[simp] theorem app_39 : appOk Tryd.prog 39 = true := by kernel_rfl
@[simp] theorem eby_39 : ebytes Tryd.prog 39 = 8 := by kernel_rfl
@[simp] theorem info_40 : (Tryd.prog.info? 40).isSome = true := by kernel_rfl
@[simp] theorem agg_40 : aggO Tryd.prog 40 = some false := by kernel_rfl
@[simp] theorem esz_40 : esz Tryd.prog 40 = 1 := by kernel_rfl
@[simp] theorem ifacet_40 : ifaceT Tryd.prog 40 = true := by kernel_rfl
@[simp] theorem zero_40 : azero Tryd.prog 40 = some [.nilIface] := by kernel_rfl
@[simp] theorem nils_40 : nilPos Tryd.prog 40 = [] := by kernel_rfl
@[simp] theorem app_40 : appOk Tryd.prog 40 = true := by kernel_rfl
@[simp] theorem eby_40 : ebytes Tryd.prog 40 = 16 := by kernel_rfl
@[simp] theorem info_41 : (Tryd.prog.info? 41).isSome = true := by kernel_rfl
@[simp] theorem agg_41 : aggO Tryd.prog 41 = some false := by kernel_rfl
@[simp] theorem esz_41 : esz Tryd.prog 41 = 1 := by kernel_rfl
@[simp] theorem ifacet_41 : ifaceT Tryd.prog 41 = true := by kernel_rfl
@[simp] theorem zero_41 : azero Tryd.prog 41 = some [.nilIface] := by kernel_rfl
@[simp] theorem nils_41 : nilPos Tryd.prog 41 = [] := by kernel_rfl
@[simp] theorem app_41 : appOk Tryd.prog 41 = true := by kernel_rfl
@[simp] theorem eby_41 : ebytes Tryd.prog 41 = 16 := by kernel_rfl
@[simp] theorem info_43 : (Tryd.prog.info? 43).isSome = true := by kernel_rfl
@[simp] theorem agg_43 : aggO Tryd.prog 43 = some false := by kernel_rfl
@[simp] theorem esz_43 : esz Tryd.prog 43 = 1 := by kernel_rfl
@[simp] theorem funct_43 : funcT Tryd.prog 43 = true := by kernel_rfl
@[simp] theorem conc_43 : Tryd.prog.concrete 43 = true := by kernel_rfl
@[simp] theorem zero_43 : azero Tryd.prog 43 = some [.nilFunc] := by kernel_rfl
@[simp] theorem nils_43 : nilPos Tryd.prog 43 = [] := by kernel_rfl
@[simp] theorem app_43 : appOk Tryd.prog 43 = true := by kernel_rfl
@[simp] theorem eby_43 : ebytes Tryd.prog 43 = 8 := by kernel_rfl
@[simp] theorem info_44 : (Tryd.prog.info? 44).isSome = true := by kernel_rfl
@[simp] theorem agg_44 : aggO Tryd.prog 44 = some false := by kernel_rfl
@[simp] theorem esz_44 : esz Tryd.prog 44 = 1 := by kernel_rfl
@[simp] theorem funct_44 : funcT Tryd.prog 44 = true := by kernel_rfl
@[simp] theorem conc_44 : Tryd.prog.concrete 44 = true := by kernel_rfl
@[simp] theorem zero_44 : azero Tryd.prog 44 = some [.nilFunc] := by kernel_rfl
@[simp] theorem nils_44 : nilPos Tryd.prog 44 = [] := by kernel_rfl
@[simp] theorem app_44 : appOk Tryd.prog 44 = true := by kernel_rfl
@[simp] theorem eby_44 : ebytes Tryd.prog 44 = 8 := by kernel_rfl
@[simp] theorem info_45 : (Tryd.prog.info? 45).isSome = true := by kernel_rfl
@[simp] theorem agg_45 : aggO Tryd.prog 45 = some false := by kernel_rfl
@[simp] theorem esz_45 : esz Tryd.prog 45 = 1 := by kernel_rfl
@[simp] theorem funct_45 : funcT Tryd.prog 45 = true := by kernel_rfl
@[simp] theorem conc_45 : Tryd.prog.concrete 45 = true := by kernel_rfl
@[simp] theorem zero_45 : azero Tryd.prog 45 = some [.nilFunc] := by kernel_rfl
@[simp] theorem nils_45 : nilPos Tryd.prog 45 = [] := by kernel_rfl
@[simp] theorem app_45 : appOk Tryd.prog 45 = true := by kernel_rfl
@[simp] theorem eby_45 : ebytes Tryd.prog 45 = 8 := by kernel_rfl
@[simp] theorem info_46 : (Tryd.prog.info? 46).isSome = true := by kernel_rfl
@[simp] theorem agg_46 : aggO Tryd.prog 46 = some false := by kernel_rfl
@[simp] theorem esz_46 : esz Tryd.prog 46 = 1 := by kernel_rfl
@[simp] theorem funct_46 : funcT Tryd.prog 46 = true := by kernel_rfl
@[simp] theorem conc_46 : Tryd.prog.concrete 46 = true := by kernel_rfl
@[simp] theorem zero_46 : azero Tryd.prog 46 = some [.nilFunc] := by kernel_rfl
@[simp] theorem nils_46 : nilPos Tryd.prog 46 = [] := by kernel_rfl
@[simp] theorem app_46 : appOk Tryd.prog 46 = true := by kernel_rfl
@[simp] theorem eby_46 : ebytes Tryd.prog 46 = 8 := by kernel_rfl
@[simp] theorem info_47 : (Tryd.prog.info? 47).isSome = true := by kernel_rfl
@[simp] theorem agg_47 : aggO Tryd.prog 47 = some false := by kernel_rfl
@[simp] theorem esz_47 : esz Tryd.prog 47 = 1 := by kernel_rfl
@[simp] theorem elem_47 : elemT Tryd.prog 47 = some 5 := by kernel_rfl
@[simp] theorem bytest_47 : bytesT Tryd.prog 47 = true := by kernel_rfl
@[simp] theorem conc_47 : Tryd.prog.concrete 47 = true := by kernel_rfl
@[simp] theorem zero_47 : azero Tryd.prog 47 = some [.slice []] := by kernel_rfl
@[simp] theorem nils_47 : nilPos Tryd.prog 47 = [0] := by kernel_rfl
@[simp] theorem app_47 : appOk Tryd.prog 47 = true := by kernel_rfl
@[simp] theorem eby_47 : ebytes Tryd.prog 47 = 24 := by kernel_rfl
@[simp] theorem info_48 : (Tryd.prog.info? 48).isSome = true := by kernel_rfl
@[simp] theorem agg_48 : aggO Tryd.prog 48 = some false := by kernel_rfl
@[simp] theorem esz_48 : esz Tryd.prog 48 = 1 := by kernel_rfl
@[simp] theorem funct_48 : funcT Tryd.prog 48 = true := by kernel_rfl
@[simp] theorem conc_48 : Tryd.prog.concrete 48 = true := by kernel_rfl
@[simp] theorem zero_48 : azero Tryd.prog 48 = some [.nilFunc] := by kernel_rfl
@[simp] theorem nils_48 : nilPos Tryd.prog 48 = [] := by kernel_rfl
@[simp] theorem app_48 : appOk Tryd.prog 48 = true := by kernel_rfl
@[simp] theorem eby_48 : ebytes Tryd.prog 48 = 8 := by kernel_rfl
@[simp] theorem info_49 : (Tryd.prog.info? 49).isSome = true := by kernel_rfl
@[simp] theorem agg_49 : aggO Tryd.prog 49 = some false := by kernel_rfl
@[simp] theorem esz_49 : esz Tryd.prog 49 = 1 := by kernel_rfl
@[simp] theorem funct_49 : funcT Tryd.prog 49 = true := by kernel_rfl
@[simp] theorem conc_49 : Tryd.prog.concrete 49 = true := by kernel_rfl
@[simp] theorem zero_49 : azero Tryd.prog 49 = some [.nilFunc] := by kernel_rfl
@[simp] theorem nils_49 : nilPos Tryd.prog 49 = [] := by kernel_rfl
@[simp] theorem app_49 : appOk Tryd.prog 49 = true := by kernel_rfl
@[simp] theorem eby_49 : ebytes Tryd.prog 49 = 8 := by kernel_rfl
@[simp] theorem info_50 : (Tryd.prog.info? 50).isSome = true := by kernel_rfl
@[simp] theorem agg_50 : aggO Tryd.prog 50 = some false := by kernel_rfl
@[simp] theorem esz_50 : esz Tryd.prog 50 = 1 := by kernel_rfl
@[simp] theorem funct_50 : funcT Tryd.prog 50 = true := by kernel_rfl
@[simp] theorem conc_50 : Tryd.prog.concrete 50 = true := by kernel_rfl
@[simp] theorem zero_50 : azero Tryd.prog 50 = some [.nilFunc] := by kernel_rfl
@[simp] theorem nils_50 : nilPos Tryd.prog 50 = [] := by kernel_rfl
@[simp] theorem app_50 : appOk Tryd.prog 50 = true := by kernel_rfl
@[simp] theorem eby_50 : ebytes Tryd.prog 50 = 8 := by kernel_rfl
@[simp] theorem info_51 : (Tryd.prog.info? 51).isSome = true := by kernel_rfl
@[simp] theorem agg_51 : aggO Tryd.prog 51 = some false := by kernel_rfl
@[simp] theorem esz_51 : esz Tryd.prog 51 = 1 := by kernel_rfl
@[simp] theorem ikind_51 : ikind Tryd.prog 51 = some .i64 := by kernel_rfl
@[simp] theorem under_51 : Tryd.prog.underlying 51 = some (.int .i64) := by kernel_rfl
@[simp] theorem conc_51 : Tryd.prog.concrete 51 = true := by kernel_rfl
@[simp] theorem zero_51 : azero Tryd.prog 51 = some [.int .i64 0] := by kernel_rfl
@[simp] theorem nils_51 : nilPos Tryd.prog 51 = [] := by kernel_rfl
@[simp] theorem app_51 : appOk Tryd.prog 51 = true := by kernel_rfl
@[simp] theorem eby_51 : ebytes Tryd.prog 51 = 8 := by kernel_rfl
@[simp] theorem info_53 : (Tryd.prog.info? 53).isSome = true := by kernel_rfl
@[simp] theorem agg_53 : aggO Tryd.prog 53 = some false := by kernel_rfl
@[simp] theorem esz_53 : esz Tryd.prog 53 = 1 := by kernel_rfl
@[simp] theorem funct_53 : funcT Tryd.prog 53 = true := by kernel_rfl
@[simp] theorem conc_53 : Tryd.prog.concrete 53 = true := by kernel_rfl
@[simp] theorem zero_53 : azero Tryd.prog 53 = some [.nilFunc] := by kernel_rfl
@[simp] theorem nils_53 : nilPos Tryd.prog 53 = [] := by kernel_rfl
@[simp] theorem app_53 : appOk Tryd.prog 53 = true := by kernel_rfl
@[simp] theorem eby_53 : ebytes Tryd.prog 53 = 8 := by kernel_rfl
@[simp] theorem info_54 : (Tryd.prog.info? 54).isSome = true := by kernel_rfl
@[simp] theorem agg_54 : aggO Tryd.prog 54 = some false := by kernel_rfl
@[simp] theorem esz_54 : esz Tryd.prog 54 = 1 := by kernel_rfl
@[simp] theorem conc_54 : Tryd.prog.concrete 54 = true := by kernel_rfl
@[simp] theorem zero_54 : azero Tryd.prog 54 = some [.nilPtr] := by kernel_rfl
@[simp] theorem nils_54 : nilPos Tryd.prog 54 = [] := by kernel_rfl
@[simp] theorem app_54 : appOk Tryd.prog 54 = true := by kernel_rfl
@[simp] theorem eby_54 : ebytes Tryd.prog 54 = 8 := by kernel_rfl
@[simp] theorem info_55 : (Tryd.prog.info? 55).isSome = true := by kernel_rfl
@[simp] theorem agg_55 : aggO Tryd.prog 55 = some false := by kernel_rfl
@[simp] theorem esz_55 : esz Tryd.prog 55 = 1 := by kernel_rfl
@[simp] theorem funct_55 : funcT Tryd.prog 55 = true := by kernel_rfl
@[simp] theorem conc_55 : Tryd.prog.concrete 55 = true := by kernel_rfl
@[simp] theorem zero_55 : azero Tryd.prog 55 = some [.nilFunc] := by kernel_rfl
@[simp] theorem nils_55 : nilPos Tryd.prog 55 = [] := by kernel_rfl
@[simp] theorem app_55 : appOk Tryd.prog 55 = true := by kernel_rfl
@[simp] theorem eby_55 : ebytes Tryd.prog 55 = 8 := by kernel_rfl
@[simp] theorem info_56 : (Tryd.prog.info? 56).isSome = true := by kernel_rfl
@[simp] theorem agg_56 : aggO Tryd.prog 56 = some false := by kernel_rfl
@[simp] theorem esz_56 : esz Tryd.prog 56 = 1 := by kernel_rfl
@[simp] theorem funct_56 : funcT Tryd.prog 56 = true := by kernel_rfl
@[simp] theorem conc_56 : Tryd.prog.concrete 56 = true := by kernel_rfl
@[simp] theorem zero_56 : azero Tryd.prog 56 = some [.nilFunc] := by kernel_rfl
@[simp] theorem nils_56 : nilPos Tryd.prog 56 = [] := by kernel_rfl
@[simp] theorem app_56 : appOk Tryd.prog 56 = true := by kernel_rfl
@[simp] theorem eby_56 : ebytes Tryd.prog 56 = 8 := by kernel_rfl
@[simp] theorem info_57 : (Tryd.prog.info? 57).isSome = true := by kernel_rfl
@[simp] theorem agg_57 : aggO Tryd.prog 57 = some true := by kernel_rfl
@[simp] theorem esz_57 : esz Tryd.prog 57 = 24 := by kernel_rfl
@[simp] theorem arrt_57 : arrT Tryd.prog 57 = some (24, 5) := by kernel_rfl
@[simp] theorem conc_57 : Tryd.prog.concrete 57 = true := by kernel_rfl
@[simp] theorem zero_57 : azero Tryd.prog 57 = some [.int .u8 0, .int .u8 0, .int .u8 0, .int .u8 0, .int .u8 0, .int .u8 0, .int .u8 0, .int .u8 0, .int .u8 0, .int .u8 0, .int .u8 0, .int .u8 0, .int .u8 0, .int .u8 0, .int .u8 0, .int .u8 0, .int .u8 0, .int .u8 0, .int .u8 0, .int .u8 0, .int .u8 0, .int .u8 0, .int .u8 0, .int .u8 0] := by kernel_rfl
@[simp] theorem nils_57 : nilPos Tryd.prog 57 = [] := by kernel_rfl
@[simp] theorem app_57 : appOk Tryd.prog 57 = true := by kernel_rfl
@[simp] theorem eby_57 : ebytes Tryd.prog 57 = 24 := by kernel_rfl
@[simp] theorem info_58 : (Tryd.prog.info? 58).isSome = true := by kernel_rfl
@[simp] theorem agg_58 : aggO Tryd.prog 58 = some false := by kernel_rfl
@[simp] theorem esz_58 : esz Tryd.prog 58 = 1 := by kernel_rfl
@[simp] theorem ikind_58 : ikind Tryd.prog 58 = some .u64 := by kernel_rfl
@[simp] theorem under_58 : Tryd.prog.underlying 58 = some (.int .u64) := by kernel_rfl
@[simp] theorem conc_58 : Tryd.prog.concrete 58 = true := by kernel_rfl
@[simp] theorem zero_58 : azero Tryd.prog 58 = some [.int .u64 0] := by kernel_rfl
@[simp] theorem nils_58 : nilPos Tryd.prog 58 = [] := by kernel_rfl
@[simp] theorem app_58 : appOk Tryd.prog 58 = true := by kernel_rfl
@[simp] theorem eby_58 : ebytes Tryd.prog 58 = 8 := by kernel_rfl
@[simp] theorem info_59 : (Tryd.prog.info? 59).isSome = true := by kernel_rfl
@[simp] theorem agg_59 : aggO Tryd.prog 59 = some false := by kernel_rfl
@[simp] theorem esz_59 : esz Tryd.prog 59 = 1 := by kernel_rfl
@[simp] theorem funct_59 : funcT Tryd.prog 59 = true := by kernel_rfl
@[simp] theorem conc_59 : Tryd.prog.concrete 59 = true := by kernel_rfl
@[simp] theorem zero_59 : azero Tryd.prog 59 = some [.nilFunc] := by kernel_rfl
@[simp] theorem nils_59 : nilPos Tryd.prog 59 = [] := by kernel_rfl
@[simp] theorem app_59 : appOk Tryd.prog 59 = true := by kernel_rfl
@[simp] theorem eby_59 : ebytes Tryd.prog 59 = 8 := by kernel_rfl
@[simp] theorem info_60 : (Tryd.prog.info? 60).isSome = true := by kernel_rfl
@[simp] theorem agg_60 : aggO Tryd.prog 60 = some false := by kernel_rfl
@[simp] theorem esz_60 : esz Tryd.prog 60 = 1 := by kernel_rfl
@[simp] theorem funct_60 : funcT Tryd.prog 60 = true := by kernel_rfl
@[simp] theorem conc_60 : Tryd.prog.concrete 60 = true := by kernel_rfl
@[simp] theorem zero_60 : azero Tryd.prog 60 = some [.nilFunc] := by kernel_rfl
@[simp] theorem nils_60 : nilPos Tryd.prog 60 = [] := by kernel_rfl
@[simp] theorem app_60 : appOk Tryd.prog 60 = true := by kernel_rfl
@[simp] theorem eby_60 : ebytes Tryd.prog 60 = 8 := by kernel_rfl
@[simp] theorem info_62 : (Tryd.prog.info? 62).isSome = true := by kernel_rfl
@[simp] theorem agg_62 : aggO Tryd.prog 62 = some false := by kernel_rfl
@[simp] theorem esz_62 : esz Tryd.prog 62 = 1 := by kernel_rfl
@[simp] theorem funct_62 : funcT Tryd.prog 62 = true := by kernel_rfl
@[simp] theorem conc_62 : Tryd.prog.concrete 62 = true := by kernel_rfl
@[simp] theorem zero_62 : azero Tryd.prog 62 = some [.nilFunc] := by kernel_rfl
@[simp] theorem nils_62 : nilPos Tryd.prog 62 = [] := by kernel_rfl
@[simp] theorem app_62 : appOk Tryd.prog 62 = true := by kernel_rfl
@[simp] theorem eby_62 : ebytes Tryd.prog 62 = 8 := by kernel_rfl
@[simp] theorem info_64 : (Tryd.prog.info? 64).isSome = true := by kernel_rfl
@[simp] theorem agg_64 : aggO Tryd.prog 64 = some false := by kernel_rfl
@[simp] theorem esz_64 : esz Tryd.prog 64 = 1 := by kernel_rfl
@[simp] theorem funct_64 : funcT Tryd.prog 64 = true := by kernel_rfl
@[simp] theorem conc_64 : Tryd.prog.concrete 64 = true := by kernel_rfl
@[simp] theorem zero_64 : azero Tryd.prog 64 = some [.nilFunc] := by kernel_rfl
@[simp] theorem nils_64 : nilPos Tryd.prog 64 = [] := by kernel_rfl
@[simp] theorem app_64 : appOk Tryd.prog 64 = true := by kernel_rfl
@[simp] theorem eby_64 : ebytes Tryd.prog 64 = 8 := by kernel_rfl
@[simp] theorem info_65 : (Tryd.prog.info? 65).isSome = true := by kernel_rfl
@[simp] theorem agg_65 : aggO Tryd.prog 65 = some false := by kernel_rfl
@[simp] theorem esz_65 : esz Tryd.prog 65 = 1 := by kernel_rfl
@[simp] theorem ikind_65 : ikind Tryd.prog 65 = some .u64 := by kernel_rfl
@[simp] theorem under_65 : Tryd.prog.underlying 65 = some (.int .u64) := by kernel_rfl
@[simp] theorem conc_65 : Tryd.prog.concrete 65 = true := by kernel_rfl
@[simp] theorem zero_65 : azero Tryd.prog 65 = some [.int .u64 0] := by kernel_rfl
@[simp] theorem nils_65 : nilPos Tryd.prog 65 = [] := by kernel_rfl
@[simp] theorem app_65 : appOk Tryd.prog 65 = true := by kernel_rfl
@[simp] theorem eby_65 : ebytes Tryd.prog 65 = 8 := by kernel_rfl
@[simp] theorem info_66 : (Tryd.prog.info? 66).isSome = true := by kernel_rfl
@[simp] theorem agg_66 : aggO Tryd.prog 66 = some false := by kernel_rfl
@[simp] theorem esz_66 : esz Tryd.prog 66 = 1 := by kernel_rfl
@[simp] theorem funct_66 : funcT Tryd.prog 66 = true := by kernel_rfl
@[simp] theorem conc_66 : Tryd.prog.concrete 66 = true := by kernel_rfl
@[simp] theorem zero_66 : azero Tryd.prog 66 = some [.nilFunc] := by kernel_rfl
@[simp] theorem nils_66 : nilPos Tryd.prog 66 = [] := by kernel_rfl
@[simp] theorem app_66 : appOk Tryd.prog 66 = true := by kernel_rfl
@[simp] theorem eby_66 : ebytes Tryd.prog 66 = 8 := by kernel_rfl
@[simp] theorem info_67 : (Tryd.prog.info? 67).isSome = true := by kernel_rfl
@[simp] theorem agg_67 : aggO Tryd.prog 67 = some true := by kernel_rfl
@[simp] theorem esz_67 : esz Tryd.prog 67 = 3 := by kernel_rfl
@[simp] theorem conc_67 : Tryd.prog.concrete 67 = true := by kernel_rfl
@[simp] theorem foff_67_0 : foff Tryd.prog 67 0 = some 0 := by kernel_rfl
@[simp] theorem ftyp_67_0 : ftyp Tryd.prog 67 0 = 9 := by kernel_rfl
@[simp] theorem foff_67_1 : foff Tryd.prog 67 1 = some 1 := by kernel_rfl
@[simp] theorem ftyp_67_1 : ftyp Tryd.prog 67 1 = 9 := by kernel_rfl
@[simp] theorem foff_67_2 : foff Tryd.prog 67 2 = some 2 := by kernel_rfl
@[simp] theorem ftyp_67_2 : ftyp Tryd.prog 67 2 = 41 := by kernel_rfl
@[simp] theorem known_67 : knownF Tryd.prog 67 = true := by kernel_rfl
@[simp] theorem zero_67 : azero Tryd.prog 67 = some [.str [], .str [], .nilIface] := by kernel_rfl
@[simp] theorem nils_67 : nilPos Tryd.prog 67 = [] := by kernel_rfl
@[simp] theorem app_67 : appOk Tryd.prog 67 = true := by kernel_rfl
@[simp] theorem eby_67 : ebytes Tryd.prog 67 = 48 := by kernel_rfl
@[simp] theorem info_68 : (Tryd.prog.info? 68).isSome = true := by kernel_rfl
@[simp] theorem agg_68 : aggO Tryd.prog 68 = some true := by kernel_rfl
@[simp] theorem esz_68 : esz Tryd.prog 68 = 3 := by kernel_rfl
@[simp] theorem conc_68 : Tryd.prog.concrete 68 = true := by kernel_rfl
@[simp] theorem foff_68_0 : foff Tryd.prog 68 0 = some 0 := by kernel_rfl
@[simp] theorem ftyp_68_0 : ftyp Tryd.prog 68 0 = 9 := by kernel_rfl
@[simp] theorem foff_68_1 : foff Tryd.prog 68 1 = some 1 := by kernel_rfl
@[simp] theorem ftyp_68_1 : ftyp Tryd.prog 68 1 = 9 := by kernel_rfl
@[simp] theorem foff_68_2 : foff Tryd.prog 68 2 = some 2 := by kernel_rfl
@[simp] theorem ftyp_68_2 : ftyp Tryd.prog 68 2 = 41 := by kernel_rfl
@[simp] theorem known_68 : knownF Tryd.prog 68 = true := by kernel_rfl
@[simp] theorem zero_68 : azero Tryd.prog 68 = some [.str [], .str [], .nilIface] := by kernel_rfl
@[simp] theorem nils_68 : nilPos Tryd.prog 68 = [] := by kernel_rfl
@[simp] theorem app_68 : appOk Tryd.prog 68 = true := by kernel_rfl
@[simp] theorem eby_68 : ebytes Tryd.prog 68 = 48 := by kernel_rfl
@[simp] theorem info_69 : (Tryd.prog.info? 69).isSome = true := by kernel_rfl
@[simp] theorem agg_69 : aggO Tryd.prog 69 = some false := by kernel_rfl
@[simp] theorem esz_69 : esz Tryd.prog 69 = 1 := by kernel_rfl
@[simp] theorem funct_69 : funcT Tryd.prog 69 = true := by kernel_rfl
@[simp] theorem conc_69 : Tryd.prog.concrete 69 = true := by kernel_rfl
@[simp] theorem zero_69 : azero Tryd.prog 69 = some [.nilFunc] := by kernel_rfl
@[simp] theorem nils_69 : nilPos Tryd.prog 69 = [] := by kernel_rfl
@[simp] theorem app_69 : appOk Tryd.prog 69 = true := by kernel_rfl
@[simp] theorem eby_69 : ebytes Tryd.prog 69 = 8 := by kernel_rfl
@[simp] theorem info_70 : (Tryd.prog.info? 70).isSome = true := by kernel_rfl
@[simp] theorem agg_70 : aggO Tryd.prog 70 = some false := by kernel_rfl
@[simp] theorem esz_70 : esz Tryd.prog 70 = 1 := by kernel_rfl
@[simp] theorem funct_70 : funcT Tryd.prog 70 = true := by kernel_rfl
@[simp] theorem conc_70 : Tryd.prog.concrete 70 = true := by kernel_rfl
@[simp] theorem zero_70 : azero Tryd.prog 70 = some [.nilFunc] := by kernel_rfl
@[simp] theorem nils_70 : nilPos Tryd.prog 70 = [] := by kernel_rfl
@[simp] theorem app_70 : appOk Tryd.prog 70 = true := by kernel_rfl
@[simp] theorem eby_70 : ebytes Tryd.prog 70 = 8 := by kernel_rfl
@[simp] theorem info_71 : (Tryd.prog.info? 71).isSome = true := by kernel_rfl
@[simp] theorem agg_71 : aggO Tryd.prog 71 = some false := by kernel_rfl
@[simp] theorem esz_71 : esz Tryd.prog 71 = 1 := by kernel_rfl
@[simp] theorem funct_71 : funcT Tryd.prog 71 = true := by kernel_rfl
@[simp] theorem conc_71 : Tryd.prog.concrete 71 = true := by kernel_rfl
@[simp] theorem zero_71 : azero Tryd.prog 71 = some [.nilFunc] := by kernel_rfl
@[simp] theorem nils_71 : nilPos Tryd.prog 71 = [] := by kernel_rfl
@[simp] theorem app_71 : appOk Tryd.prog 71 = true := by kernel_rfl
@[simp] theorem eby_71 : ebytes Tryd.prog 71 = 8 := by kernel_rfl
@[simp] theorem info_72 : (Tryd.prog.info? 72).isSome = true := by kernel_rfl
@[simp] theorem agg_72 : aggO Tryd.prog 72 = some true := by kernel_rfl
@[simp] theorem esz_72 : esz Tryd.prog 72 = 20 := by kernel_rfl
@[simp] theorem arrt_72 : arrT Tryd.prog 72 = some (20, 58) := by kernel_rfl
@[simp] theorem conc_72 : Tryd.prog.concrete 72 = true := by kernel_rfl
@[simp] theorem zero_72 : azero Tryd.prog 72 = some [.int .u64 0, .int .u64 0, .int .u64 0, .int .u64 0, .int .u64 0, .int .u64 0, .int .u64 0, .int .u64 0, .int .u64 0, .int .u64 0, .int .u64 0, .int .u64 0, .int .u64 0, .int .u64 0, .int .u64 0, .int .u64 0, .int .u64 0, .int .u64 0, .int .u64 0, .int .u64 0] := by kernel_rfl
@[simp] theorem nils_72 : nilPos Tryd.prog 72 = [] := by kernel_rfl
@[simp] theorem app_72 : appOk Tryd.prog 72 = true := by kernel_rfl
@[simp] theorem eby_72 : ebytes Tryd.prog 72 = 160 := by kernel_rfl
@[simp] theorem info_73 : (Tryd.prog.info? 73).isSome = true := by kernel_rfl
@[simp] theorem agg_73 : aggO Tryd.prog 73 = some false := by kernel_rfl
@[simp] theorem esz_73 : esz Tryd.prog 73 = 1 := by kernel_rfl
@[simp] theorem ikind_73 : ikind Tryd.prog 73 = some .u32 := by kernel_rfl
@[simp] theorem under_73 : Tryd.prog.underlying 73 = some (.int .u32) := by kernel_rfl
@[simp] theorem conc_73 : Tryd.prog.concrete 73 = true := by kernel_rfl
@[simp] theorem zero_73 : azero Tryd.prog 73 = some [.int .u32 0] := by kernel_rfl
@[simp] theorem nils_73 : nilPos Tryd.prog 73 = [] := by kernel_rfl
@[simp] theorem app_73 : appOk Tryd.prog 73 = true := by kernel_rfl
@[simp] theorem eby_73 : ebytes Tryd.prog 73 = 4 := by kernel_rfl
@[simp] theorem info_74 : (Tryd.prog.info? 74).isSome = true := by kernel_rfl
@[simp] theorem agg_74 : aggO Tryd.prog 74 = some true := by kernel_rfl
@[simp] theorem esz_74 : esz Tryd.prog 74 = 65 := by kernel_rfl
@[simp] theorem arrt_74 : arrT Tryd.prog 74 = some (65, 5) := by kernel_rfl
@[simp] theorem conc_74 : Tryd.prog.concrete 74 = true := by kernel_rfl
@[simp] theorem zero_74 : azero Tryd.prog 74 = some [.int .u8 0, .int .u8 0, .int .u8 0, .int .u8 0, .int .u8 0, .int .u8 0, .int .u8 0, .int .u8 0, .int .u8 0, .int .u8 0, .int .u8 0, .int .u8 0, .int .u8 0, .int .u8 0, .int .u8 0, .int .u8 0, .int .u8 0, .int .u8 0, .int .u8 0, .int .u8 0, .int .u8 0, .int .u8 0, .int .u8 0, .int .u8 0, .int .u8 0, .int .u8 0, .int .u8 0, .int .u8 0, .int .u8 0, .int .u8 0, .int .u8 0, .int .u8 0, .int .u8 0, .int .u8 0, .int .u8 0, .int .u8 0, .int .u8 0, .int .u8 0, .int .u8 0, .int .u8 0, .int .u8 0, .int .u8 0, .int .u8 0, .int .u8 0, .int .u8 0, .int .u8 0, .int .u8 0, .int .u8 0, .int .u8 0, .int .u8 0, .int .u8 0, .int .u8 0, .int .u8 0, .int .u8 0, .int .u8 0, .int .u8 0, .int .u8 0, .int .u8 0, .int .u8 0, .int .u8 0, .int .u8 0, .int .u8 0, .int .u8 0, .int .u8 0, .int .u8 0] := by kernel_rfl
@[simp] theorem nils_74 : nilPos Tryd.prog 74 = [] := by kernel_rfl
@[simp] theorem app_74 : appOk Tryd.prog 74 = true := by kernel_rfl
@[simp] theorem eby_74 : ebytes Tryd.prog 74 = 65 := by kernel_rfl
@[simp] theorem info_75 : (Tryd.prog.info? 75).isSome = true := by kernel_rfl
@[simp] theorem agg_75 : aggO Tryd.prog 75 = some false := by kernel_rfl
@[simp] theorem esz_75 : esz Tryd.prog 75 = 1 := by kernel_rfl
@[simp] theorem funct_75 : funcT Tryd.prog 75 = true := by kernel_rfl
@[simp] theorem conc_75 : Tryd.prog.concrete 75 = true := by kernel_rfl
@[simp] theorem zero_75 : azero Tryd.prog 75 = some [.nilFunc] := by kernel_rfl
@[simp] theorem nils_75 : nilPos Tryd.prog 75 = [] := by kernel_rfl
@[simp] theorem app_75 : appOk Tryd.prog 75 = true := by kernel_rfl
@[simp] theorem eby_75 : ebytes Tryd.prog 75 = 8 := by kernel_rfl
@[simp] theorem info_76 : (Tryd.prog.info? 76).isSome = true := by kernel_rfl
@[simp] theorem agg_76 : aggO Tryd.prog 76 = some false := by kernel_rfl
@[simp] theorem esz_76 : esz Tryd.prog 76 = 1 := by kernel_rfl
@[simp] theorem funct_76 : funcT Tryd.prog 76 = true := by kernel_rfl
@[simp] theorem conc_76 : Tryd.prog.concrete 76 = true := by kernel_rfl
@[simp] theorem zero_76 : azero Tryd.prog 76 = some [.nilFunc] := by kernel_rfl
@[simp] theorem nils_76 : nilPos Tryd.prog 76 = [] := by kernel_rfl
@[simp] theorem app_76 : appOk Tryd.prog 76 = true := by kernel_rfl
@[simp] theorem eby_76 : ebytes Tryd.prog 76 = 8 := by kernel_rfl
@[simp] theorem info_77 : (Tryd.prog.info? 77).isSome = true := by kernel_rfl
@[simp] theorem agg_77 : aggO Tryd.prog 77 = some false := by kernel_rfl
@[simp] theorem esz_77 : esz Tryd.prog 77 = 1 := by kernel_rfl
@[simp] theorem conc_77 : Tryd.prog.concrete 77 = true := by kernel_rfl
@[simp] theorem zero_77 : azero Tryd.prog 77 = some [.nilPtr] := by kernel_rfl
@[simp] theorem nils_77 : nilPos Tryd.prog 77 = [] := by kernel_rfl
@[simp] theorem app_77 : appOk Tryd.prog 77 = true := by kernel_rfl
@[simp] theorem eby_77 : ebytes Tryd.prog 77 = 8 := by kernel_rfl
@[simp] theorem info_78 : (Tryd.prog.info? 78).isSome = true := by kernel_rfl
@[simp] theorem agg_78 : aggO Tryd.prog 78 = some false := by kernel_rfl
@[simp] theorem esz_78 : esz Tryd.prog 78 = 1 := by kernel_rfl
@[simp] theorem conc_78 : Tryd.prog.concrete 78 = true := by kernel_rfl
@[simp] theorem zero_78 : azero Tryd.prog 78 = some [.nilPtr] := by kernel_rfl
@[simp] theorem nils_78 : nilPos Tryd.prog 78 = [] := by kernel_rfl
@[simp] theorem app_78 : appOk Tryd.prog 78 = true := by kernel_rfl
@[simp] theorem eby_78 : ebytes Tryd.prog 78 = 8 := by kernel_rfl
@[simp] theorem info_79 : (Tryd.prog.info? 79).isSome = true := by kernel_rfl
@[simp] theorem agg_79 : aggO Tryd.prog 79 = some true := by kernel_rfl
@[simp] theorem esz_79 : esz Tryd.prog 79 = 1 := by kernel_rfl
@[simp] theorem conc_79 : Tryd.prog.concrete 79 = true := by kernel_rfl
@[simp] theorem foff_79_0 : foff Tryd.prog 79 0 = some 0 := by kernel_rfl
@[simp] theorem ftyp_79_0 : ftyp Tryd.prog 79 0 = 9 := by kernel_rfl
@[simp] theorem known_79 : knownF Tryd.prog 79 = true := by kernel_rfl
@[simp] theorem zero_79 : azero Tryd.prog 79 = some [.str []] := by kernel_rfl
@[simp] theorem nils_79 : nilPos Tryd.prog 79 = [] := by kernel_rfl
@[simp] theorem app_79 : appOk Tryd.prog 79 = true := by kernel_rfl
@[simp] theorem eby_79 : ebytes Tryd.prog 79 = 16 := by kernel_rfl
@[simp] theorem info_80 : (Tryd.prog.info? 80).isSome = true := by kernel_rfl
@[simp] theorem agg_80 : aggO Tryd.prog 80 = some true := by kernel_rfl
@[simp] theorem esz_80 : esz Tryd.prog 80 = 1 := by kernel_rfl
@[simp] theorem conc_80 : Tryd.prog.concrete 80 = true := by kernel_rfl
@[simp] theorem foff_80_0 : foff Tryd.prog 80 0 = some 0 := by kernel_rfl
@[simp] theorem ftyp_80_0 : ftyp Tryd.prog 80 0 = 9 := by kernel_rfl
@[simp] theorem known_80 : knownF Tryd.prog 80 = true := by kernel_rfl
@[simp] theorem zero_80 : azero Tryd.prog 80 = some [.str []] := by kernel_rfl
@[simp] theorem nils_80 : nilPos Tryd.prog 80 = [] := by kernel_rfl
@[simp] theorem app_80 : appOk Tryd.prog 80 = true := by kernel_rfl
@[simp] theorem eby_80 : ebytes Tryd.prog 80 = 16 := by kernel_rfl
@[simp] theorem info_81 : (Tryd.prog.info? 81).isSome = true := by kernel_rfl
@[simp] theorem agg_81 : aggO Tryd.prog 81 = some false := by kernel_rfl
@[simp] theorem esz_81 : esz Tryd.prog 81 = 1 := by kernel_rfl
@[simp] theorem funct_81 : funcT Tryd.prog 81 = true := by kernel_rfl
@[simp] theorem conc_81 : Tryd.prog.concrete 81 = true := by kernel_rfl
@[simp] theorem zero_81 : azero Tryd.prog 81 = some [.nilFunc] := by kernel_rfl
@[simp] theorem nils_81 : nilPos Tryd.prog 81 = [] := by kernel_rfl
@[simp] theorem app_81 : appOk Tryd.prog 81 = true := by kernel_rfl
@[simp] theorem eby_81 : ebytes Tryd.prog 81 = 8 := by kernel_rfl
@[simp] theorem info_82 : (Tryd.prog.info? 82).isSome = true := by kernel_rfl
@[simp] theorem agg_82 : aggO Tryd.prog 82 = some true := by kernel_rfl
@[simp] theorem esz_82 : esz Tryd.prog 82 = 32 := by kernel_rfl
@[simp] theorem arrt_82 : arrT Tryd.prog 82 = some (32, 5) := by kernel_rfl
@[simp] theorem conc_82 : Tryd.prog.concrete 82 = true := by kernel_rfl
@[simp] theorem zero_82 : azero Tryd.prog 82 = some [.int .u8 0, .int .u8 0, .int .u8 0, .int .u8 0, .int .u8 0, .int .u8 0, .int .u8 0, .int .u8 0, .int .u8 0, .int .u8 0, .int .u8 0, .int .u8 0, .int .u8 0, .int .u8 0, .int .u8 0, .int .u8 0, .int .u8 0, .int .u8 0, .int .u8 0, .int .u8 0, .int .u8 0, .int .u8 0, .int .u8 0, .int .u8 0, .int .u8 0, .int .u8 0, .int .u8 0, .int .u8 0, .int .u8 0, .int .u8 0, .int .u8 0, .int .u8 0] := by kernel_rfl
@[simp] theorem nils_82 : nilPos Tryd.prog 82 = [] := by kernel_rfl
@[simp] theorem app_82 : appOk Tryd.prog 82 = true := by kernel_rfl
@[simp] theorem eby_82 : ebytes Tryd.prog 82 = 32 := by kernel_rfl
@[simp] theorem info_83 : (Tryd.prog.info? 83).isSome = true := by kernel_rfl
@[simp] theorem agg_83 : aggO Tryd.prog 83 = some true := by kernel_rfl
@[simp] theorem esz_83 : esz Tryd.prog 83 = 64 := by kernel_rfl
@[simp] theorem arrt_83 : arrT Tryd.prog 83 = some (64, 5) := by kernel_rfl
@[simp] theorem conc_83 : Tryd.prog.concrete 83 = true := by kernel_rfl
@[simp] theorem zero_83 : azero Tryd.prog 83 = some [.int .u8 0, .int .u8 0, .int .u8 0, .int .u8 0, .int .u8 0, .int .u8 0, .int .u8 0, .int .u8 0, .int .u8 0, .int .u8 0, .int .u8 0, .int .u8 0, .int .u8 0, .int .u8 0, .int .u8 0, .int .u8 0, .int .u8 0, .int .u8 0, .int .u8 0, .int .u8 0, .int .u8 0, .int .u8 0, .int .u8 0, .int .u8 0, .int .u8 0, .int .u8 0, .int .u8 0, .int .u8 0, .int .u8 0, .int .u8 0, .int .u8 0, .int .u8 0, .int .u8 0, .int .u8 0, .int .u8 0, .int .u8 0, .int .u8 0, .int .u8 0, .int .u8 0, .int .u8 0, .int .u8 0, .int .u8 0, .int .u8 0, .int .u8 0, .int .u8 0, .int .u8 0, .int .u8 0, .int .u8 0, .int .u8 0, .int .u8 0, .int .u8 0, .int .u8 0, .int .u8 0, .int .u8 0, .int .u8 0, .int .u8 0, .int .u8 0, .int .u8 0, .int .u8 0, .int .u8 0, .int .u8 0, .int .u8 0, .int .u8 0, .int .u8 0] := by kernel_rfl
@[simp] theorem nils_83 : nilPos Tryd.prog 83 = [] := by kernel_rfl
@[simp] theorem app_83 : appOk Tryd.prog 83 = true := by kernel_rfl
@[simp] theorem eby_83 : ebytes Tryd.prog 83 = 64 := by kernel_rfl
@[simp] theorem info_84 : (Tryd.prog.info? 84).isSome = true := by kernel_rfl
@[simp] theorem agg_84 : aggO Tryd.prog 84 = some false := by kernel_rfl
@[simp] theorem esz_84 : esz Tryd.prog 84 = 1 := by kernel_rfl
@[simp] theorem funct_84 : funcT Tryd.prog 84 = true := by kernel_rfl
@[simp] theorem conc_84 : Tryd.prog.concrete 84 = true := by kernel_rfl
@[simp] theorem zero_84 : azero Tryd.prog 84 = some [.nilFunc] := by kernel_rfl
@[simp] theorem nils_84 : nilPos Tryd.prog 84 = [] := by kernel_rfl
@[simp] theorem app_84 : appOk Tryd.prog 84 = true := by kernel_rfl
@[simp] theorem eby_84 : ebytes Tryd.prog 84 = 8 := by kernel_rfl
@[simp] theorem info_85 : (Tryd.prog.info? 85).isSome = true := by kernel_rfl
@[simp] theorem agg_85 : aggO Tryd.prog 85 = some true := by kernel_rfl
@[simp] theorem esz_85 : esz Tryd.prog 85 = 4 := by kernel_rfl
@[simp] theorem conc_85 : Tryd.prog.concrete 85 = true := by kernel_rfl
@[simp] theorem foff_85_0 : foff Tryd.prog 85 0 = some 0 := by kernel_rfl
@[simp] theorem ftyp_85_0 : ftyp Tryd.prog 85 0 = 17 := by kernel_rfl
@[simp] theorem foff_85_1 : foff Tryd.prog 85 1 = some 1 := by kernel_rfl
@[simp] theorem ftyp_85_1 : ftyp Tryd.prog 85 1 = 17 := by kernel_rfl
@[simp] theorem foff_85_2 : foff Tryd.prog 85 2 = some 2 := by kernel_rfl
@[simp] theorem ftyp_85_2 : ftyp Tryd.prog 85 2 = 17 := by kernel_rfl
@[simp] theorem foff_85_3 : foff Tryd.prog 85 3 = some 3 := by kernel_rfl
@[simp] theorem ftyp_85_3 : ftyp Tryd.prog 85 3 = 9 := by kernel_rfl
@[simp] theorem known_85 : knownF Tryd.prog 85 = true := by kernel_rfl
@[simp] theorem zero_85 : azero Tryd.prog 85 = some [.nilPtr, .nilPtr, .nilPtr, .str []] := by kernel_rfl
@[simp] theorem nils_85 : nilPos Tryd.prog 85 = [] := by kernel_rfl
@[simp] theorem app_85 : appOk Tryd.prog 85 = true := by kernel_rfl
@[simp] theorem eby_85 : ebytes Tryd.prog 85 = 40 := by kernel_rfl
@[simp] theorem info_86 : (Tryd.prog.info? 86).isSome = true := by kernel_rfl
@[simp] theorem agg_86 : aggO Tryd.prog 86 = some true := by kernel_rfl
@[simp] theorem esz_86 : esz Tryd.prog 86 = 4 := by kernel_rfl
@[simp] theorem conc_86 : Tryd.prog.concrete 86 = true := by kernel_rfl
@[simp] theorem foff_86_0 : foff Tryd.prog 86 0 = some 0 := by kernel_rfl
@[simp] theorem ftyp_86_0 : ftyp Tryd.prog 86 0 = 17 := by kernel_rfl
@[simp] theorem foff_86_1 : foff Tryd.prog 86 1 = some 1 := by kernel_rfl
@[simp] theorem ftyp_86_1 : ftyp Tryd.prog 86 1 = 17 := by kernel_rfl
@[simp] theorem foff_86_2 : foff Tryd.prog 86 2 = some 2 := by kernel_rfl
@[simp] theorem ftyp_86_2 : ftyp Tryd.prog 86 2 = 17 := by kernel_rfl
@[simp] theorem foff_86_3 : foff Tryd.prog 86 3 = some 3 := by kernel_rfl
@[simp] theorem ftyp_86_3 : ftyp Tryd.prog 86 3 = 9 := by kernel_rfl
@[simp] theorem known_86 : knownF Tryd.prog 86 = true := by kernel_rfl
@[simp] theorem zero_86 : azero Tryd.prog 86 = some [.nilPtr, .nilPtr, .nilPtr, .str []] := by kernel_rfl
@[simp] theorem nils_86 : nilPos Tryd.prog 86 = [] := by kernel_rfl
@[simp] theorem app_86 : appOk Tryd.prog 86 = true := by kernel_rfl
@[simp] theorem eby_86 : ebytes Tryd.prog 86 = 40 := by kernel_rfl
@[simp] theorem info_87 : (Tryd.prog.info? 87).isSome = true := by kernel_rfl
@[simp] theorem agg_87 : aggO Tryd.prog 87 = some true := by kernel_rfl
@[simp] theorem esz_87 : esz Tryd.prog 87 = 0 := by kernel_rfl
@[simp] theorem arrt_87 : arrT Tryd.prog 87 = some (0, 16) := by kernel_rfl
@[simp] theorem conc_87 : Tryd.prog.concrete 87 = true := by kernel_rfl
@[simp] theorem zero_87 : azero Tryd.prog 87 = some [] := by kernel_rfl
@[simp] theorem nils_87 : nilPos Tryd.prog 87 = [] := by kernel_rfl
@[simp] theorem eby_87 : ebytes Tryd.prog 87 = 0 := by kernel_rfl
@[simp] theorem info_88 : (Tryd.prog.info? 88).isSome = true := by kernel_rfl
@[simp] theorem agg_88 : aggO Tryd.prog 88 = some true := by kernel_rfl
@[simp] theorem esz_88 : esz Tryd.prog 88 = 0 := by kernel_rfl
@[simp] theorem conc_88 : Tryd.prog.concrete 88 = true := by kernel_rfl
@[simp] theorem known_88 : knownF Tryd.prog 88 = true := by kernel_rfl
@[simp] theorem zero_88 : azero Tryd.prog 88 = some [] := by kernel_rfl
@[simp] theorem nils_88 : nilPos Tryd.prog 88 = [] := by kernel_rfl
@[simp] theorem eby_88 : ebytes Tryd.prog 88 = 0 := by kernel_rfl
@[simp] theorem info_89 : (Tryd.prog.info? 89).isSome = true := by kernel_rfl
@[simp] theorem agg_89 : aggO Tryd.prog 89 = some true := by kernel_rfl
@[simp] theorem esz_89 : esz Tryd.prog 89 = 0 := by kernel_rfl
@[simp] theorem conc_89 : Tryd.prog.concrete 89 = true := by kernel_rfl
@[simp] theorem known_89 : knownF Tryd.prog 89 = true := by kernel_rfl
@[simp] theorem zero_89 : azero Tryd.prog 89 = some [] := by kernel_rfl
@[simp] theorem nils_89 : nilPos Tryd.prog 89 = [] := by kernel_rfl
@[simp] theorem eby_89 : ebytes Tryd.prog 89 = 0 := by kernel_rfl
@[simp] theorem info_90 : (Tryd.prog.info? 90).isSome = true := by kernel_rfl
@[simp] theorem agg_90 : aggO Tryd.prog 90 = some false := by kernel_rfl
@[simp] theorem esz_90 : esz Tryd.prog 90 = 1 := by kernel_rfl
@[simp] theorem funct_90 : funcT Tryd.prog 90 = true := by kernel_rfl
@[simp] theorem conc_90 : Tryd.prog.concrete 90 = true := by kernel_rfl
@[simp] theorem zero_90 : azero Tryd.prog 90 = some [.nilFunc] := by kernel_rfl
@[simp] theorem nils_90 : nilPos Tryd.prog 90 = [] := by kernel_rfl
@[simp] theorem app_90 : appOk Tryd.prog 90 = true := by kernel_rfl
@[simp] theorem eby_90 : ebytes Tryd.prog 90 = 8 := by kernel_rfl
@[simp] theorem info_91 : (Tryd.prog.info? 91).isSome = true := by kernel_rfl
@[simp] theorem agg_91 : aggO Tryd.prog 91 = some false := by kernel_rfl
@[simp] theorem esz_91 : esz Tryd.prog 91 = 1 := by kernel_rfl
@[simp] theorem ikind_91 : ikind Tryd.prog 91 = some .u8 := by kernel_rfl
@[simp] theorem under_91 : Tryd.prog.underlying 91 = some (.int .u8) := by kernel_rfl
@[simp] theorem conc_91 : Tryd.prog.concrete 91 = true := by kernel_rfl
@[simp] theorem zero_91 : azero Tryd.prog 91 = some [.int .u8 0] := by kernel_rfl
@[simp] theorem nils_91 : nilPos Tryd.prog 91 = [] := by kernel_rfl
@[simp] theorem app_91 : appOk Tryd.prog 91 = true := by kernel_rfl
@[simp] theorem eby_91 : ebytes Tryd.prog 91 = 1 := by kernel_rfl
@[simp] theorem info_92 : (Tryd.prog.info? 92).isSome = true := by kernel_rfl
@[simp] theorem agg_92 : aggO Tryd.prog 92 = some false := by kernel_rfl
@[simp] theorem esz_92 : esz Tryd.prog 92 = 1 := by kernel_rfl
@[simp] theorem ikind_92 : ikind Tryd.prog 92 = some .u8 := by kernel_rfl
@[simp] theorem under_92 : Tryd.prog.underlying 92 = some (.int .u8) := by kernel_rfl
@[simp] theorem conc_92 : Tryd.prog.concrete 92 = true := by kernel_rfl
@[simp] theorem zero_92 : azero Tryd.prog 92 = some [.int .u8 0] := by kernel_rfl
@[simp] theorem nils_92 : nilPos Tryd.prog 92 = [] := by kernel_rfl
@[simp] theorem app_92 : appOk Tryd.prog 92 = true := by kernel_rfl
@[simp] theorem eby_92 : ebytes Tryd.prog 92 = 1 := by kernel_rfl
@[simp] theorem info_93 : (Tryd.prog.info? 93).isSome = true := by kernel_rfl
@[simp] theorem agg_93 : aggO Tryd.prog 93 = some false := by kernel_rfl
@[simp] theorem esz_93 : esz Tryd.prog 93 = 1 := by kernel_rfl
@[simp] theorem funct_93 : funcT Tryd.prog 93 = true := by kernel_rfl
@[simp] theorem conc_93 : Tryd.prog.concrete 93 = true := by kernel_rfl
@[simp] theorem zero_93 : azero Tryd.prog 93 = some [.nilFunc] := by kernel_rfl
@[simp] theorem nils_93 : nilPos Tryd.prog 93 = [] := by kernel_rfl
@[simp] theorem app_93 : appOk Tryd.prog 93 = true := by kernel_rfl
@[simp] theorem eby_93 : ebytes Tryd.prog 93 = 8 := by kernel_rfl
@[simp] theorem info_94 : (Tryd.prog.info? 94).isSome = true := by kernel_rfl
@[simp] theorem agg_94 : aggO Tryd.prog 94 = some false := by kernel_rfl
@[simp] theorem esz_94 : esz Tryd.prog 94 = 1 := by kernel_rfl
@[simp] theorem ikind_94 : ikind Tryd.prog 94 = some .i32 := by kernel_rfl
@[simp] theorem under_94 : Tryd.prog.underlying 94 = some (.int .i32) := by kernel_rfl
@[simp] theorem conc_94 : Tryd.prog.concrete 94 = true := by kernel_rfl
@[simp] theorem zero_94 : azero Tryd.prog 94 = some [.int .i32 0] := by kernel_rfl
@[simp] theorem nils_94 : nilPos Tryd.prog 94 = [] := by kernel_rfl
@[simp] theorem app_94 : appOk Tryd.prog 94 = true := by kernel_rfl
@[simp] theorem eby_94 : ebytes Tryd.prog 94 = 4 := by kernel_rfl
@[simp] theorem info_95 : (Tryd.prog.info? 95).isSome = true := by kernel_rfl
@[simp] theorem agg_95 : aggO Tryd.prog 95 = some false := by kernel_rfl
@[simp] theorem esz_95 : esz Tryd.prog 95 = 1 := by kernel_rfl
@[simp] theorem ikind_95 : ikind Tryd.prog 95 = some .i32 := by kernel_rfl
@[simp] theorem under_95 : Tryd.prog.underlying 95 = some (.int .i32) := by kernel_rfl
@[simp] theorem conc_95 : Tryd.prog.concrete 95 = true := by kernel_rfl
@[simp] theorem zero_95 : azero Tryd.prog 95 = some [.int .i32 0] := by kernel_rfl
@[simp] theorem nils_95 : nilPos Tryd.prog 95 = [] := by kernel_rfl
@[simp] theorem app_95 : appOk Tryd.prog 95 = true := by kernel_rfl
@[simp] theorem eby_95 : ebytes Tryd.prog 95 = 4 := by kernel_rfl
@[simp] theorem info_96 : (Tryd.prog.info? 96).isSome = true := by kernel_rfl
@[simp] theorem agg_96 : aggO Tryd.prog 96 = some true := by kernel_rfl
@[simp] theorem esz_96 : esz Tryd.prog 96 = 11 := by kernel_rfl
@[simp] theorem conc_96 : Tryd.prog.concrete 96 = true := by kernel_rfl
@[simp] theorem foff_96_0 : foff Tryd.prog 96 0 = some 0 := by kernel_rfl
@[simp] theorem ftyp_96_0 : ftyp Tryd.prog 96 0 = 12 := by kernel_rfl
@[simp] theorem foff_96_1 : foff Tryd.prog 96 1 = some 1 := by kernel_rfl
@[simp] theorem ftyp_96_1 : ftyp Tryd.prog 96 1 = 12 := by kernel_rfl
@[simp] theorem foff_96_2 : foff Tryd.prog 96 2 = some 2 := by kernel_rfl
@[simp] theorem ftyp_96_2 : ftyp Tryd.prog 96 2 = 73 := by kernel_rfl
@[simp] theorem foff_96_3 : foff Tryd.prog 96 3 = some 3 := by kernel_rfl
@[simp] theorem ftyp_96_3 : ftyp Tryd.prog 96 3 = 91 := by kernel_rfl
@[simp] theorem foff_96_4 : foff Tryd.prog 96 4 = some 4 := by kernel_rfl
@[simp] theorem ftyp_96_4 : ftyp Tryd.prog 96 4 = 5 := by kernel_rfl
@[simp] theorem foff_96_5 : foff Tryd.prog 96 5 = some 5 := by kernel_rfl
@[simp] theorem ftyp_96_5 : ftyp Tryd.prog 96 5 = 5 := by kernel_rfl
@[simp] theorem foff_96_6 : foff Tryd.prog 96 6 = some 6 := by kernel_rfl
@[simp] theorem ftyp_96_6 : ftyp Tryd.prog 96 6 = 92 := by kernel_rfl
@[simp] theorem foff_96_7 : foff Tryd.prog 96 7 = some 7 := by kernel_rfl
@[simp] theorem ftyp_96_7 : ftyp Tryd.prog 96 7 = 93 := by kernel_rfl
@[simp] theorem foff_96_8 : foff Tryd.prog 96 8 = some 8 := by kernel_rfl
@[simp] theorem ftyp_96_8 : ftyp Tryd.prog 96 8 = 77 := by kernel_rfl
@[simp] theorem foff_96_9 : foff Tryd.prog 96 9 = some 9 := by kernel_rfl
@[simp] theorem ftyp_96_9 : ftyp Tryd.prog 96 9 = 94 := by kernel_rfl
@[simp] theorem foff_96_10 : foff Tryd.prog 96 10 = some 10 := by kernel_rfl
@[simp] theorem ftyp_96_10 : ftyp Tryd.prog 96 10 = 95 := by kernel_rfl
@[simp] theorem known_96 : knownF Tryd.prog 96 = true := by kernel_rfl
@[simp] theorem zero_96 : azero Tryd.prog 96 = some [.int .u64 0, .int .u64 0, .int .u32 0, .int .u8 0, .int .u8 0, .int .u8 0, .int .u8 0, .nilFunc, .nilPtr, .int .i32 0, .int .i32 0] := by kernel_rfl
@[simp] theorem nils_96 : nilPos Tryd.prog 96 = [] := by kernel_rfl
@[simp] theorem app_96 : appOk Tryd.prog 96 = true := by kernel_rfl
@[simp] theorem eby_96 : ebytes Tryd.prog 96 = 48 := by kernel_rfl
@[simp] theorem info_97 : (Tryd.prog.info? 97).isSome = true := by kernel_rfl
@[simp] theorem agg_97 : aggO Tryd.prog 97 = some true := by kernel_rfl
@[simp] theorem esz_97 : esz Tryd.prog 97 = 11 := by kernel_rfl
@[simp] theorem conc_97 : Tryd.prog.concrete 97 = true := by kernel_rfl
@[simp] theorem foff_97_0 : foff Tryd.prog 97 0 = some 0 := by kernel_rfl
@[simp] theorem ftyp_97_0 : ftyp Tryd.prog 97 0 = 12 := by kernel_rfl
@[simp] theorem foff_97_1 : foff Tryd.prog 97 1 = some 1 := by kernel_rfl
@[simp] theorem ftyp_97_1 : ftyp Tryd.prog 97 1 = 12 := by kernel_rfl
@[simp] theorem foff_97_2 : foff Tryd.prog 97 2 = some 2 := by kernel_rfl
@[simp] theorem ftyp_97_2 : ftyp Tryd.prog 97 2 = 73 := by kernel_rfl
@[simp] theorem foff_97_3 : foff Tryd.prog 97 3 = some 3 := by kernel_rfl
@[simp] theorem ftyp_97_3 : ftyp Tryd.prog 97 3 = 91 := by kernel_rfl
@[simp] theorem foff_97_4 : foff Tryd.prog 97 4 = some 4 := by kernel_rfl
@[simp] theorem ftyp_97_4 : ftyp Tryd.prog 97 4 = 5 := by kernel_rfl
@[simp] theorem foff_97_5 : foff Tryd.prog 97 5 = some 5 := by kernel_rfl
@[simp] theorem ftyp_97_5 : ftyp Tryd.prog 97 5 = 5 := by kernel_rfl
@[simp] theorem foff_97_6 : foff Tryd.prog 97 6 = some 6 := by kernel_rfl
@[simp] theorem ftyp_97_6 : ftyp Tryd.prog 97 6 = 92 := by kernel_rfl
@[simp] theorem foff_97_7 : foff Tryd.prog 97 7 = some 7 := by kernel_rfl
@[simp] theorem ftyp_97_7 : ftyp Tryd.prog 97 7 = 93 := by kernel_rfl
@[simp] theorem foff_97_8 : foff Tryd.prog 97 8 = some 8 := by kernel_rfl
@[simp] theorem ftyp_97_8 : ftyp Tryd.prog 97 8 = 77 := by kernel_rfl
@[simp] theorem foff_97_9 : foff Tryd.prog 97 9 = some 9 := by kernel_rfl
@[simp] theorem ftyp_97_9 : ftyp Tryd.prog 97 9 = 94 := by kernel_rfl
@[simp] theorem foff_97_10 : foff Tryd.prog 97 10 = some 10 := by kernel_rfl
@[simp] theorem ftyp_97_10 : ftyp Tryd.prog 97 10 = 95 := by kernel_rfl
@[simp] theorem known_97 : knownF Tryd.prog 97 = true := by kernel_rfl
@[simp] theorem zero_97 : azero Tryd.prog 97 = some [.int .u64 0, .int .u64 0, .int .u32 0, .int .u8 0, .int .u8 0, .int .u8 0, .int .u8 0, .nilFunc, .nilPtr, .int .i32 0, .int .i32 0] := by kernel_rfl
@[simp] theorem nils_97 : nilPos Tryd.prog 97 = [] := by kernel_rfl
@[simp] theorem app_97 : appOk Tryd.prog 97 = true := by kernel_rfl
@[simp] theorem eby_97 : ebytes Tryd.prog 97 = 48 := by kernel_rfl
@[simp] theorem info_98 : (Tryd.prog.info? 98).isSome = true := by kernel_rfl
@[simp] theorem agg_98 : aggO Tryd.prog 98 = some false := by kernel_rfl
@[simp] theorem esz_98 : esz Tryd.prog 98 = 1 := by kernel_rfl
@[simp] theorem conc_98 : Tryd.prog.concrete 98 = true := by kernel_rfl
@[simp] theorem zero_98 : azero Tryd.prog 98 = some [.nilPtr] := by kernel_rfl
@[simp] theorem nils_98 : nilPos Tryd.prog 98 = [] := by kernel_rfl
@[simp] theorem app_98 : appOk Tryd.prog 98 = true := by kernel_rfl
@[simp] theorem eby_98 : ebytes Tryd.prog 98 = 8 := by kernel_rfl
theorem mixed : Tryd.prog.follows .mixedOrders = true := by kernel_rfl
end Pt
end Go.Proofs.YtngpggbigjeehaaDoor
