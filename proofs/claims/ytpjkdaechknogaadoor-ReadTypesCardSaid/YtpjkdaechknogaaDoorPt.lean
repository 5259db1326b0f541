/- The closed facts on the types of this translation that the walk asks; made by program. -/
import Derived.Test.YtpjkdaechknogaaDoorProg
import Derived.Test.YtpjkdaechknogaaDoorPvO
import Derived.KernelRfl
set_option linter.all false
namespace Go.Proofs.YtpjkdaechknogaaDoor
open Go Go.Pv
namespace Pt
@[simp] theorem info_1 : (Tryd.prog.info? 1).isSome = true := by kernel_rfl
@[simp] theorem agg_1 : aggO Tryd.prog 1 = some false := by kernel_rfl
@[simp] theorem esz_1 : esz Tryd.prog 1 = 1 := by kernel_rfl
@[simp] theorem funct_1 : funcT Tryd.prog 1 = true := by kernel_rfl
@[simp] theorem conc_1 : Tryd.prog.concrete 1 = true := by kernel_rfl
@[simp] theorem zero_1 : azero Tryd.prog 1 = some [.nilFunc] := by kernel_rfl
@[simp] theorem nils_1 : nilPos Tryd.prog 1 = [] := by kernel_rfl
@[simp] theorem app_1 : appOk Tryd.prog 1 = true := by kernel_rfl
@[simp] theorem eby_1 : ebytes Tryd.prog 1 = 8 := by kernel_rfl
@[simp] theorem info_2 : (Tryd.prog.info? 2).isSome = true := by kernel_rfl
@[simp] theorem agg_2 : aggO Tryd.prog 2 = some false := by kernel_rfl
@[simp] theorem esz_2 : esz Tryd.prog 2 = 1 := by kernel_rfl
@[simp] theorem ikind_2 : ikind Tryd.prog 2 = some .i64 := by kernel_rfl
@[simp] theorem under_2 : Tryd.prog.underlying 2 = some (.int .i64) := by kernel_rfl
@[simp] theorem conc_2 : Tryd.prog.concrete 2 = true := by kernel_rfl
@[simp] theorem zero_2 : azero Tryd.prog 2 = some [.int .i64 0] := by kernel_rfl
@[simp] theorem nils_2 : nilPos Tryd.prog 2 = [] := by kernel_rfl
@[simp] theorem app_2 : appOk Tryd.prog 2 = true := by kernel_rfl
@[simp] theorem eby_2 : ebytes Tryd.prog 2 = 8 := by kernel_rfl
@[simp] theorem info_3 : (Tryd.prog.info? 3).isSome = true := by kernel_rfl
@[simp] theorem agg_3 : aggO Tryd.prog 3 = some false := by kernel_rfl
@[simp] theorem esz_3 : esz Tryd.prog 3 = 1 := by kernel_rfl
@[simp] theorem ikind_3 : ikind Tryd.prog 3 = some .i64 := by kernel_rfl
@[simp] theorem under_3 : Tryd.prog.underlying 3 = some (.int .i64) := by kernel_rfl
@[simp] theorem conc_3 : Tryd.prog.concrete 3 = true := by kernel_rfl
@[simp] theorem zero_3 : azero Tryd.prog 3 = some [.int .i64 0] := by kernel_rfl
@[simp] theorem nils_3 : nilPos Tryd.prog 3 = [] := by kernel_rfl
@[simp] theorem app_3 : appOk Tryd.prog 3 = true := by kernel_rfl
@[simp] theorem eby_3 : ebytes Tryd.prog 3 = 8 := by kernel_rfl
@[simp] theorem info_4 : (Tryd.prog.info? 4).isSome = true := by kernel_rfl
@[simp] theorem agg_4 : aggO Tryd.prog 4 = some false := by kernel_rfl
@[simp] theorem esz_4 : esz Tryd.prog 4 = 1 := by kernel_rfl
@[simp] theorem under_4 : Tryd.prog.underlying 4 = some .bool := by kernel_rfl
@[simp] theorem boolt_4 : boolT Tryd.prog 4 = true := by kernel_rfl
@[simp] theorem conc_4 : Tryd.prog.concrete 4 = true := by kernel_rfl
@[simp] theorem zero_4 : azero Tryd.prog 4 = some [.bool false] := by kernel_rfl
@[simp] theorem nils_4 : nilPos Tryd.prog 4 = [] := by kernel_rfl
@[simp] theorem app_4 : appOk Tryd.prog 4 = true := by kernel_rfl
@[simp] theorem eby_4 : ebytes Tryd.prog 4 = 1 := by kernel_rfl
@[simp] theorem info_5 : (Tryd.prog.info? 5).isSome = true := by kernel_rfl
@[simp] theorem agg_5 : aggO Tryd.prog 5 = some false := by kernel_rfl
@[simp] theorem esz_5 : esz Tryd.prog 5 = 1 := by kernel_rfl
@[simp] theorem ikind_5 : ikind Tryd.prog 5 = some .u8 := by kernel_rfl
@[simp] theorem under_5 : Tryd.prog.underlying 5 = some (.int .u8) := by kernel_rfl
@[simp] theorem conc_5 : Tryd.prog.concrete 5 = true := by kernel_rfl
@[simp] theorem zero_5 : azero Tryd.prog 5 = some [.int .u8 0] := by kernel_rfl
@[simp] theorem nils_5 : nilPos Tryd.prog 5 = [] := by kernel_rfl
@[simp] theorem app_5 : appOk Tryd.prog 5 = true := by kernel_rfl
@[simp] theorem eby_5 : ebytes Tryd.prog 5 = 1 := by kernel_rfl
@[simp] theorem info_6 : (Tryd.prog.info? 6).isSome = true := by kernel_rfl
@[simp] theorem agg_6 : aggO Tryd.prog 6 = some false := by kernel_rfl
@[simp] theorem esz_6 : esz Tryd.prog 6 = 1 := by kernel_rfl
@[simp] theorem ikind_6 : ikind Tryd.prog 6 = some .u8 := by kernel_rfl
@[simp] theorem under_6 : Tryd.prog.underlying 6 = some (.int .u8) := by kernel_rfl
@[simp] theorem conc_6 : Tryd.prog.concrete 6 = true := by kernel_rfl
@[simp] theorem zero_6 : azero Tryd.prog 6 = some [.int .u8 0] := by kernel_rfl
@[simp] theorem nils_6 : nilPos Tryd.prog 6 = [] := by kernel_rfl
@[simp] theorem app_6 : appOk Tryd.prog 6 = true := by kernel_rfl
@[simp] theorem eby_6 : ebytes Tryd.prog 6 = 1 := by kernel_rfl
@[simp] theorem info_7 : (Tryd.prog.info? 7).isSome = true := by kernel_rfl
@[simp] theorem agg_7 : aggO Tryd.prog 7 = some true := by kernel_rfl
@[simp] theorem esz_7 : esz Tryd.prog 7 = 4 := by kernel_rfl
@[simp] theorem conc_7 : Tryd.prog.concrete 7 = true := by kernel_rfl
@[simp] theorem foff_7_0 : foff Tryd.prog 7 0 = some 0 := by kernel_rfl
@[simp] theorem ftyp_7_0 : ftyp Tryd.prog 7 0 = 2 := by kernel_rfl
@[simp] theorem foff_7_1 : foff Tryd.prog 7 1 = some 1 := by kernel_rfl
@[simp] theorem ftyp_7_1 : ftyp Tryd.prog 7 1 = 3 := by kernel_rfl
@[simp] theorem foff_7_2 : foff Tryd.prog 7 2 = some 2 := by kernel_rfl
@[simp] theorem ftyp_7_2 : ftyp Tryd.prog 7 2 = 4 := by kernel_rfl
@[simp] theorem foff_7_3 : foff Tryd.prog 7 3 = some 3 := by kernel_rfl
@[simp] theorem ftyp_7_3 : ftyp Tryd.prog 7 3 = 6 := by kernel_rfl
@[simp] theorem known_7 : knownF Tryd.prog 7 = true := by kernel_rfl
@[simp] theorem zero_7 : azero Tryd.prog 7 = some [.int .i64 0, .int .i64 0, .bool false, .int .u8 0] := by kernel_rfl
@[simp] theorem nils_7 : nilPos Tryd.prog 7 = [] := by kernel_rfl
@[simp] theorem app_7 : appOk Tryd.prog 7 = true := by kernel_rfl
@[simp] theorem eby_7 : ebytes Tryd.prog 7 = 24 := by kernel_rfl
@[simp] theorem info_8 : (Tryd.prog.info? 8).isSome = true := by kernel_rfl
@[simp] theorem agg_8 : aggO Tryd.prog 8 = some true := by kernel_rfl
@[simp] theorem esz_8 : esz Tryd.prog 8 = 4 := by kernel_rfl
@[simp] theorem conc_8 : Tryd.prog.concrete 8 = true := by kernel_rfl
@[simp] theorem foff_8_0 : foff Tryd.prog 8 0 = some 0 := by kernel_rfl
@[simp] theorem ftyp_8_0 : ftyp Tryd.prog 8 0 = 2 := by kernel_rfl
@[simp] theorem foff_8_1 : foff Tryd.prog 8 1 = some 1 := by kernel_rfl
@[simp] theorem ftyp_8_1 : ftyp Tryd.prog 8 1 = 3 := by kernel_rfl
@[simp] theorem foff_8_2 : foff Tryd.prog 8 2 = some 2 := by kernel_rfl
@[simp] theorem ftyp_8_2 : ftyp Tryd.prog 8 2 = 4 := by kernel_rfl
@[simp] theorem foff_8_3 : foff Tryd.prog 8 3 = some 3 := by kernel_rfl
@[simp] theorem ftyp_8_3 : ftyp Tryd.prog 8 3 = 6 := by kernel_rfl
@[simp] theorem known_8 : knownF Tryd.prog 8 = true := by kernel_rfl
@[simp] theorem zero_8 : azero Tryd.prog 8 = some [.int .i64 0, .int .i64 0, .bool false, .int .u8 0] := by kernel_rfl
@[simp] theorem nils_8 : nilPos Tryd.prog 8 = [] := by kernel_rfl
@[simp] theorem app_8 : appOk Tryd.prog 8 = true := by kernel_rfl
@[simp] theorem eby_8 : ebytes Tryd.prog 8 = 24 := by kernel_rfl
@[simp] theorem info_9 : (Tryd.prog.info? 9).isSome = true := by kernel_rfl
@[simp] theorem agg_9 : aggO Tryd.prog 9 = some false := by kernel_rfl
@[simp] theorem esz_9 : esz Tryd.prog 9 = 1 := by kernel_rfl
@[simp] theorem under_9 : Tryd.prog.underlying 9 = some .string := by kernel_rfl
@[simp] theorem strt_9 : strT Tryd.prog 9 = true := by kernel_rfl
@[simp] theorem strb_9 : strB Tryd.prog 9 = true := by kernel_rfl
@[simp] theorem conc_9 : Tryd.prog.concrete 9 = true := by kernel_rfl
@[simp] theorem zero_9 : azero Tryd.prog 9 = some [.str []] := by kernel_rfl
@[simp] theorem nils_9 : nilPos Tryd.prog 9 = [] := by kernel_rfl
@[simp] theorem app_9 : appOk Tryd.prog 9 = true := by kernel_rfl
@[simp] theorem eby_9 : ebytes Tryd.prog 9 = 16 := by kernel_rfl
@[simp] theorem info_10 : (Tryd.prog.info? 10).isSome = true := by kernel_rfl
@[simp] theorem agg_10 : aggO Tryd.prog 10 = some false := by kernel_rfl
@[simp] theorem esz_10 : esz Tryd.prog 10 = 1 := by kernel_rfl
@[simp] theorem under_10 : Tryd.prog.underlying 10 = some .string := by kernel_rfl
@[simp] theorem strt_10 : strT Tryd.prog 10 = true := by kernel_rfl
@[simp] theorem strb_10 : strB Tryd.prog 10 = true := by kernel_rfl
@[simp] theorem conc_10 : Tryd.prog.concrete 10 = true := by kernel_rfl
@[simp] theorem zero_10 : azero Tryd.prog 10 = some [.str []] := by kernel_rfl
@[simp] theorem nils_10 : nilPos Tryd.prog 10 = [] := by kernel_rfl
@[simp] theorem app_10 : appOk Tryd.prog 10 = true := by kernel_rfl
@[simp] theorem eby_10 : ebytes Tryd.prog 10 = 16 := by kernel_rfl
@[simp] theorem info_11 : (Tryd.prog.info? 11).isSome = true := by kernel_rfl
@[simp] theorem agg_11 : aggO Tryd.prog 11 = some false := by kernel_rfl
@[simp] theorem esz_11 : esz Tryd.prog 11 = 1 := by kernel_rfl
@[simp] theorem under_11 : Tryd.prog.underlying 11 = some .string := by kernel_rfl
@[simp] theorem strt_11 : strT Tryd.prog 11 = true := by kernel_rfl
@[simp] theorem strb_11 : strB Tryd.prog 11 = true := by kernel_rfl
@[simp] theorem conc_11 : Tryd.prog.concrete 11 = true := by kernel_rfl
@[simp] theorem zero_11 : azero Tryd.prog 11 = some [.str []] := by kernel_rfl
@[simp] theorem nils_11 : nilPos Tryd.prog 11 = [] := by kernel_rfl
@[simp] theorem app_11 : appOk Tryd.prog 11 = true := by kernel_rfl
@[simp] theorem eby_11 : ebytes Tryd.prog 11 = 16 := by kernel_rfl
@[simp] theorem info_12 : (Tryd.prog.info? 12).isSome = true := by kernel_rfl
@[simp] theorem agg_12 : aggO Tryd.prog 12 = some false := by kernel_rfl
@[simp] theorem esz_12 : esz Tryd.prog 12 = 1 := by kernel_rfl
@[simp] theorem ikind_12 : ikind Tryd.prog 12 = some .u64 := by kernel_rfl
@[simp] theorem under_12 : Tryd.prog.underlying 12 = some (.int .u64) := by kernel_rfl
@[simp] theorem conc_12 : Tryd.prog.concrete 12 = true := by kernel_rfl
@[simp] theorem zero_12 : azero Tryd.prog 12 = some [.int .u64 0] := by kernel_rfl
@[simp] theorem nils_12 : nilPos Tryd.prog 12 = [] := by kernel_rfl
@[simp] theorem app_12 : appOk Tryd.prog 12 = true := by kernel_rfl
@[simp] theorem eby_12 : ebytes Tryd.prog 12 = 8 := by kernel_rfl
@[simp] theorem info_13 : (Tryd.prog.info? 13).isSome = true := by kernel_rfl
@[simp] theorem agg_13 : aggO Tryd.prog 13 = some true := by kernel_rfl
@[simp] theorem esz_13 : esz Tryd.prog 13 = 2 := by kernel_rfl
@[simp] theorem conc_13 : Tryd.prog.concrete 13 = true := by kernel_rfl
@[simp] theorem foff_13_0 : foff Tryd.prog 13 0 = some 0 := by kernel_rfl
@[simp] theorem ftyp_13_0 : ftyp Tryd.prog 13 0 = 9 := by kernel_rfl
@[simp] theorem foff_13_1 : foff Tryd.prog 13 1 = some 1 := by kernel_rfl
@[simp] theorem ftyp_13_1 : ftyp Tryd.prog 13 1 = 12 := by kernel_rfl
@[simp] theorem known_13 : knownF Tryd.prog 13 = true := by kernel_rfl
@[simp] theorem zero_13 : azero Tryd.prog 13 = some [.str [], .int .u64 0] := by kernel_rfl
@[simp] theorem nils_13 : nilPos Tryd.prog 13 = [] := by kernel_rfl
@[simp] theorem app_13 : appOk Tryd.prog 13 = true := by kernel_rfl
@[simp] theorem eby_13 : ebytes Tryd.prog 13 = 24 := by kernel_rfl
@[simp] theorem info_14 : (Tryd.prog.info? 14).isSome = true := by kernel_rfl
@[simp] theorem agg_14 : aggO Tryd.prog 14 = some true := by kernel_rfl
@[simp] theorem esz_14 : esz Tryd.prog 14 = 2 := by kernel_rfl
@[simp] theorem conc_14 : Tryd.prog.concrete 14 = true := by kernel_rfl
@[simp] theorem foff_14_0 : foff Tryd.prog 14 0 = some 0 := by kernel_rfl
@[simp] theorem ftyp_14_0 : ftyp Tryd.prog 14 0 = 9 := by kernel_rfl
@[simp] theorem foff_14_1 : foff Tryd.prog 14 1 = some 1 := by kernel_rfl
@[simp] theorem ftyp_14_1 : ftyp Tryd.prog 14 1 = 12 := by kernel_rfl
@[simp] theorem known_14 : knownF Tryd.prog 14 = true := by kernel_rfl
@[simp] theorem zero_14 : azero Tryd.prog 14 = some [.str [], .int .u64 0] := by kernel_rfl
@[simp] theorem nils_14 : nilPos Tryd.prog 14 = [] := by kernel_rfl
@[simp] theorem app_14 : appOk Tryd.prog 14 = true := by kernel_rfl
@[simp] theorem eby_14 : ebytes Tryd.prog 14 = 24 := by kernel_rfl
@[simp] theorem info_15 : (Tryd.prog.info? 15).isSome = true := by kernel_rfl
@[simp] theorem agg_15 : aggO Tryd.prog 15 = some false := by kernel_rfl
@[simp] theorem esz_15 : esz Tryd.prog 15 = 1 := by kernel_rfl
@[simp] theorem conc_15 : Tryd.prog.concrete 15 = true := by kernel_rfl
@[simp] theorem zero_15 : azero Tryd.prog 15 = some [.nilPtr] := by kernel_rfl
@[simp] theorem nils_15 : nilPos Tryd.prog 15 = [] := by kernel_rfl
@[simp] theorem app_15 : appOk Tryd.prog 15 = true := by kernel_rfl
@[simp] theorem eby_15 : ebytes Tryd.prog 15 = 8 := by kernel_rfl
@[simp] theorem info_16 : (Tryd.prog.info? 16).isSome = true := by kernel_rfl
@[simp] theorem agg_16 : aggO Tryd.prog 16 = some false := by kernel_rfl
@[simp] theorem esz_16 : esz Tryd.prog 16 = 1 := by kernel_rfl
@[simp] theorem conc_16 : Tryd.prog.concrete 16 = true := by kernel_rfl
@[simp] theorem zero_16 : azero Tryd.prog 16 = some [.nilPtr] := by kernel_rfl
@[simp] theorem nils_16 : nilPos Tryd.prog 16 = [] := by kernel_rfl
@[simp] theorem app_16 : appOk Tryd.prog 16 = true := by kernel_rfl
@[simp] theorem eby_16 : ebytes Tryd.prog 16 = 8 := by kernel_rfl
@[simp] theorem info_17 : (Tryd.prog.info? 17).isSome = true := by kernel_rfl
@[simp] theorem agg_17 : aggO Tryd.prog 17 = some false := by kernel_rfl
@[simp] theorem esz_17 : esz Tryd.prog 17 = 1 := by kernel_rfl
@[simp] theorem conc_17 : Tryd.prog.concrete 17 = true := by kernel_rfl
@[simp] theorem zero_17 : azero Tryd.prog 17 = some [.nilPtr] := by kernel_rfl
@[simp] theorem nils_17 : nilPos Tryd.prog 17 = [] := by kernel_rfl
@[simp] theorem app_17 : appOk Tryd.prog 17 = true := by kernel_rfl
@[simp] theorem eby_17 : ebytes Tryd.prog 17 = 8 := by kernel_rfl
@[simp] theorem info_18 : (Tryd.prog.info? 18).isSome = true := by kernel_rfl
@[simp] theorem agg_18 : aggO Tryd.prog 18 = some true := by kernel_rfl
@[simp] theorem esz_18 : esz Tryd.prog 18 = 1 := by kernel_rfl
@[simp] theorem conc_18 : Tryd.prog.concrete 18 = true := by kernel_rfl
@[simp] theorem foff_18_0 : foff Tryd.prog 18 0 = some 0 := by kernel_rfl
@[simp] theorem ftyp_18_0 : ftyp Tryd.prog 18 0 = 17 := by kernel_rfl
@[simp] theorem known_18 : knownF Tryd.prog 18 = true := by kernel_rfl
@[simp] theorem zero_18 : azero Tryd.prog 18 = some [.nilPtr] := by kernel_rfl
@[simp] theorem nils_18 : nilPos Tryd.prog 18 = [] := by kernel_rfl
@[simp] theorem app_18 : appOk Tryd.prog 18 = true := by kernel_rfl
@[simp] theorem eby_18 : ebytes Tryd.prog 18 = 8 := by kernel_rfl
@[simp] theorem info_19 : (Tryd.prog.info? 19).isSome = true := by kernel_rfl
@[simp] theorem agg_19 : aggO Tryd.prog 19 = some true := by kernel_rfl
@[simp] theorem esz_19 : esz Tryd.prog 19 = 1 := by kernel_rfl
@[simp] theorem conc_19 : Tryd.prog.concrete 19 = true := by kernel_rfl
@[simp] theorem foff_19_0 : foff Tryd.prog 19 0 = some 0 := by kernel_rfl
@[simp] theorem ftyp_19_0 : ftyp Tryd.prog 19 0 = 17 := by kernel_rfl
@[simp] theorem known_19 : knownF Tryd.prog 19 = true := by kernel_rfl
@[simp] theorem zero_19 : azero Tryd.prog 19 = some [.nilPtr] := by kernel_rfl
@[simp] theorem nils_19 : nilPos Tryd.prog 19 = [] := by kernel_rfl
@[simp] theorem app_19 : appOk Tryd.prog 19 = true := by kernel_rfl
@[simp] theorem eby_19 : ebytes Tryd.prog 19 = 8 := by kernel_rfl
@[simp] theorem info_20 : (Tryd.prog.info? 20).isSome = true := by kernel_rfl
@[simp] theorem agg_20 : aggO Tryd.prog 20 = some false := by kernel_rfl
@[simp] theorem esz_20 : esz Tryd.prog 20 = 1 := by kernel_rfl
@[simp] theorem ifacet_20 : ifaceT Tryd.prog 20 = true := by kernel_rfl
@[simp] theorem zero_20 : azero Tryd.prog 20 = some [.nilIface] := by kernel_rfl
@[simp] theorem nils_20 : nilPos Tryd.prog 20 = [] := by kernel_rfl
@[simp] theorem app_20 : appOk Tryd.prog 20 = true := by kernel_rfl
@[simp] theorem eby_20 : ebytes Tryd.prog 20 = 16 := by kernel_rfl
@[simp] theorem info_21 : (Tryd.prog.info? 21).isSome = true := by kernel_rfl
@[simp] theorem agg_21 : aggO Tryd.prog 21 = some false := by kernel_rfl
@[simp] theorem esz_21 : esz Tryd.prog 21 = 1 := by kernel_rfl
@[simp] theorem ikind_21 : ikind Tryd.prog 21 = some .i32 := by kernel_rfl
@[simp] theorem under_21 : Tryd.prog.underlying 21 = some (.int .i32) := by kernel_rfl
@[simp] theorem conc_21 : Tryd.prog.concrete 21 = true := by kernel_rfl
@[simp] theorem zero_21 : azero Tryd.prog 21 = some [.int .i32 0] := by kernel_rfl
@[simp] theorem nils_21 : nilPos Tryd.prog 21 = [] := by kernel_rfl
@[simp] theorem app_21 : appOk Tryd.prog 21 = true := by kernel_rfl
@[simp] theorem eby_21 : ebytes Tryd.prog 21 = 4 := by kernel_rfl
@[simp] theorem info_22 : (Tryd.prog.info? 22).isSome = true := by kernel_rfl
@[simp] theorem agg_22 : aggO Tryd.prog 22 = some false := by kernel_rfl
@[simp] theorem esz_22 : esz Tryd.prog 22 = 1 := by kernel_rfl
@[simp] theorem elem_22 : elemT Tryd.prog 22 = some 24 := by kernel_rfl
@[simp] theorem conc_22 : Tryd.prog.concrete 22 = true := by kernel_rfl
@[simp] theorem zero_22 : azero Tryd.prog 22 = some [.slice []] := by kernel_rfl
@[simp] theorem nils_22 : nilPos Tryd.prog 22 = [0] := by kernel_rfl
@[simp] theorem app_22 : appOk Tryd.prog 22 = true := by kernel_rfl
@[simp] theorem eby_22 : ebytes Tryd.prog 22 = 24 := by kernel_rfl
@[simp] theorem info_23 : (Tryd.prog.info? 23).isSome = true := by kernel_rfl
@[simp] theorem agg_23 : aggO Tryd.prog 23 = some true := by kernel_rfl
@[simp] theorem esz_23 : esz Tryd.prog 23 = 3 := by kernel_rfl
@[simp] theorem conc_23 : Tryd.prog.concrete 23 = true := by kernel_rfl
@[simp] theorem foff_23_0 : foff Tryd.prog 23 0 = some 0 := by kernel_rfl
@[simp] theorem ftyp_23_0 : ftyp Tryd.prog 23 0 = 9 := by kernel_rfl
@[simp] theorem foff_23_1 : foff Tryd.prog 23 1 = some 1 := by kernel_rfl
@[simp] theorem ftyp_23_1 : ftyp Tryd.prog 23 1 = 22 := by kernel_rfl
@[simp] theorem foff_23_2 : foff Tryd.prog 23 2 = some 2 := by kernel_rfl
@[simp] theorem ftyp_23_2 : ftyp Tryd.prog 23 2 = 3 := by kernel_rfl
@[simp] theorem known_23 : knownF Tryd.prog 23 = true := by kernel_rfl
@[simp] theorem zero_23 : azero Tryd.prog 23 = some [.str [], .slice [], .int .i64 0] := by kernel_rfl
@[simp] theorem nils_23 : nilPos Tryd.prog 23 = [1] := by kernel_rfl
@[simp] theorem app_23 : appOk Tryd.prog 23 = true := by kernel_rfl
@[simp] theorem eby_23 : ebytes Tryd.prog 23 = 48 := by kernel_rfl
@[simp] theorem info_24 : (Tryd.prog.info? 24).isSome = true := by kernel_rfl
@[simp] theorem agg_24 : aggO Tryd.prog 24 = some true := by kernel_rfl
@[simp] theorem esz_24 : esz Tryd.prog 24 = 3 := by kernel_rfl
@[simp] theorem conc_24 : Tryd.prog.concrete 24 = true := by kernel_rfl
@[simp] theorem foff_24_0 : foff Tryd.prog 24 0 = some 0 := by kernel_rfl
@[simp] theorem ftyp_24_0 : ftyp Tryd.prog 24 0 = 9 := by kernel_rfl
@[simp] theorem foff_24_1 : foff Tryd.prog 24 1 = some 1 := by kernel_rfl
@[simp] theorem ftyp_24_1 : ftyp Tryd.prog 24 1 = 22 := by kernel_rfl
@[simp] theorem foff_24_2 : foff Tryd.prog 24 2 = some 2 := by kernel_rfl
@[simp] theorem ftyp_24_2 : ftyp Tryd.prog 24 2 = 3 := by kernel_rfl
@[simp] theorem known_24 : knownF Tryd.prog 24 = true := by kernel_rfl
@[simp] theorem zero_24 : azero Tryd.prog 24 = some [.str [], .slice [], .int .i64 0] := by kernel_rfl
@[simp] theorem nils_24 : nilPos Tryd.prog 24 = [1] := by kernel_rfl
@[simp] theorem app_24 : appOk Tryd.prog 24 = true := by kernel_rfl
@[simp] theorem eby_24 : ebytes Tryd.prog 24 = 48 := by kernel_rfl
@[simp] theorem info_25 : (Tryd.prog.info? 25).isSome = true := by kernel_rfl
@[simp] theorem agg_25 : aggO Tryd.prog 25 = some false := by kernel_rfl
@[simp] theorem esz_25 : esz Tryd.prog 25 = 1 := by kernel_rfl
@[simp] theorem elem_25 : elemT Tryd.prog 25 = some 27 := by kernel_rfl
@[simp] theorem conc_25 : Tryd.prog.concrete 25 = true := by kernel_rfl
@[simp] theorem zero_25 : azero Tryd.prog 25 = some [.slice []] := by kernel_rfl
@[simp] theorem nils_25 : nilPos Tryd.prog 25 = [0] := by kernel_rfl
@[simp] theorem app_25 : appOk Tryd.prog 25 = true := by kernel_rfl
@[simp] theorem eby_25 : ebytes Tryd.prog 25 = 24 := by kernel_rfl
@[simp] theorem info_26 : (Tryd.prog.info? 26).isSome = true := by kernel_rfl
@[simp] theorem agg_26 : aggO Tryd.prog 26 = some true := by kernel_rfl
@[simp] theorem esz_26 : esz Tryd.prog 26 = 8 := by kernel_rfl
@[simp] theorem conc_26 : Tryd.prog.concrete 26 = true := by kernel_rfl
@[simp] theorem foff_26_0 : foff Tryd.prog 26 0 = some 0 := by kernel_rfl
@[simp] theorem ftyp_26_0 : ftyp Tryd.prog 26 0 = 3 := by kernel_rfl
@[simp] theorem foff_26_1 : foff Tryd.prog 26 1 = some 1 := by kernel_rfl
@[simp] theorem ftyp_26_1 : ftyp Tryd.prog 26 1 = 9 := by kernel_rfl
@[simp] theorem foff_26_2 : foff Tryd.prog 26 2 = some 2 := by kernel_rfl
@[simp] theorem ftyp_26_2 : ftyp Tryd.prog 26 2 = 24 := by kernel_rfl
@[simp] theorem foff_26_3 : foff Tryd.prog 26 3 = some 5 := by kernel_rfl
@[simp] theorem ftyp_26_3 : ftyp Tryd.prog 26 3 = 22 := by kernel_rfl
@[simp] theorem foff_26_4 : foff Tryd.prog 26 4 = some 6 := by kernel_rfl
@[simp] theorem ftyp_26_4 : ftyp Tryd.prog 26 4 = 25 := by kernel_rfl
@[simp] theorem foff_26_5 : foff Tryd.prog 26 5 = some 7 := by kernel_rfl
@[simp] theorem ftyp_26_5 : ftyp Tryd.prog 26 5 = 3 := by kernel_rfl
@[simp] theorem known_26 : knownF Tryd.prog 26 = true := by kernel_rfl
@[simp] theorem zero_26 : azero Tryd.prog 26 = some [.int .i64 0, .str [], .str [], .slice [], .int .i64 0, .slice [], .slice [], .int .i64 0] := by kernel_rfl
@[simp] theorem nils_26 : nilPos Tryd.prog 26 = [3, 5, 6] := by kernel_rfl
@[simp] theorem app_26 : appOk Tryd.prog 26 = true := by kernel_rfl
@[simp] theorem eby_26 : ebytes Tryd.prog 26 = 128 := by kernel_rfl
@[simp] theorem info_27 : (Tryd.prog.info? 27).isSome = true := by kernel_rfl
@[simp] theorem agg_27 : aggO Tryd.prog 27 = some true := by kernel_rfl
@[simp] theorem esz_27 : esz Tryd.prog 27 = 8 := by kernel_rfl
@[simp] theorem conc_27 : Tryd.prog.concrete 27 = true := by kernel_rfl
@[simp] theorem foff_27_0 : foff Tryd.prog 27 0 = some 0 := by kernel_rfl
@[simp] theorem ftyp_27_0 : ftyp Tryd.prog 27 0 = 3 := by kernel_rfl
@[simp] theorem foff_27_1 : foff Tryd.prog 27 1 = some 1 := by kernel_rfl
@[simp] theorem ftyp_27_1 : ftyp Tryd.prog 27 1 = 9 := by kernel_rfl
@[simp] theorem foff_27_2 : foff Tryd.prog 27 2 = some 2 := by kernel_rfl
@[simp] theorem ftyp_27_2 : ftyp Tryd.prog 27 2 = 24 := by kernel_rfl
@[simp] theorem foff_27_3 : foff Tryd.prog 27 3 = some 5 := by kernel_rfl
@[simp] theorem ftyp_27_3 : ftyp Tryd.prog 27 3 = 22 := by kernel_rfl
@[simp] theorem foff_27_4 : foff Tryd.prog 27 4 = some 6 := by kernel_rfl
@[simp] theorem ftyp_27_4 : ftyp Tryd.prog 27 4 = 25 := by kernel_rfl
@[simp] theorem foff_27_5 : foff Tryd.prog 27 5 = some 7 := by kernel_rfl
@[simp] theorem ftyp_27_5 : ftyp Tryd.prog 27 5 = 3 := by kernel_rfl
@[simp] theorem known_27 : knownF Tryd.prog 27 = true := by kernel_rfl
@[simp] theorem zero_27 : azero Tryd.prog 27 = some [.int .i64 0, .str [], .str [], .slice [], .int .i64 0, .slice [], .slice [], .int .i64 0] := by kernel_rfl
@[simp] theorem nils_27 : nilPos Tryd.prog 27 = [3, 5, 6] := by kernel_rfl
@[simp] theorem app_27 : appOk Tryd.prog 27 = true := by kernel_rfl
@[simp] theorem eby_27 : ebytes Tryd.prog 27 = 128 := by kernel_rfl
@[simp] theorem info_28 : (Tryd.prog.info? 28).isSome = true := by kernel_rfl
@[simp] theorem agg_28 : aggO Tryd.prog 28 = some false := by kernel_rfl
@[simp] theorem esz_28 : esz Tryd.prog 28 = 1 := by kernel_rfl
@[simp] theorem funct_28 : funcT Tryd.prog 28 = true := by kernel_rfl
@[simp] theorem conc_28 : Tryd.prog.concrete 28 = true := by kernel_rfl
@[simp] theorem zero_28 : azero Tryd.prog 28 = some [.nilFunc] := by kernel_rfl
@[simp] theorem nils_28 : nilPos Tryd.prog 28 = [] := by kernel_rfl
@[simp] theorem app_28 : appOk Tryd.prog 28 = true := by kernel_rfl
@[simp] theorem eby_28 : ebytes Tryd.prog 28 = 8 := by kernel_rfl
@[simp] theorem info_29 : (Tryd.prog.info? 29).isSome = true := by kernel_rfl
@[simp] theorem agg_29 : aggO Tryd.prog 29 = some false := by kernel_rfl
@[simp] theorem esz_29 : esz Tryd.prog 29 = 1 := by kernel_rfl
@[simp] theorem funct_29 : funcT Tryd.prog 29 = true := by kernel_rfl
@[simp] theorem conc_29 : Tryd.prog.concrete 29 = true := by kernel_rfl
@[simp] theorem zero_29 : azero Tryd.prog 29 = some [.nilFunc] := by kernel_rfl
@[simp] theorem nils_29 : nilPos Tryd.prog 29 = [] := by kernel_rfl
@[simp] theorem app_29 : appOk Tryd.prog 29 = true := by kernel_rfl
@[simp] theorem eby_29 : ebytes Tryd.prog 29 = 8 := by kernel_rfl
@[simp] theorem info_30 : (Tryd.prog.info? 30).isSome = true := by kernel_rfl
@[simp] theorem agg_30 : aggO Tryd.prog 30 = some false := by kernel_rfl
@[simp] theorem esz_30 : esz Tryd.prog 30 = 1 := by kernel_rfl
@[simp] theorem funct_30 : funcT Tryd.prog 30 = true := by kernel_rfl
@[simp] theorem conc_30 : Tryd.prog.concrete 30 = true := by kernel_rfl
@[simp] theorem zero_30 : azero Tryd.prog 30 = some [.nilFunc] := by kernel_rfl
@[simp] theorem nils_30 : nilPos Tryd.prog 30 = [] := by kernel_rfl
@[simp] theorem app_30 : appOk Tryd.prog 30 = true := by kernel_rfl
@[simp] theorem eby_30 : ebytes Tryd.prog 30 = 8 := by kernel_rfl
@[simp] theorem info_31 : (Tryd.prog.info? 31).isSome = true := by kernel_rfl
@[simp] theorem agg_31 : aggO Tryd.prog 31 = some false := by kernel_rfl
@[simp] theorem esz_31 : esz Tryd.prog 31 = 1 := by kernel_rfl
@[simp] theorem ifacet_31 : ifaceT Tryd.prog 31 = true := by kernel_rfl
@[simp] theorem zero_31 : azero Tryd.prog 31 = some [.nilIface] := by kernel_rfl
@[simp] theorem nils_31 : nilPos Tryd.prog 31 = [] := by kernel_rfl
@[simp] theorem app_31 : appOk Tryd.prog 31 = true := by kernel_rfl
@[simp] theorem eby_31 : ebytes Tryd.prog 31 = 16 := by kernel_rfl
@[simp] theorem info_32 : (Tryd.prog.info? 32).isSome = true := by kernel_rfl
@[simp] theorem agg_32 : aggO Tryd.prog 32 = some false := by kernel_rfl
@[simp] theorem esz_32 : esz Tryd.prog 32 = 1 := by kernel_rfl
@[simp] theorem ifacet_32 : ifaceT Tryd.prog 32 = true := by kernel_rfl
@[simp] theorem zero_32 : azero Tryd.prog 32 = some [.nilIface] := by kernel_rfl
@[simp] theorem nils_32 : nilPos Tryd.prog 32 = [] := by kernel_rfl
@[simp] theorem app_32 : appOk Tryd.prog 32 = true := by kernel_rfl
@[simp] theorem eby_32 : ebytes Tryd.prog 32 = 16 := by kernel_rfl
@[simp] theorem info_34 : (Tryd.prog.info? 34).isSome = true := by kernel_rfl
@[simp] theorem agg_34 : aggO Tryd.prog 34 = some false := by kernel_rfl
@[simp] theorem esz_34 : esz Tryd.prog 34 = 1 := by kernel_rfl
@[simp] theorem funct_34 : funcT Tryd.prog 34 = true := by kernel_rfl
@[simp] theorem conc_34 : Tryd.prog.concrete 34 = true := by kernel_rfl
@[simp] theorem zero_34 : azero Tryd.prog 34 = some [.nilFunc] := by kernel_rfl
@[simp] theorem nils_34 : nilPos Tryd.prog 34 = [] := by kernel_rfl
@[simp] theorem app_34 : appOk Tryd.prog 34 = true := by kernel_rfl
@[simp] theorem eby_34 : ebytes Tryd.prog 34 = 8 := by kernel_rfl
@[simp] theorem info_35 : (Tryd.prog.info? 35).isSome = true := by kernel_rfl
@[simp] theorem agg_35 : aggO Tryd.prog 35 = some false := by kernel_rfl
@[simp] theorem esz_35 : esz Tryd.prog 35 = 1 := by kernel_rfl
@[simp] theorem funct_35 : funcT Tryd.prog 35 = true := by kernel_rfl
@[simp] theorem conc_35 : Tryd.prog.concrete 35 = true := by kernel_rfl
@[simp] theorem zero_35 : azero Tryd.prog 35 = some [.nilFunc] := by kernel_rfl
@[simp] theorem nils_35 : nilPos Tryd.prog 35 = [] := by kernel_rfl
@[simp] theorem app_35 : appOk Tryd.prog 35 = true := by kernel_rfl
@[simp] theorem eby_35 : ebytes Tryd.prog 35 = 8 := by kernel_rfl
@[simp] theorem info_37 : (Tryd.prog.info? 37).isSome = true := by kernel_rfl
@[simp] theorem agg_37 : aggO Tryd.prog 37 = some false := by kernel_rfl
@[simp] theorem esz_37 : esz Tryd.prog 37 = 1 := by kernel_rfl
@[simp] theorem funct_37 : funcT Tryd.prog 37 = true := by kernel_rfl
@[simp] theorem conc_37 : Tryd.prog.concrete 37 = true := by kernel_rfl
@[simp] theorem zero_37 : azero Tryd.prog 37 = some [.nilFunc] := by kernel_rfl
@[simp] theorem nils_37 : nilPos Tryd.prog 37 = [] := by kernel_rfl
@[simp] theorem app_37 : appOk Tryd.prog 37 = true := by kernel_rfl
@[simp] theorem eby_37 : ebytes Tryd.prog 37 = 8 := by kernel_rfl
@[simp] theorem info_38 : (Tryd.prog.info? 38).isSome = true := by kernel_rfl
@[simp] theorem agg_38 : aggO Tryd.prog 38 = some false := by kernel_rfl
@[simp] theorem esz_38 : esz Tryd.prog 38 = 1 := by kernel_rfl
@[simp] theorem funct_38 : funcT Tryd.prog 38 = true := by kernel_rfl
@[simp] theorem conc_38 : Tryd.prog.concrete 38 = true := by kernel_rfl
@[simp] theorem zero_38 : azero Tryd.prog 38 = some [.nilFunc] := by kernel_rfl
@[simp] theorem nils_38 : nilPos Tryd.prog 38 = [] := by kernel_rfl
@[simp] theorem app_38 : appOk Tryd.prog 38 = true := by kernel_rfl
@[simp] theorem eby_38 : ebytes Tryd.prog 38 = 8 := by kernel_rfl
@[simp] theorem info_39 : (Tryd.prog.info? 39).isSome = true := by kernel_rfl
@[simp] theorem agg_39 : aggO Tryd.prog 39 = some false := by kernel_rfl
@[simp] theorem esz_39 : esz Tryd.prog 39 = 1 := by kernel_rfl
@[simp] theorem funct_39 : funcT Tryd.prog 39 = true := by kernel_rfl
@[simp] theorem conc_39 : Tryd.prog.concrete 39 = true := by kernel_rfl
@[simp] theorem zero_39 : azero Tryd.prog 39 = some [.nilFunc] := by kernel_rfl
@[simp] theorem nils_39 : nilPos Tryd.prog 39 = [] := by kernel_rfl
@[simp] theorem app_39 : appOk Tryd.prog 39 = true := by kernel_rfl
@[simp] theorem eby_39 : ebytes Tryd.prog 39 = 8 := by kernel_rfl
@[simp] theorem info_40 : (Tryd.prog.info? 40).isSome = true := by kernel_rfl
@[simp] theorem agg_40 : aggO Tryd.prog 40 = some false := by kernel_rfl
@[simp] theorem esz_40 : esz Tryd.prog 40 = 1 := by kernel_rfl
@[simp] theorem funct_40 : funcT Tryd.prog 40 = true := by kernel_rfl
@[simp] theorem conc_40 : Tryd.prog.concrete 40 = true := by kernel_rfl
@[simp] theorem zero_40 : azero Tryd.prog 40 = some [.nilFunc] := by kernel_rfl
@[simp] theorem nils_40 : nilPos Tryd.prog 40 = [] := by kernel_rfl
@[simp] theorem app_40 : appOk Tryd.prog 40 = true := by kernel_rfl
@[simp] theorem eby_40 : ebytes Tryd.prog 40 = 8 := by kernel_rfl
@[simp] theorem info_41 : (Tryd.prog.info? 41).isSome = true := by kernel_rfl
@[simp] theorem agg_41 : aggO Tryd.prog 41 = some false := by kernel_rfl
@[simp] theorem esz_41 : esz Tryd.prog 41 = 1 := by kernel_rfl
@[simp] theorem funct_41 : funcT Tryd.prog 41 = true := by kernel_rfl
@[simp] theorem conc_41 : Tryd.prog.concrete 41 = true := by kernel_rfl
@[simp] theorem zero_41 : azero Tryd.prog 41 = some [.nilFunc] := by kernel_rfl
@[simp] theorem nils_41 : nilPos Tryd.prog 41 = [] := by kernel_rfl
@[simp] theorem app_41 : appOk Tryd.prog 41 = true := by kernel_rfl
@[simp] theorem eby_41 : ebytes Tryd.prog 41 = 8 := by kernel_rfl
@[simp] theorem info_42 : (Tryd.prog.info? 42).isSome = true := by kernel_rfl
@[simp] theorem agg_42 : aggO Tryd.prog 42 = some false := by kernel_rfl
@[simp] theorem esz_42 : esz Tryd.prog 42 = 1 := by kernel_rfl
@[simp] theorem elem_42 : elemT Tryd.prog 42 = some 47 := by kernel_rfl
@[simp] theorem conc_42 : Tryd.prog.concrete 42 = true := by kernel_rfl
@[simp] theorem zero_42 : azero Tryd.prog 42 = some [.slice []] := by kernel_rfl
@[simp] theorem nils_42 : nilPos Tryd.prog 42 = [0] := by kernel_rfl
@[simp] theorem app_42 : appOk Tryd.prog 42 = true := by kernel_rfl
@[simp] theorem eby_42 : ebytes Tryd.prog 42 = 24 := by kernel_rfl
@[simp] theorem info_43 : (Tryd.prog.info? 43).isSome = true := by kernel_rfl
@[simp] theorem agg_43 : aggO Tryd.prog 43 = some true := by kernel_rfl
@[simp] theorem esz_43 : esz Tryd.prog 43 = 2 := by kernel_rfl
@[simp] theorem conc_43 : Tryd.prog.concrete 43 = true := by kernel_rfl
@[simp] theorem foff_43_0 : foff Tryd.prog 43 0 = some 0 := by kernel_rfl
@[simp] theorem ftyp_43_0 : ftyp Tryd.prog 43 0 = 42 := by kernel_rfl
@[simp] theorem foff_43_1 : foff Tryd.prog 43 1 = some 1 := by kernel_rfl
@[simp] theorem ftyp_43_1 : ftyp Tryd.prog 43 1 = 3 := by kernel_rfl
@[simp] theorem known_43 : knownF Tryd.prog 43 = true := by kernel_rfl
@[simp] theorem zero_43 : azero Tryd.prog 43 = some [.slice [], .int .i64 0] := by kernel_rfl
@[simp] theorem nils_43 : nilPos Tryd.prog 43 = [0] := by kernel_rfl
@[simp] theorem app_43 : appOk Tryd.prog 43 = true := by kernel_rfl
@[simp] theorem eby_43 : ebytes Tryd.prog 43 = 32 := by kernel_rfl
@[simp] theorem info_44 : (Tryd.prog.info? 44).isSome = true := by kernel_rfl
@[simp] theorem agg_44 : aggO Tryd.prog 44 = some true := by kernel_rfl
@[simp] theorem esz_44 : esz Tryd.prog 44 = 2 := by kernel_rfl
@[simp] theorem conc_44 : Tryd.prog.concrete 44 = true := by kernel_rfl
@[simp] theorem foff_44_0 : foff Tryd.prog 44 0 = some 0 := by kernel_rfl
@[simp] theorem ftyp_44_0 : ftyp Tryd.prog 44 0 = 42 := by kernel_rfl
@[simp] theorem foff_44_1 : foff Tryd.prog 44 1 = some 1 := by kernel_rfl
@[simp] theorem ftyp_44_1 : ftyp Tryd.prog 44 1 = 3 := by kernel_rfl
@[simp] theorem known_44 : knownF Tryd.prog 44 = true := by kernel_rfl
@[simp] theorem zero_44 : azero Tryd.prog 44 = some [.slice [], .int .i64 0] := by kernel_rfl
@[simp] theorem nils_44 : nilPos Tryd.prog 44 = [0] := by kernel_rfl
@[simp] theorem app_44 : appOk Tryd.prog 44 = true := by kernel_rfl
@[simp] theorem eby_44 : ebytes Tryd.prog 44 = 32 := by kernel_rfl
@[simp] theorem info_45 : (Tryd.prog.info? 45).isSome = true := by kernel_rfl
@[simp] theorem agg_45 : aggO Tryd.prog 45 = some false := by kernel_rfl
@[simp] theorem esz_45 : esz Tryd.prog 45 = 1 := by kernel_rfl
@[simp] theorem funct_45 : funcT Tryd.prog 45 = true := by kernel_rfl
@[simp] theorem conc_45 : Tryd.prog.concrete 45 = true := by kernel_rfl
@[simp] theorem zero_45 : azero Tryd.prog 45 = some [.nilFunc] := by kernel_rfl
@[simp] theorem nils_45 : nilPos Tryd.prog 45 = [] := by kernel_rfl
@[simp] theorem app_45 : appOk Tryd.prog 45 = true := by kernel_rfl
@[simp] theorem eby_45 : ebytes Tryd.prog 45 = 8 := by kernel_rfl
@[simp] theorem info_46 : (Tryd.prog.info? 46).isSome = true := by kernel_rfl
@[simp] theorem agg_46 : aggO Tryd.prog 46 = some true := by kernel_rfl
@[simp] theorem esz_46 : esz Tryd.prog 46 = 3 := by kernel_rfl
@[simp] theorem conc_46 : Tryd.prog.concrete 46 = true := by kernel_rfl
@[simp] theorem foff_46_0 : foff Tryd.prog 46 0 = some 0 := by kernel_rfl
@[simp] theorem ftyp_46_0 : ftyp Tryd.prog 46 0 = 3 := by kernel_rfl
@[simp] theorem foff_46_1 : foff Tryd.prog 46 1 = some 1 := by kernel_rfl
@[simp] theorem ftyp_46_1 : ftyp Tryd.prog 46 1 = 9 := by kernel_rfl
@[simp] theorem foff_46_2 : foff Tryd.prog 46 2 = some 2 := by kernel_rfl
@[simp] theorem ftyp_46_2 : ftyp Tryd.prog 46 2 = 3 := by kernel_rfl
@[simp] theorem known_46 : knownF Tryd.prog 46 = true := by kernel_rfl
@[simp] theorem zero_46 : azero Tryd.prog 46 = some [.int .i64 0, .str [], .int .i64 0] := by kernel_rfl
@[simp] theorem nils_46 : nilPos Tryd.prog 46 = [] := by kernel_rfl
@[simp] theorem app_46 : appOk Tryd.prog 46 = true := by kernel_rfl
@[simp] theorem eby_46 : ebytes Tryd.prog 46 = 32 := by kernel_rfl
@[simp] theorem info_47 : (Tryd.prog.info? 47).isSome = true := by kernel_rfl
@[simp] theorem agg_47 : aggO Tryd.prog 47 = some true := by kernel_rfl
@[simp] theorem esz_47 : esz Tryd.prog 47 = 3 := by kernel_rfl
@[simp] theorem conc_47 : Tryd.prog.concrete 47 = true := by kernel_rfl
@[simp] theorem foff_47_0 : foff Tryd.prog 47 0 = some 0 := by kernel_rfl
@[simp] theorem ftyp_47_0 : ftyp Tryd.prog 47 0 = 3 := by kernel_rfl
@[simp] theorem foff_47_1 : foff Tryd.prog 47 1 = some 1 := by kernel_rfl
@[simp] theorem ftyp_47_1 : ftyp Tryd.prog 47 1 = 9 := by kernel_rfl
@[simp] theorem foff_47_2 : foff Tryd.prog 47 2 = some 2 := by kernel_rfl
@[simp] theorem ftyp_47_2 : ftyp Tryd.prog 47 2 = 3 := by kernel_rfl
@[simp] theorem known_47 : knownF Tryd.prog 47 = true := by kernel_rfl
@[simp] theorem flats_47 : flatS Tryd.prog 47 = some [3, 9, 3] := by kernel_rfl
@[simp] theorem zero_47 : azero Tryd.prog 47 = some [.int .i64 0, .str [], .int .i64 0] := by kernel_rfl
@[simp] theorem nils_47 : nilPos Tryd.prog 47 = [] := by kernel_rfl
@[simp] theorem app_47 : appOk Tryd.prog 47 = true := by kernel_rfl
@[simp] theorem eby_47 : ebytes Tryd.prog 47 = 32 := by kernel_rfl
@[simp] theorem info_48 : (Tryd.prog.info? 48).isSome = true := by kernel_rfl
@[simp] theorem agg_48 : aggO Tryd.prog 48 = some false := by kernel_rfl
@[simp] theorem esz_48 : esz Tryd.prog 48 = 1 := by kernel_rfl
@[simp] theorem funct_48 : funcT Tryd.prog 48 = true := by kernel_rfl
@[simp] theorem conc_48 : Tryd.prog.concrete 48 = true := by kernel_rfl
@[simp] theorem zero_48 : azero Tryd.prog 48 = some [.nilFunc] := by kernel_rfl
@[simp] theorem nils_48 : nilPos Tryd.prog 48 = [] := by kernel_rfl
@[simp] theorem app_48 : appOk Tryd.prog 48 = true := by kernel_rfl
@[simp] theorem eby_48 : ebytes Tryd.prog 48 = 8 := by kernel_rfl
@[simp] theorem info_49 : (Tryd.prog.info? 49).isSome = true := by kernel_rfl
@[simp] theorem agg_49 : aggO Tryd.prog 49 = some false := by kernel_rfl
@[simp] theorem esz_49 : esz Tryd.prog 49 = 1 := by kernel_rfl
@[simp] theorem elem_49 : elemT Tryd.prog 49 = some 86 := by kernel_rfl
@[simp] theorem conc_49 : Tryd.prog.concrete 49 = true := by kernel_rfl
@[simp] theorem zero_49 : azero Tryd.prog 49 = some [.slice []] := by kernel_rfl
@[simp] theorem nils_49 : nilPos Tryd.prog 49 = [0] := by kernel_rfl
@[simp] theorem app_49 : appOk Tryd.prog 49 = true := by kernel_rfl
@[simp] theorem eby_49 : ebytes Tryd.prog 49 = 24 := by kernel_rfl
@[simp] theorem info_51 : (Tryd.prog.info? 51).isSome = true := by kernel_rfl
@[simp] theorem agg_51 : aggO Tryd.prog 51 = some false := by kernel_rfl
@[simp] theorem esz_51 : esz Tryd.prog 51 = 1 := by kernel_rfl
@[simp] theorem funct_51 : funcT Tryd.prog 51 = true := by kernel_rfl
@[simp] theorem conc_51 : Tryd.prog.concrete 51 = true := by kernel_rfl
@[simp] theorem zero_51 : azero Tryd.prog 51 = some [.nilFunc] := by kernel_rfl
@[simp] theorem nils_51 : nilPos Tryd.prog 51 = [] := by kernel_rfl
@[simp] theorem app_51 : appOk Tryd.prog 51 = true := by kernel_rfl
@[simp] theorem eby_51 : ebytes Tryd.prog 51 = 8 := by kernel_rfl
@[simp] theorem info_52 : (Tryd.prog.info? 52).isSome = true := by kernel_rfl
@[simp] theorem agg_52 : aggO Tryd.prog 52 = some false := by kernel_rfl
@[simp] theorem esz_52 : esz Tryd.prog 52 = 1 := by kernel_rfl
@[simp] theorem conc_52 : Tryd.prog.concrete 52 = true := by kernel_rfl
@[simp] theorem zero_52 : azero Tryd.prog 52 = some [.nilPtr] := by kernel_rfl
@[simp] theorem nils_52 : nilPos Tryd.prog 52 = [] := by kernel_rfl
@[simp] theorem app_52 : appOk Tryd.prog 52 = true := by kernel_rfl
@[simp] theorem eby_52 : ebytes Tryd.prog 52 = 8 := by kernel_rfl
@[simp] theorem info_53 : (Tryd.prog.info? 53).isSome = true := by kernel_rfl
@[simp] theorem agg_53 : aggO Tryd.prog 53 = some false := by kernel_rfl
@[simp] theorem esz_53 : esz Tryd.prog 53 = 1 := by kernel_rfl
@[simp] theorem funct_53 : funcT Tryd.prog 53 = true := by kernel_rfl
@[simp] theorem conc_53 : Tryd.prog.concrete 53 = true := by kernel_rfl
@[simp] theorem zero_53 : azero Tryd.prog 53 = some [.nilFunc] := by kernel_rfl
@[simp] theorem nils_53 : nilPos Tryd.prog 53 = [] := by kernel_rfl
@[simp] theorem app_53 : appOk Tryd.prog 53 = true := by kernel_rfl
@[simp] theorem eby_53 : ebytes Tryd.prog 53 = 8 := by kernel_rfl
@[simp] theorem info_54 : (Tryd.prog.info? 54).isSome = true := by kernel_rfl
@[simp] theorem agg_54 : aggO Tryd.prog 54 = some true := by kernel_rfl
@[simp] theorem esz_54 : esz Tryd.prog 54 = 3 := by kernel_rfl
@[simp] theorem conc_54 : Tryd.prog.concrete 54 = true := by kernel_rfl
@[simp] theorem foff_54_0 : foff Tryd.prog 54 0 = some 0 := by kernel_rfl
@[simp] theorem ftyp_54_0 : ftyp Tryd.prog 54 0 = 42 := by kernel_rfl
@[simp] theorem foff_54_1 : foff Tryd.prog 54 1 = some 1 := by kernel_rfl
@[simp] theorem ftyp_54_1 : ftyp Tryd.prog 54 1 = 3 := by kernel_rfl
@[simp] theorem foff_54_2 : foff Tryd.prog 54 2 = some 2 := by kernel_rfl
@[simp] theorem ftyp_54_2 : ftyp Tryd.prog 54 2 = 4 := by kernel_rfl
@[simp] theorem known_54 : knownF Tryd.prog 54 = true := by kernel_rfl
@[simp] theorem zero_54 : azero Tryd.prog 54 = some [.slice [], .int .i64 0, .bool false] := by kernel_rfl
@[simp] theorem nils_54 : nilPos Tryd.prog 54 = [0] := by kernel_rfl
@[simp] theorem app_54 : appOk Tryd.prog 54 = true := by kernel_rfl
@[simp] theorem eby_54 : ebytes Tryd.prog 54 = 40 := by kernel_rfl
@[simp] theorem info_55 : (Tryd.prog.info? 55).isSome = true := by kernel_rfl
@[simp] theorem agg_55 : aggO Tryd.prog 55 = some true := by kernel_rfl
@[simp] theorem esz_55 : esz Tryd.prog 55 = 3 := by kernel_rfl
@[simp] theorem conc_55 : Tryd.prog.concrete 55 = true := by kernel_rfl
@[simp] theorem foff_55_0 : foff Tryd.prog 55 0 = some 0 := by kernel_rfl
@[simp] theorem ftyp_55_0 : ftyp Tryd.prog 55 0 = 42 := by kernel_rfl
@[simp] theorem foff_55_1 : foff Tryd.prog 55 1 = some 1 := by kernel_rfl
@[simp] theorem ftyp_55_1 : ftyp Tryd.prog 55 1 = 3 := by kernel_rfl
@[simp] theorem foff_55_2 : foff Tryd.prog 55 2 = some 2 := by kernel_rfl
@[simp] theorem ftyp_55_2 : ftyp Tryd.prog 55 2 = 4 := by kernel_rfl
@[simp] theorem known_55 : knownF Tryd.prog 55 = true := by kernel_rfl
@[simp] theorem zero_55 : azero Tryd.prog 55 = some [.slice [], .int .i64 0, .bool false] := by kernel_rfl
@[simp] theorem nils_55 : nilPos Tryd.prog 55 = [0] := by kernel_rfl
@[simp] theorem app_55 : appOk Tryd.prog 55 = true := by kernel_rfl
@[simp] theorem eby_55 : ebytes Tryd.prog 55 = 40 := by kernel_rfl
@[simp] theorem info_57 : (Tryd.prog.info? 57).isSome = true := by kernel_rfl
@[simp] theorem agg_57 : aggO Tryd.prog 57 = some false := by kernel_rfl
@[simp] theorem esz_57 : esz Tryd.prog 57 = 1 := by kernel_rfl
@[simp] theorem funct_57 : funcT Tryd.prog 57 = true := by kernel_rfl
@[simp] theorem conc_57 : Tryd.prog.concrete 57 = true := by kernel_rfl
@[simp] theorem zero_57 : azero Tryd.prog 57 = some [.nilFunc] := by kernel_rfl
@[simp] theorem nils_57 : nilPos Tryd.prog 57 = [] := by kernel_rfl
@[simp] theorem app_57 : appOk Tryd.prog 57 = true := by kernel_rfl
@[simp] theorem eby_57 : ebytes Tryd.prog 57 = 8 := by kernel_rfl
@[simp] theorem info_59 : (Tryd.prog.info? 59).isSome = true := by kernel_rfl
@[simp] theorem agg_59 : aggO Tryd.prog 59 = some false := by kernel_rfl
@[simp] theorem esz_59 : esz Tryd.prog 59 = 1 := by kernel_rfl
@[simp] theorem funct_59 : funcT Tryd.prog 59 = true := by kernel_rfl
@[simp] theorem conc_59 : Tryd.prog.concrete 59 = true := by kernel_rfl
@[simp] theorem zero_59 : azero Tryd.prog 59 = some [.nilFunc] := by kernel_rfl
@[simp] theorem nils_59 : nilPos Tryd.prog 59 = [] := by kernel_rfl
@[simp] theorem app_59 : appOk Tryd.prog 59 = true := by kernel_rfl
@[simp] theorem eby_59 : ebytes Tryd.prog 59 = 8 := by kernel_rfl
@[simp] theorem info_60 : (Tryd.prog.info? 60).isSome = true := by kernel_rfl
@[simp] theorem agg_60 : aggO Tryd.prog 60 = some false := by kernel_rfl
@[simp] theorem esz_60 : esz Tryd.prog 60 = 1 := by kernel_rfl
@[simp] theorem funct_60 : funcT Tryd.prog 60 = true := by kernel_rfl
@[simp] theorem conc_60 : Tryd.prog.concrete 60 = true := by kernel_rfl
@[simp] theorem zero_60 : azero Tryd.prog 60 = some [.nilFunc] := by kernel_rfl
@[simp] theorem nils_60 : nilPos Tryd.prog 60 = [] := by kernel_rfl
@[simp] theorem app_60 : appOk Tryd.prog 60 = true := by kernel_rfl
@[simp] theorem eby_60 : ebytes Tryd.prog 60 = 8 := by kernel_rfl
@[simp] theorem info_61 : (Tryd.prog.info? 61).isSome = true := by kernel_rfl
@[simp] theorem agg_61 : aggO Tryd.prog 61 = some false := by kernel_rfl
@[simp] theorem esz_61 : esz Tryd.prog 61 = 1 := by kernel_rfl
@[simp] theorem funct_61 : funcT Tryd.prog 61 = true := by kernel_rfl
@[simp] theorem conc_61 : Tryd.prog.concrete 61 = true := by kernel_rfl
@[simp] theorem zero_61 : azero Tryd.prog 61 = some [.nilFunc] := by kernel_rfl
@[simp] theorem nils_61 : nilPos Tryd.prog 61 = [] := by kernel_rfl
@[simp] theorem app_61 : appOk Tryd.prog 61 = true := by kernel_rfl
@[simp] theorem eby_61 : ebytes Tryd.prog 61 = 8 := by kernel_rfl
@[simp] theorem info_62 : (Tryd.prog.info? 62).isSome = true := by kernel_rfl
@[simp] theorem agg_62 : aggO Tryd.prog 62 = some false := by kernel_rfl
@[simp] theorem esz_62 : esz Tryd.prog 62 = 1 := by kernel_rfl
@[simp] theorem funct_62 : funcT Tryd.prog 62 = true := by kernel_rfl
@[simp] theorem conc_62 : Tryd.prog.concrete 62 = true := by kernel_rfl
@[simp] theorem zero_62 : azero Tryd.prog 62 = some [.nilFunc] := by kernel_rfl
@[simp] theorem nils_62 : nilPos Tryd.prog 62 = [] := by kernel_rfl
@[simp] theorem app_62 : appOk Tryd.prog 62 = true := by kernel_rfl
@[simp] theorem eby_62 : ebytes Tryd.prog 62 = 8 := by kernel_rfl
@[simp] theorem info_64 : (Tryd.prog.info? 64).isSome = true := by kernel_rfl
@[simp] theorem agg_64 : aggO Tryd.prog 64 = some false := by kernel_rfl
@[simp] theorem esz_64 : esz Tryd.prog 64 = 1 := by kernel_rfl
@[simp] theorem funct_64 : funcT Tryd.prog 64 = true := by kernel_rfl
@[simp] theorem conc_64 : Tryd.prog.concrete 64 = true := by kernel_rfl
@[simp] theorem zero_64 : azero Tryd.prog 64 = some [.nilFunc] := by kernel_rfl
@[simp] theorem nils_64 : nilPos Tryd.prog 64 = [] := by kernel_rfl
@[simp] theorem app_64 : appOk Tryd.prog 64 = true := by kernel_rfl
@[simp] theorem eby_64 : ebytes Tryd.prog 64 = 8 := by kernel_rfl
@[simp] theorem info_65 : (Tryd.prog.info? 65).isSome = true := by kernel_rfl
@[simp] theorem agg_65 : aggO Tryd.prog 65 = some false := by kernel_rfl
@[simp] theorem esz_65 : esz Tryd.prog 65 = 1 := by kernel_rfl
@[simp] theorem funct_65 : funcT Tryd.prog 65 = true := by kernel_rfl
@[simp] theorem conc_65 : Tryd.prog.concrete 65 = true := by kernel_rfl
@[simp] theorem zero_65 : azero Tryd.prog 65 = some [.nilFunc] := by kernel_rfl
@[simp] theorem nils_65 : nilPos Tryd.prog 65 = [] := by kernel_rfl
@[simp] theorem app_65 : appOk Tryd.prog 65 = true := by kernel_rfl
@[simp] theorem eby_65 : ebytes Tryd.prog 65 = 8 := by kernel_rfl
@[simp] theorem info_66 : (Tryd.prog.info? 66).isSome = true := by kernel_rfl
@[simp] theorem agg_66 : aggO Tryd.prog 66 = some false := by kernel_rfl
@[simp] theorem esz_66 : esz Tryd.prog 66 = 1 := by kernel_rfl
@[simp] theorem funct_66 : funcT Tryd.prog 66 = true := by kernel_rfl
@[simp] theorem conc_66 : Tryd.prog.concrete 66 = true := by kernel_rfl
@[simp] theorem zero_66 : azero Tryd.prog 66 = some [.nilFunc] := by kernel_rfl
@[simp] theorem nils_66 : nilPos Tryd.prog 66 = [] := by kernel_rfl
@[simp] theorem app_66 : appOk Tryd.prog 66 = true := by kernel_rfl
@[simp] theorem eby_66 : ebytes Tryd.prog 66 = 8 := by kernel_rfl
@[simp] theorem info_67 : (Tryd.prog.info? 67).isSome = true := by kernel_rfl
@[simp] theorem agg_67 : aggO Tryd.prog 67 = some false := by kernel_rfl
@[simp] theorem esz_67 : esz Tryd.prog 67 = 1 := by kernel_rfl
@[simp] theorem funct_67 : funcT Tryd.prog 67 = true := by kernel_rfl
@[simp] theorem conc_67 : Tryd.prog.concrete 67 = true := by kernel_rfl
@[simp] theorem zero_67 : azero Tryd.prog 67 = some [.nilFunc] := by kernel_rfl
@[simp] theorem nils_67 : nilPos Tryd.prog 67 = [] := by kernel_rfl
@[simp] theorem app_67 : appOk Tryd.prog 67 = true := by kernel_rfl
@[simp] theorem eby_67 : ebytes Tryd.prog 67 = 8 := by kernel_rfl
@[simp] theorem info_69 : (Tryd.prog.info? 69).isSome = true := by kernel_rfl
@[simp] theorem agg_69 : aggO Tryd.prog 69 = some false := by kernel_rfl
@[simp] theorem esz_69 : esz Tryd.prog 69 = 1 := by kernel_rfl
@[simp] theorem funct_69 : funcT Tryd.prog 69 = true := by kernel_rfl
@[simp] theorem conc_69 : Tryd.prog.concrete 69 = true := by kernel_rfl
@[simp] theorem zero_69 : azero Tryd.prog 69 = some [.nilFunc] := by kernel_rfl
@[simp] theorem nils_69 : nilPos Tryd.prog 69 = [] := by kernel_rfl
@[simp] theorem app_69 : appOk Tryd.prog 69 = true := by kernel_rfl
@[simp] theorem eby_69 : ebytes Tryd.prog 69 = 8 := by kernel_rfl
@[simp] theorem info_70 : (Tryd.prog.info? 70).isSome = true := by kernel_rfl
@[simp] theorem agg_70 : aggO Tryd.prog 70 = some false := by kernel_rfl
@[simp] theorem esz_70 : esz Tryd.prog 70 = 1 := by kernel_rfl
@[simp] theorem funct_70 : funcT Tryd.prog 70 = true := by kernel_rfl
@[simp] theorem conc_70 : Tryd.prog.concrete 70 = true := by kernel_rfl
@[simp] theorem zero_70 : azero Tryd.prog 70 = some [.nilFunc] := by kernel_rfl
@[simp] theorem nils_70 : nilPos Tryd.prog 70 = [] := by kernel_rfl
@[simp] theorem app_70 : appOk Tryd.prog 70 = true := by kernel_rfl
@[simp] theorem eby_70 : ebytes Tryd.prog 70 = 8 := by kernel_rfl
@[simp] theorem info_71 : (Tryd.prog.info? 71).isSome = true := by kernel_rfl
@[simp] theorem agg_71 : aggO Tryd.prog 71 = some false := by kernel_rfl
@[simp] theorem esz_71 : esz Tryd.prog 71 = 1 := by kernel_rfl
@[simp] theorem funct_71 : funcT Tryd.prog 71 = true := by kernel_rfl
@[simp] theorem conc_71 : Tryd.prog.concrete 71 = true := by kernel_rfl
@[simp] theorem zero_71 : azero Tryd.prog 71 = some [.nilFunc] := by kernel_rfl
@[simp] theorem nils_71 : nilPos Tryd.prog 71 = [] := by kernel_rfl
@[simp] theorem app_71 : appOk Tryd.prog 71 = true := by kernel_rfl
@[simp] theorem eby_71 : ebytes Tryd.prog 71 = 8 := by kernel_rfl
@[simp] theorem info_72 : (Tryd.prog.info? 72).isSome = true := by kernel_rfl
@[simp] theorem agg_72 : aggO Tryd.prog 72 = some false := by kernel_rfl
@[simp] theorem esz_72 : esz Tryd.prog 72 = 1 := by kernel_rfl
@[simp] theorem elem_72 : elemT Tryd.prog 72 = some 9 := by kernel_rfl
@[simp] theorem conc_72 : Tryd.prog.concrete 72 = true := by kernel_rfl
@[simp] theorem zero_72 : azero Tryd.prog 72 = some [.slice []] := by kernel_rfl
@[simp] theorem nils_72 : nilPos Tryd.prog 72 = [0] := by kernel_rfl
@[simp] theorem app_72 : appOk Tryd.prog 72 = true := by kernel_rfl
@[simp] theorem eby_72 : ebytes Tryd.prog 72 = 24 := by kernel_rfl
@[simp] theorem info_73 : (Tryd.prog.info? 73).isSome = true := by kernel_rfl
@[simp] theorem agg_73 : aggO Tryd.prog 73 = some false := by kernel_rfl
@[simp] theorem esz_73 : esz Tryd.prog 73 = 1 := by kernel_rfl
@[simp] theorem funct_73 : funcT Tryd.prog 73 = true := by kernel_rfl
@[simp] theorem conc_73 : Tryd.prog.concrete 73 = true := by kernel_rfl
@[simp] theorem zero_73 : azero Tryd.prog 73 = some [.nilFunc] := by kernel_rfl
@[simp] theorem nils_73 : nilPos Tryd.prog 73 = [] := by kernel_rfl
@[simp] theorem app_73 : appOk Tryd.prog 73 = true := by kernel_rfl
@[simp] theorem eby_73 : ebytes Tryd.prog 73 = 8 := by kernel_rfl
@[simp] theorem info_74 : (Tryd.prog.info? 74).isSome = true := by kernel_rfl
@[simp] theorem agg_74 : aggO Tryd.prog 74 = some false := by kernel_rfl
@[simp] theorem esz_74 : esz Tryd.prog 74 = 1 := by kernel_rfl
@[simp] theorem funct_74 : funcT Tryd.prog 74 = true := by kernel_rfl
@[simp] theorem conc_74 : Tryd.prog.concrete 74 = true := by kernel_rfl
@[simp] theorem zero_74 : azero Tryd.prog 74 = some [.nilFunc] := by kernel_rfl
@[simp] theorem nils_74 : nilPos Tryd.prog 74 = [] := by kernel_rfl
@[simp] theorem app_74 : appOk Tryd.prog 74 = true := by kernel_rfl
@[simp] theorem eby_74 : ebytes Tryd.prog 74 = 8 := by kernel_rfl
@[simp] theorem info_75 : (Tryd.prog.info? 75).isSome = true := by kernel_rfl
@[simp] theorem agg_75 : aggO Tryd.prog 75 = some false := by kernel_rfl
@[simp] theorem esz_75 : esz Tryd.prog 75 = 1 := by kernel_rfl
@[simp] theorem funct_75 : funcT Tryd.prog 75 = true := by kernel_rfl
@[simp] theorem conc_75 : Tryd.prog.concrete 75 = true := by kernel_rfl
@[simp] theorem zero_75 : azero Tryd.prog 75 = some [.nilFunc] := by kernel_rfl
@[simp] theorem nils_75 : nilPos Tryd.prog 75 = [] := by kernel_rfl
@[simp] theorem app_75 : appOk Tryd.prog 75 = true := by kernel_rfl
@[simp] theorem eby_75 : ebytes Tryd.prog 75 = 8 := by kernel_rfl
@[simp] theorem info_76 : (Tryd.prog.info? 76).isSome = true := by kernel_rfl
@[simp] theorem agg_76 : aggO Tryd.prog 76 = some false := by kernel_rfl
@[simp] theorem esz_76 : esz Tryd.prog 76 = 1 := by kernel_rfl
@[simp] theorem funct_76 : funcT Tryd.prog 76 = true := by kernel_rfl
@[simp] theorem conc_76 : Tryd.prog.concrete 76 = true := by kernel_rfl
@[simp] theorem zero_76 : azero Tryd.prog 76 = some [.nilFunc] := by kernel_rfl
@[simp] theorem nils_76 : nilPos Tryd.prog 76 = [] := by kernel_rfl
@[simp] theorem app_76 : appOk Tryd.prog 76 = true := by kernel_rfl
@[simp] theorem eby_76 : ebytes Tryd.prog 76 = 8 := by kernel_rfl
@[simp] theorem info_77 : (Tryd.prog.info? 77).isSome = true := by kernel_rfl
@[simp] theorem agg_77 : aggO Tryd.prog 77 = some false := by kernel_rfl
@[simp] theorem esz_77 : esz Tryd.prog 77 = 1 := by kernel_rfl
@[simp] theorem funct_77 : funcT Tryd.prog 77 = true := by kernel_rfl
@[simp] theorem conc_77 : Tryd.prog.concrete 77 = true := by kernel_rfl
@[simp] theorem zero_77 : azero Tryd.prog 77 = some [.nilFunc] := by kernel_rfl
@[simp] theorem nils_77 : nilPos Tryd.prog 77 = [] := by kernel_rfl
@[simp] theorem app_77 : appOk Tryd.prog 77 = true := by kernel_rfl
@[simp] theorem eby_77 : ebytes Tryd.prog 77 = 8 := by kernel_rfl
@[simp] theorem info_78 : (Tryd.prog.info? 78).isSome = true := by kernel_rfl
@[simp] theorem agg_78 : aggO Tryd.prog 78 = some false := by kernel_rfl
@[simp] theorem esz_78 : esz Tryd.prog 78 = 1 := by kernel_rfl
@[simp] theorem funct_78 : funcT Tryd.prog 78 = true := by kernel_rfl
@[simp] theorem conc_78 : Tryd.prog.concrete 78 = true := by kernel_rfl
@[simp] theorem zero_78 : azero Tryd.prog 78 = some [.nilFunc] := by kernel_rfl
@[simp] theorem nils_78 : nilPos Tryd.prog 78 = [] := by kernel_rfl
@[simp] theorem app_78 : appOk Tryd.prog 78 = true := by kernel_rfl
@[simp] theorem eby_78 : ebytes Tryd.prog 78 = 8 := by kernel_rfl
@[simp] theorem info_79 : (Tryd.prog.info? 79).isSome = true := by kernel_rfl
@[simp] theorem agg_79 : aggO Tryd.prog 79 = some false := by kernel_rfl
@[simp] theorem esz_79 : esz Tryd.prog 79 = 1 := by kernel_rfl
@[simp] theorem funct_79 : funcT Tryd.prog 79 = true := by kernel_rfl
@[simp] theorem conc_79 : Tryd.prog.concrete 79 = true := by kernel_rfl
@[simp] theorem zero_79 : azero Tryd.prog 79 = some [.nilFunc] := by kernel_rfl
@[simp] theorem nils_79 : nilPos Tryd.prog 79 = [] := by kernel_rfl
@[simp] theorem app_79 : appOk Tryd.prog 79 = true := by kernel_rfl
@[simp] theorem eby_79 : ebytes Tryd.prog 79 = 8 := by kernel_rfl
@[simp] theorem info_80 : (Tryd.prog.info? 80).isSome = true := by kernel_rfl
@[simp] theorem agg_80 : aggO Tryd.prog 80 = some false := by kernel_rfl
@[simp] theorem esz_80 : esz Tryd.prog 80 = 1 := by kernel_rfl
@[simp] theorem funct_80 : funcT Tryd.prog 80 = true := by kernel_rfl
@[simp] theorem conc_80 : Tryd.prog.concrete 80 = true := by kernel_rfl
@[simp] theorem zero_80 : azero Tryd.prog 80 = some [.nilFunc] := by kernel_rfl
@[simp] theorem nils_80 : nilPos Tryd.prog 80 = [] := by kernel_rfl
@[simp] theorem app_80 : appOk Tryd.prog 80 = true := by kernel_rfl
@[simp] theorem eby_80 : ebytes Tryd.prog 80 = 8 := by kernel_rfl
@[simp] theorem info_81 : (Tryd.prog.info? 81).isSome = true := by kernel_rfl
@[simp] theorem agg_81 : aggO Tryd.prog 81 = some false := by kernel_rfl
@[simp] theorem esz_81 : esz Tryd.prog 81 = 1 := by kernel_rfl
@[simp] theorem funct_81 : funcT Tryd.prog 81 = true := by kernel_rfl
@[simp] theorem conc_81 : Tryd.prog.concrete 81 = true := by kernel_rfl
@[simp] theorem zero_81 : azero Tryd.prog 81 = some [.nilFunc] := by kernel_rfl
@[simp] theorem nils_81 : nilPos Tryd.prog 81 = [] := by kernel_rfl
@[simp] theorem app_81 : appOk Tryd.prog 81 = true := by kernel_rfl
@[simp] theorem eby_81 : ebytes Tryd.prog 81 = 8 := by kernel_rfl
@[simp] theorem info_82 : (Tryd.prog.info? 82).isSome = true := by kernel_rfl
@[simp] theorem agg_82 : aggO Tryd.prog 82 = some false := by kernel_rfl
@[simp] theorem esz_82 : esz Tryd.prog 82 = 1 := by kernel_rfl
@[simp] theorem funct_82 : funcT Tryd.prog 82 = true := by kernel_rfl
@[simp] theorem conc_82 : Tryd.prog.concrete 82 = true := by kernel_rfl
@[simp] theorem zero_82 : azero Tryd.prog 82 = some [.nilFunc] := by kernel_rfl
@[simp] theorem nils_82 : nilPos Tryd.prog 82 = [] := by kernel_rfl
@[simp] theorem app_82 : appOk Tryd.prog 82 = true := by kernel_rfl
@[simp] theorem eby_82 : ebytes Tryd.prog 82 = 8 := by kernel_rfl
@[simp] theorem info_83 : (Tryd.prog.info? 83).isSome = true := by kernel_rfl
@[simp] theorem agg_83 : aggO Tryd.prog 83 = some false := by kernel_rfl
@[simp] theorem esz_83 : esz Tryd.prog 83 = 1 := by kernel_rfl
@[simp] theorem funct_83 : funcT Tryd.prog 83 = true := by kernel_rfl
@[simp] theorem conc_83 : Tryd.prog.concrete 83 = true := by kernel_rfl
@[simp] theorem zero_83 : azero Tryd.prog 83 = some [.nilFunc] := by kernel_rfl
@[simp] theorem nils_83 : nilPos Tryd.prog 83 = [] := by kernel_rfl
@[simp] theorem app_83 : appOk Tryd.prog 83 = true := by kernel_rfl
@[simp] theorem eby_83 : ebytes Tryd.prog 83 = 8 := by kernel_rfl
@[simp] theorem info_84 : (Tryd.prog.info? 84).isSome = true := by kernel_rfl
@[simp] theorem agg_84 : aggO Tryd.prog 84 = some false := by kernel_rfl
@[simp] theorem esz_84 : esz Tryd.prog 84 = 1 := by kernel_rfl
@[simp] theorem funct_84 : funcT Tryd.prog 84 = true := by kernel_rfl
@[simp] theorem conc_84 : Tryd.prog.concrete 84 = true := by kernel_rfl
@[simp] theorem zero_84 : azero Tryd.prog 84 = some [.nilFunc] := by kernel_rfl
@[simp] theorem nils_84 : nilPos Tryd.prog 84 = [] := by kernel_rfl
@[simp] theorem app_84 : appOk Tryd.prog 84 = true := by kernel_rfl
@[simp] theorem eby_84 : ebytes Tryd.prog 84 = 8 := by kernel_rfl
@[simp] theorem info_85 : (Tryd.prog.info? 85).isSome = true := by kernel_rfl
@[simp] theorem agg_85 : aggO Tryd.prog 85 = some false := by kernel_rfl
@[simp] theorem esz_85 : esz Tryd.prog 85 = 1 := by kernel_rfl
@[simp] theorem ikind_85 : ikind Tryd.prog 85 = some .i64 := by kernel_rfl
@[simp] theorem under_85 : Tryd.prog.underlying 85 = some (.int .i64) := by kernel_rfl
@[simp] theorem conc_85 : Tryd.prog.concrete 85 = true := by kernel_rfl
@[simp] theorem zero_85 : azero Tryd.prog 85 = some [.int .i64 0] := by kernel_rfl
@[simp] theorem nils_85 : nilPos Tryd.prog 85 = [] := by kernel_rfl
@[simp] theorem app_85 : appOk Tryd.prog 85 = true := by kernel_rfl
@[simp] theorem eby_85 : ebytes Tryd.prog 85 = 8 := by kernel_rfl
@[simp] theorem info_86 : (Tryd.prog.info? 86).isSome = true := by kernel_rfl
@[simp] theorem agg_86 : aggO Tryd.prog 86 = some true := by kernel_rfl
@[simp] theorem esz_86 : esz Tryd.prog 86 = 3 := by kernel_rfl
@[simp] theorem conc_86 : Tryd.prog.concrete 86 = true := by kernel_rfl
@[simp] theorem foff_86_0 : foff Tryd.prog 86 0 = some 0 := by kernel_rfl
@[simp] theorem ftyp_86_0 : ftyp Tryd.prog 86 0 = 3 := by kernel_rfl
@[simp] theorem foff_86_1 : foff Tryd.prog 86 1 = some 1 := by kernel_rfl
@[simp] theorem ftyp_86_1 : ftyp Tryd.prog 86 1 = 9 := by kernel_rfl
@[simp] theorem foff_86_2 : foff Tryd.prog 86 2 = some 2 := by kernel_rfl
@[simp] theorem ftyp_86_2 : ftyp Tryd.prog 86 2 = 3 := by kernel_rfl
@[simp] theorem known_86 : knownF Tryd.prog 86 = true := by kernel_rfl
@[simp] theorem flats_86 : flatS Tryd.prog 86 = some [3, 9, 3] := by kernel_rfl
@[simp] theorem zero_86 : azero Tryd.prog 86 = some [.int .i64 0, .str [], .int .i64 0] := by kernel_rfl
@[simp] theorem nils_86 : nilPos Tryd.prog 86 = [] := by kernel_rfl
@[simp] theorem app_86 : appOk Tryd.prog 86 = true := by kernel_rfl
@[simp] theorem eby_86 : ebytes Tryd.prog 86 = 32 := by kernel_rfl
@[simp] theorem info_87 : (Tryd.prog.info? 87).isSome = true := by kernel_rfl
@[simp] theorem agg_87 : aggO Tryd.prog 87 = some false := by kernel_rfl
@[simp] theorem esz_87 : esz Tryd.prog 87 = 1 := by kernel_rfl
@[simp] theorem funct_87 : funcT Tryd.prog 87 = true := by kernel_rfl
@[simp] theorem conc_87 : Tryd.prog.concrete 87 = true := by kernel_rfl
@[simp] theorem zero_87 : azero Tryd.prog 87 = some [.nilFunc] := by kernel_rfl
@[simp] theorem nils_87 : nilPos Tryd.prog 87 = [] := by kernel_rfl
@[simp] theorem app_87 : appOk Tryd.prog 87 = true := by kernel_rfl
@[simp] theorem eby_87 : ebytes Tryd.prog 87 = 8 := by kernel_rfl
@[simp] theorem info_88 : (Tryd.prog.info? 88).isSome = true := by kernel_rfl
@[simp] theorem agg_88 : aggO Tryd.prog 88 = some false := by kernel_rfl
@[simp] theorem esz_88 : esz Tryd.prog 88 = 1 := by kernel_rfl
@[simp] theorem funct_88 : funcT Tryd.prog 88 = true := by kernel_rfl
@[simp] theorem conc_88 : Tryd.prog.concrete 88 = true := by kernel_rfl
@[simp] theorem zero_88 : azero Tryd.prog 88 = some [.nilFunc] := by kernel_rfl
@[simp] theorem nils_88 : nilPos Tryd.prog 88 = [] := by kernel_rfl
@[simp] theorem app_88 : appOk Tryd.prog 88 = true := by kernel_rfl
@[simp] theorem eby_88 : ebytes Tryd.prog 88 = 8 := by kernel_rfl
@[simp] theorem info_89 : (Tryd.prog.info? 89).isSome = true := by kernel_rfl
@[simp] theorem agg_89 : aggO Tryd.prog 89 = some false := by kernel_rfl
@[simp] theorem esz_89 : esz Tryd.prog 89 = 1 := by kernel_rfl
@[simp] theorem funct_89 : funcT Tryd.prog 89 = true := by kernel_rfl
@[simp] theorem conc_89 : Tryd.prog.concrete 89 = true := by kernel_rfl
@[simp] theorem zero_89 : azero Tryd.prog 89 = some [.nilFunc] := by kernel_rfl
@[simp] theorem nils_89 : nilPos Tryd.prog 89 = [] := by kernel_rfl
@[simp] theorem app_89 : appOk Tryd.prog 89 = true := by kernel_rfl
@[simp] theorem eby_89 : ebytes Tryd.prog 89 = 8 := by kernel_rfl
@[simp] theorem info_90 : (Tryd.prog.info? 90).isSome = true := by kernel_rfl
@[simp] theorem agg_90 : aggO Tryd.prog 90 = some false := by kernel_rfl
@[simp] theorem esz_90 : esz Tryd.prog 90 = 1 := by kernel_rfl
@[simp] theorem funct_90 : funcT Tryd.prog 90 = true := by kernel_rfl
@[simp] theorem conc_90 : Tryd.prog.concrete 90 = true := by kernel_rfl
@[simp] theorem zero_90 : azero Tryd.prog 90 = some [.nilFunc] := by kernel_rfl
@[simp] theorem nils_90 : nilPos Tryd.prog 90 = [] := by kernel_rfl
@[simp] theorem app_90 : appOk Tryd.prog 90 = true := by kernel_rfl
@[simp] theorem eby_90 : ebytes Tryd.prog 90 = 8 := by kernel_rfl
@[simp] theorem info_91 : (Tryd.prog.info? 91).isSome = true := by kernel_rfl
@[simp] theorem agg_91 : aggO Tryd.prog 91 = some true := by kernel_rfl
@[simp] theorem esz_91 : esz Tryd.prog 91 = 2 := by kernel_rfl
@[simp] theorem conc_91 : Tryd.prog.concrete 91 = true := by kernel_rfl
@[simp] theorem foff_91_0 : foff Tryd.prog 91 0 = some 0 := by kernel_rfl
@[simp] theorem ftyp_91_0 : ftyp Tryd.prog 91 0 = 49 := by kernel_rfl
@[simp] theorem foff_91_1 : foff Tryd.prog 91 1 = some 1 := by kernel_rfl
@[simp] theorem ftyp_91_1 : ftyp Tryd.prog 91 1 = 32 := by kernel_rfl
@[simp] theorem known_91 : knownF Tryd.prog 91 = true := by kernel_rfl
@[simp] theorem zero_91 : azero Tryd.prog 91 = some [.slice [], .nilIface] := by kernel_rfl
@[simp] theorem nils_91 : nilPos Tryd.prog 91 = [0] := by kernel_rfl
@[simp] theorem app_91 : appOk Tryd.prog 91 = true := by kernel_rfl
@[simp] theorem eby_91 : ebytes Tryd.prog 91 = 40 := by kernel_rfl
@[simp] theorem info_92 : (Tryd.prog.info? 92).isSome = true := by kernel_rfl
@[simp] theorem agg_92 : aggO Tryd.prog 92 = some true := by kernel_rfl
@[simp] theorem esz_92 : esz Tryd.prog 92 = 2 := by kernel_rfl
@[simp] theorem conc_92 : Tryd.prog.concrete 92 = true := by kernel_rfl
@[simp] theorem foff_92_0 : foff Tryd.prog 92 0 = some 0 := by kernel_rfl
@[simp] theorem ftyp_92_0 : ftyp Tryd.prog 92 0 = 49 := by kernel_rfl
@[simp] theorem foff_92_1 : foff Tryd.prog 92 1 = some 1 := by kernel_rfl
@[simp] theorem ftyp_92_1 : ftyp Tryd.prog 92 1 = 32 := by kernel_rfl
@[simp] theorem known_92 : knownF Tryd.prog 92 = true := by kernel_rfl
@[simp] theorem zero_92 : azero Tryd.prog 92 = some [.slice [], .nilIface] := by kernel_rfl
@[simp] theorem nils_92 : nilPos Tryd.prog 92 = [0] := by kernel_rfl
@[simp] theorem app_92 : appOk Tryd.prog 92 = true := by kernel_rfl
@[simp] theorem eby_92 : ebytes Tryd.prog 92 = 40 := by kernel_rfl
@[simp] theorem info_93 : (Tryd.prog.info? 93).isSome = true := by kernel_rfl
@[simp] theorem agg_93 : aggO Tryd.prog 93 = some false := by kernel_rfl
@[simp] theorem esz_93 : esz Tryd.prog 93 = 1 := by kernel_rfl
@[simp] theorem funct_93 : funcT Tryd.prog 93 = true := by kernel_rfl
@[simp] theorem conc_93 : Tryd.prog.concrete 93 = true := by kernel_rfl
@[simp] theorem zero_93 : azero Tryd.prog 93 = some [.nilFunc] := by kernel_rfl
@[simp] theorem nils_93 : nilPos Tryd.prog 93 = [] := by kernel_rfl
@[simp] theorem app_93 : appOk Tryd.prog 93 = true := by kernel_rfl
@[simp] theorem eby_93 : ebytes Tryd.prog 93 = 8 := by kernel_rfl
@[simp] theorem info_95 : (Tryd.prog.info? 95).isSome = true := by kernel_rfl
@[simp] theorem agg_95 : aggO Tryd.prog 95 = some false := by kernel_rfl
@[simp] theorem esz_95 : esz Tryd.prog 95 = 1 := by kernel_rfl
@[simp] theorem funct_95 : funcT Tryd.prog 95 = true := by kernel_rfl
@[simp] theorem conc_95 : Tryd.prog.concrete 95 = true := by kernel_rfl
@[simp] theorem zero_95 : azero Tryd.prog 95 = some [.nilFunc] := by kernel_rfl
@[simp] theorem nils_95 : nilPos Tryd.prog 95 = [] := by kernel_rfl
@[simp] theorem app_95 : appOk Tryd.prog 95 = true := by kernel_rfl
@[simp] theorem eby_95 : ebytes Tryd.prog 95 = 8 := by kernel_rfl
@[simp] theorem info_97 : (Tryd.prog.info? 97).isSome = true := by kernel_rfl
@[simp] theorem agg_97 : aggO Tryd.prog 97 = some false := by kernel_rfl
@[simp] theorem esz_97 : esz Tryd.prog 97 = 1 := by kernel_rfl
@[simp] theorem funct_97 : funcT Tryd.prog 97 = true := by kernel_rfl
@[simp] theorem conc_97 : Tryd.prog.concrete 97 = true := by kernel_rfl
@[simp] theorem zero_97 : azero Tryd.prog 97 = some [.nilFunc] := by kernel_rfl
@[simp] theorem nils_97 : nilPos Tryd.prog 97 = [] := by kernel_rfl
@[simp] theorem app_97 : appOk Tryd.prog 97 = true := by kernel_rfl
@[simp] theorem eby_97 : ebytes Tryd.prog 97 = 8 := by kernel_rfl
@[simp] theorem info_99 : (Tryd.prog.info? 99).isSome = true := by kernel_rfl
@[simp] theorem agg_99 : aggO Tryd.prog 99 = some false := by kernel_rfl
@[simp] theorem esz_99 : esz Tryd.prog 99 = 1 := by kernel_rfl
@[simp] theorem funct_99 : funcT Tryd.prog 99 = true := by kernel_rfl
@[simp] theorem conc_99 : Tryd.prog.concrete 99 = true := by kernel_rfl
@[simp] theorem zero_99 : azero Tryd.prog 99 = some [.nilFunc] := by kernel_rfl
@[simp] theorem nils_99 : nilPos Tryd.prog 99 = [] := by kernel_rfl
@[simp] theorem app_99 : appOk Tryd.prog 99 = true := by kernel_rfl
@[simp] theorem eby_99 : ebytes Tryd.prog 99 = 8 := by kernel_rfl
@[simp] theorem info_101 : (Tryd.prog.info? 101).isSome = true := by kernel_rfl
@[simp] theorem agg_101 : aggO Tryd.prog 101 = some false := by kernel_rfl
@[simp] theorem esz_101 : esz Tryd.prog 101 = 1 := by kernel_rfl
@[simp] theorem funct_101 : funcT Tryd.prog 101 = true := by kernel_rfl
@[simp] theorem conc_101 : Tryd.prog.concrete 101 = true := by kernel_rfl
@[simp] theorem zero_101 : azero Tryd.prog 101 = some [.nilFunc] := by kernel_rfl
@[simp] theorem nils_101 : nilPos Tryd.prog 101 = [] := by kernel_rfl
@[simp] theorem app_101 : appOk Tryd.prog 101 = true := by kernel_rfl
@[simp] theorem eby_101 : ebytes Tryd.prog 101 = 8 := by kernel_rfl
@[simp] theorem info_102 : (Tryd.prog.info? 102).isSome = true := by kernel_rfl
@[simp] theorem agg_102 : aggO Tryd.prog 102 = some false := by kernel_rfl
@[simp] theorem esz_102 : esz Tryd.prog 102 = 1 := by kernel_rfl
@[simp] theorem funct_102 : funcT Tryd.prog 102 = true := by kernel_rfl
@[simp] theorem conc_102 : Tryd.prog.concrete 102 = true := by kernel_rfl
@[simp] theorem zero_102 : azero Tryd.prog 102 = some [.nilFunc] := by kernel_rfl
@[simp] theorem nils_102 : nilPos Tryd.prog 102 = [] := by kernel_rfl
@[simp] theorem app_102 : appOk Tryd.prog 102 = true := by kernel_rfl
@[simp] theorem eby_102 : ebytes Tryd.prog 102 = 8 := by kernel_rfl
@[simp] theorem info_103 : (Tryd.prog.info? 103).isSome = true := by kernel_rfl
@[simp] theorem agg_103 : aggO Tryd.prog 103 = some false := by kernel_rfl
@[simp] theorem esz_103 : esz Tryd.prog 103 = 1 := by kernel_rfl
@[simp] theorem funct_103 : funcT Tryd.prog 103 = true := by kernel_rfl
@[simp] theorem conc_103 : Tryd.prog.concrete 103 = true := by kernel_rfl
@[simp] theorem zero_103 : azero Tryd.prog 103 = some [.nilFunc] := by kernel_rfl
@[simp] theorem nils_103 : nilPos Tryd.prog 103 = [] := by kernel_rfl
@[simp] theorem app_103 : appOk Tryd.prog 103 = true := by kernel_rfl
@[simp] theorem eby_103 : ebytes Tryd.prog 103 = 8 := by kernel_rfl
@[simp] theorem info_104 : (Tryd.prog.info? 104).isSome = true := by kernel_rfl
@[simp] theorem agg_104 : aggO Tryd.prog 104 = some false := by kernel_rfl
@[simp] theorem esz_104 : esz Tryd.prog 104 = 1 := by kernel_rfl
@[simp] theorem funct_104 : funcT Tryd.prog 104 = true := by kernel_rfl
@[simp] theorem conc_104 : Tryd.prog.concrete 104 = true := by kernel_rfl
@[simp] theorem zero_104 : azero Tryd.prog 104 = some [.nilFunc] := by kernel_rfl
@[simp] theorem nils_104 : nilPos Tryd.prog 104 = [] := by kernel_rfl
@[simp] theorem app_104 : appOk Tryd.prog 104 = true := by kernel_rfl
@[simp] theorem eby_104 : ebytes Tryd.prog 104 = 8 := by kernel_rfl
@[simp] theorem info_105 : (Tryd.prog.info? 105).isSome = true := by kernel_rfl
@[simp] theorem agg_105 : aggO Tryd.prog 105 = some false := by kernel_rfl
@[simp] theorem esz_105 : esz Tryd.prog 105 = 1 := by kernel_rfl
@[simp] theorem funct_105 : funcT Tryd.prog 105 = true := by kernel_rfl
@[simp] theorem conc_105 : Tryd.prog.concrete 105 = true := by kernel_rfl
@[simp] theorem zero_105 : azero Tryd.prog 105 = some [.nilFunc] := by kernel_rfl
@[simp] theorem nils_105 : nilPos Tryd.prog 105 = [] := by kernel_rfl
@[simp] theorem app_105 : appOk Tryd.prog 105 = true := by kernel_rfl
@[simp] theorem eby_105 : ebytes Tryd.prog 105 = 8 := by kernel_rfl
@[simp] theorem info_106 : (Tryd.prog.info? 106).isSome = true := by kernel_rfl
@[simp] theorem agg_106 : aggO Tryd.prog 106 = some false := by kernel_rfl
@[simp] theorem esz_106 : esz Tryd.prog 106 = 1 := by kernel_rfl
@[simp] theorem funct_106 : funcT Tryd.prog 106 = true := by kernel_rfl
@[simp] theorem conc_106 : Tryd.prog.concrete 106 = true := by kernel_rfl
@[simp] theorem zero_106 : azero Tryd.prog 106 = some [.nilFunc] := by kernel_rfl
@[simp] theorem nils_106 : nilPos Tryd.prog 106 = [] := by kernel_rfl
@[simp] theorem app_106 : appOk Tryd.prog 106 = true := by kernel_rfl
@[simp] theorem eby_106 : ebytes Tryd.prog 106 = 8 := by kernel_rfl
@[simp] theorem info_107 : (Tryd.prog.info? 107).isSome = true := by kernel_rfl
@[simp] theorem agg_107 : aggO Tryd.prog 107 = some false := by kernel_rfl
@[simp] theorem esz_107 : esz Tryd.prog 107 = 1 := by kernel_rfl
@[simp] theorem funct_107 : funcT Tryd.prog 107 = true := by kernel_rfl
@[simp] theorem conc_107 : Tryd.prog.concrete 107 = true := by kernel_rfl
@[simp] theorem zero_107 : azero Tryd.prog 107 = some [.nilFunc] := by kernel_rfl
@[simp] theorem nils_107 : nilPos Tryd.prog 107 = [] := by kernel_rfl
@[simp] theorem app_107 : appOk Tryd.prog 107 = true := by kernel_rfl
@[simp] theorem eby_107 : ebytes Tryd.prog 107 = 8 := by kernel_rfl
@[simp] theorem info_108 : (Tryd.prog.info? 108).isSome = true := by kernel_rfl
@[simp] theorem agg_108 : aggO Tryd.prog 108 = some false := by kernel_rfl
@[simp] theorem esz_108 : esz Tryd.prog 108 = 1 := by kernel_rfl
@[simp] theorem funct_108 : funcT Tryd.prog 108 = true := by kernel_rfl
@[simp] theorem conc_108 : Tryd.prog.concrete 108 = true := by kernel_rfl
@[simp] theorem zero_108 : azero Tryd.prog 108 = some [.nilFunc] := by kernel_rfl
@[simp] theorem nils_108 : nilPos Tryd.prog 108 = [] := by kernel_rfl
@[simp] theorem app_108 : appOk Tryd.prog 108 = true := by kernel_rfl
@[simp] theorem eby_108 : ebytes Tryd.prog 108 = 8 := by kernel_rfl
@[simp] theorem info_109 : (Tryd.prog.info? 109).isSome = true := by kernel_rfl
@[simp] theorem agg_109 : aggO Tryd.prog 109 = some true := by kernel_rfl
@[simp] theorem esz_109 : esz Tryd.prog 109 = 2 := by kernel_rfl
@[simp] theorem conc_109 : Tryd.prog.concrete 109 = true := by kernel_rfl
@[simp] theorem foff_109_0 : foff Tryd.prog 109 0 = some 0 := by kernel_rfl
@[simp] theorem ftyp_109_0 : ftyp Tryd.prog 109 0 = 85 := by kernel_rfl
@[simp] theorem foff_109_1 : foff Tryd.prog 109 1 = some 1 := by kernel_rfl
@[simp] theorem ftyp_109_1 : ftyp Tryd.prog 109 1 = 3 := by kernel_rfl
@[simp] theorem known_109 : knownF Tryd.prog 109 = true := by kernel_rfl
@[simp] theorem zero_109 : azero Tryd.prog 109 = some [.int .i64 0, .int .i64 0] := by kernel_rfl
@[simp] theorem nils_109 : nilPos Tryd.prog 109 = [] := by kernel_rfl
@[simp] theorem app_109 : appOk Tryd.prog 109 = true := by kernel_rfl
@[simp] theorem eby_109 : ebytes Tryd.prog 109 = 16 := by kernel_rfl
@[simp] theorem info_110 : (Tryd.prog.info? 110).isSome = true := by kernel_rfl
@[simp] theorem agg_110 : aggO Tryd.prog 110 = some true := by kernel_rfl
@[simp] theorem esz_110 : esz Tryd.prog 110 = 2 := by kernel_rfl
@[simp] theorem conc_110 : Tryd.prog.concrete 110 = true := by kernel_rfl
@[simp] theorem foff_110_0 : foff Tryd.prog 110 0 = some 0 := by kernel_rfl
@[simp] theorem ftyp_110_0 : ftyp Tryd.prog 110 0 = 85 := by kernel_rfl
@[simp] theorem foff_110_1 : foff Tryd.prog 110 1 = some 1 := by kernel_rfl
@[simp] theorem ftyp_110_1 : ftyp Tryd.prog 110 1 = 3 := by kernel_rfl
@[simp] theorem known_110 : knownF Tryd.prog 110 = true := by kernel_rfl
@[simp] theorem flats_110 : flatS Tryd.prog 110 = some [85, 3] := by kernel_rfl
@[simp] theorem zero_110 : azero Tryd.prog 110 = some [.int .i64 0, .int .i64 0] := by kernel_rfl
@[simp] theorem nils_110 : nilPos Tryd.prog 110 = [] := by kernel_rfl
@[simp] theorem app_110 : appOk Tryd.prog 110 = true := by kernel_rfl
@[simp] theorem eby_110 : ebytes Tryd.prog 110 = 16 := by kernel_rfl
@[simp] theorem info_111 : (Tryd.prog.info? 111).isSome = true := by kernel_rfl
@[simp] theorem agg_111 : aggO Tryd.prog 111 = some false := by kernel_rfl
@[simp] theorem esz_111 : esz Tryd.prog 111 = 1 := by kernel_rfl
@[simp] theorem funct_111 : funcT Tryd.prog 111 = true := by kernel_rfl
@[simp] theorem conc_111 : Tryd.prog.concrete 111 = true := by kernel_rfl
@[simp] theorem zero_111 : azero Tryd.prog 111 = some [.nilFunc] := by kernel_rfl
@[simp] theorem nils_111 : nilPos Tryd.prog 111 = [] := by kernel_rfl
@[simp] theorem app_111 : appOk Tryd.prog 111 = true := by kernel_rfl
@[simp] theorem eby_111 : ebytes Tryd.prog 111 = 8 := by kernel_rfl
@[simp] theorem info_112 : (Tryd.prog.info? 112).isSome = true := by kernel_rfl
@[simp] theorem agg_112 : aggO Tryd.prog 112 = some false := by kernel_rfl
@[simp] theorem esz_112 : esz Tryd.prog 112 = 1 := by kernel_rfl
@[simp] theorem funct_112 : funcT Tryd.prog 112 = true := by kernel_rfl
@[simp] theorem conc_112 : Tryd.prog.concrete 112 = true := by kernel_rfl
@[simp] theorem zero_112 : azero Tryd.prog 112 = some [.nilFunc] := by kernel_rfl
@[simp] theorem nils_112 : nilPos Tryd.prog 112 = [] := by kernel_rfl
@[simp] theorem app_112 : appOk Tryd.prog 112 = true := by kernel_rfl
@[simp] theorem eby_112 : ebytes Tryd.prog 112 = 8 := by kernel_rfl
@[simp] theorem info_113 : (Tryd.prog.info? 113).isSome = true := by kernel_rfl
@[simp] theorem agg_113 : aggO Tryd.prog 113 = some false := by kernel_rfl
@[simp] theorem esz_113 : esz Tryd.prog 113 = 1 := by kernel_rfl
@[simp] theorem funct_113 : funcT Tryd.prog 113 = true := by kernel_rfl
@[simp] theorem conc_113 : Tryd.prog.concrete 113 = true := by kernel_rfl
@[simp] theorem zero_113 : azero Tryd.prog 113 = some [.nilFunc] := by kernel_rfl
@[simp] theorem nils_113 : nilPos Tryd.prog 113 = [] := by kernel_rfl
@[simp] theorem app_113 : appOk Tryd.prog 113 = true := by kernel_rfl
@[simp] theorem eby_113 : ebytes Tryd.prog 113 = 8 := by kernel_rfl
@[simp] theorem info_114 : (Tryd.prog.info? 114).isSome = true := by kernel_rfl
@[simp] theorem agg_114 : aggO Tryd.prog 114 = some false := by kernel_rfl
@[simp] theorem esz_114 : esz Tryd.prog 114 = 1 := by kernel_rfl
@[simp] theorem conc_114 : Tryd.prog.concrete 114 = true := by kernel_rfl
@[simp] theorem zero_114 : azero Tryd.prog 114 = some [.nilPtr] := by kernel_rfl
@[simp] theorem nils_114 : nilPos Tryd.prog 114 = [] := by kernel_rfl
@[simp] theorem app_114 : appOk Tryd.prog 114 = true := by kernel_rfl
@[simp] theorem eby_114 : ebytes Tryd.prog 114 = 8 := by kernel_rfl
@[simp] theorem info_115 : (Tryd.prog.info? 115).isSome = true := by kernel_rfl
@[simp] theorem agg_115 : aggO Tryd.prog 115 = some false := by kernel_rfl
@[simp] theorem esz_115 : esz Tryd.prog 115 = 1 := by kernel_rfl
@[simp] theorem conc_115 : Tryd.prog.concrete 115 = true := by kernel_rfl
@[simp] theorem zero_115 : azero Tryd.prog 115 = some [.nilPtr] := by kernel_rfl
@[simp] theorem nils_115 : nilPos Tryd.prog 115 = [] := by kernel_rfl
@[simp] theorem app_115 : appOk Tryd.prog 115 = true := by kernel_rfl
@[simp] theorem eby_115 : ebytes Tryd.prog 115 = 8 := by kernel_rfl
@[simp] theorem info_117 : (Tryd.prog.info? 117).isSome = true := by kernel_rfl
@[simp] theorem agg_117 : aggO Tryd.prog 117 = some false := by kernel_rfl
@[simp] theorem esz_117 : esz Tryd.prog 117 = 1 := by kernel_rfl
@[simp] theorem funct_117 : funcT Tryd.prog 117 = true := by kernel_rfl
@[simp] theorem conc_117 : Tryd.prog.concrete 117 = true := by kernel_rfl
@[simp] theorem zero_117 : azero Tryd.prog 117 = some [.nilFunc] := by kernel_rfl
@[simp] theorem nils_117 : nilPos Tryd.prog 117 = [] := by kernel_rfl
@[simp] theorem app_117 : appOk Tryd.prog 117 = true := by kernel_rfl
@[simp] theorem eby_117 : ebytes Tryd.prog 117 = 8 := by kernel_rfl
@[simp] theorem info_118 : (Tryd.prog.info? 118).isSome = true := by kernel_rfl
@[simp] theorem agg_118 : aggO Tryd.prog 118 = some false := by kernel_rfl
@[simp] theorem esz_118 : esz Tryd.prog 118 = 1 := by kernel_rfl
@[simp] theorem funct_118 : funcT Tryd.prog 118 = true := by kernel_rfl
@[simp] theorem conc_118 : Tryd.prog.concrete 118 = true := by kernel_rfl
@[simp] theorem zero_118 : azero Tryd.prog 118 = some [.nilFunc] := by kernel_rfl
@[simp] theorem nils_118 : nilPos Tryd.prog 118 = [] := by kernel_rfl
@[simp] theorem app_118 : appOk Tryd.prog 118 = true := by kernel_rfl
@[simp] theorem eby_118 : ebytes Tryd.prog 118 = 8 := by kernel_rfl
@[simp] theorem info_119 : (Tryd.prog.info? 119).isSome = true := by kernel_rfl
@[simp] theorem agg_119 : aggO Tryd.prog 119 = some false := by kernel_rfl
@[simp] theorem esz_119 : esz Tryd.prog 119 = 1 := by kernel_rfl
@[simp] theorem funct_119 : funcT Tryd.prog 119 = true := by kernel_rfl
@[simp] theorem conc_119 : Tryd.prog.concrete 119 = true := by kernel_rfl
@[simp] theorem zero_119 : azero Tryd.prog 119 = some [.nilFunc] := by kernel_rfl
@[simp] theorem nils_119 : nilPos Tryd.prog 119 = [] := by kernel_rfl
@[simp] theorem app_119 : appOk Tryd.prog 119 = true := by kernel_rfl
@[simp] theorem eby_119 : ebytes Tryd.prog 119 = 8 := by kernel_rfl
@[simp] theorem info_120 : (Tryd.prog.info? 120).isSome = true := by kernel_rfl
@[simp] theorem agg_120 : aggO Tryd.prog 120 = some false := by kernel_rfl
@[simp] theorem esz_120 : esz Tryd.prog 120 = 1 := by kernel_rfl
@[simp] theorem funct_120 : funcT Tryd.prog 120 = true := by kernel_rfl
@[simp] theorem conc_120 : Tryd.prog.concrete 120 = true := by kernel_rfl
@[simp] theorem zero_120 : azero Tryd.prog 120 = some [.nilFunc] := by kernel_rfl
@[simp] theorem nils_120 : nilPos Tryd.prog 120 = [] := by kernel_rfl
@[simp] theorem app_120 : appOk Tryd.prog 120 = true := by kernel_rfl
@[simp] theorem eby_120 : ebytes Tryd.prog 120 = 8 := by kernel_rfl
@[simp] theorem info_121 : (Tryd.prog.info? 121).isSome = true := by kernel_rfl
@[simp] theorem agg_121 : aggO Tryd.prog 121 = some false := by kernel_rfl
@[simp] theorem esz_121 : esz Tryd.prog 121 = 1 := by kernel_rfl
@[simp] theorem funct_121 : funcT Tryd.prog 121 = true := by kernel_rfl
@[simp] theorem conc_121 : Tryd.prog.concrete 121 = true := by kernel_rfl
@[simp] theorem zero_121 : azero Tryd.prog 121 = some [.nilFunc] := by kernel_rfl
@[simp] theorem nils_121 : nilPos Tryd.prog 121 = [] := by kernel_rfl
@[simp] theorem app_121 : appOk Tryd.prog 121 = true := by kernel_rfl
@[simp] theorem eby_121 : ebytes Tryd.prog 121 = 8 := by kernel_rfl
@[simp] theorem info_122 : (Tryd.prog.info? 122).isSome = true := by kernel_rfl
@[simp] theorem agg_122 : aggO Tryd.prog 122 = some false := by kernel_rfl
@[simp] theorem esz_122 : esz Tryd.prog 122 = 1 := by kernel_rfl
@[simp] theorem funct_122 : funcT Tryd.prog 122 = true := by kernel_rfl
@[simp] theorem conc_122 : Tryd.prog.concrete 122 = true := by kernel_rfl
@[simp] theorem zero_122 : azero Tryd.prog 122 = some [.nilFunc] := by kernel_rfl
@[simp] theorem nils_122 : nilPos Tryd.prog 122 = [] := by kernel_rfl
@[simp] theorem app_122 : appOk Tryd.prog 122 = true := by kernel_rfl
@[simp] theorem eby_122 : ebytes Tryd.prog 122 = 8 := by kernel_rfl
@[simp] theorem info_123 : (Tryd.prog.info? 123).isSome = true := by kernel_rfl
@[simp] theorem agg_123 : aggO Tryd.prog 123 = some true := by kernel_rfl
@[simp] theorem esz_123 : esz Tryd.prog 123 = 7 := by kernel_rfl
@[simp] theorem arrt_123 : arrT Tryd.prog 123 = some (7, 9) := by kernel_rfl
@[simp] theorem conc_123 : Tryd.prog.concrete 123 = true := by kernel_rfl
@[simp] theorem zero_123 : azero Tryd.prog 123 = some [.str [], .str [], .str [], .str [], .str [], .str [], .str []] := by kernel_rfl
@[simp] theorem nils_123 : nilPos Tryd.prog 123 = [] := by kernel_rfl
@[simp] theorem app_123 : appOk Tryd.prog 123 = true := by kernel_rfl
@[simp] theorem eby_123 : ebytes Tryd.prog 123 = 112 := by kernel_rfl
@[simp] theorem info_124 : (Tryd.prog.info? 124).isSome = true := by kernel_rfl
@[simp] theorem agg_124 : aggO Tryd.prog 124 = some false := by kernel_rfl
@[simp] theorem esz_124 : esz Tryd.prog 124 = 1 := by kernel_rfl
@[simp] theorem conc_124 : Tryd.prog.concrete 124 = true := by kernel_rfl
@[simp] theorem zero_124 : azero Tryd.prog 124 = some [.nilPtr] := by kernel_rfl
@[simp] theorem nils_124 : nilPos Tryd.prog 124 = [] := by kernel_rfl
@[simp] theorem app_124 : appOk Tryd.prog 124 = true := by kernel_rfl
@[simp] theorem eby_124 : ebytes Tryd.prog 124 = 8 := by kernel_rfl
@[simp] theorem info_125 : (Tryd.prog.info? 125).isSome = true := by kernel_rfl
@[simp] theorem agg_125 : aggO Tryd.prog 125 = some false := by kernel_rfl
@[simp] theorem esz_125 : esz Tryd.prog 125 = 1 := by kernel_rfl
@[simp] theorem ikind_125 : ikind Tryd.prog 125 = some .u64 := by kernel_rfl
@[simp] theorem under_125 : Tryd.prog.underlying 125 = some (.int .u64) := by kernel_rfl
@[simp] theorem conc_125 : Tryd.prog.concrete 125 = true := by kernel_rfl
@[simp] theorem zero_125 : azero Tryd.prog 125 = some [.int .u64 0] := by kernel_rfl
@[simp] theorem nils_125 : nilPos Tryd.prog 125 = [] := by kernel_rfl
@[simp] theorem app_125 : appOk Tryd.prog 125 = true := by kernel_rfl
@[simp] theorem eby_125 : ebytes Tryd.prog 125 = 8 := by kernel_rfl
@[simp] theorem info_126 : (Tryd.prog.info? 126).isSome = true := by kernel_rfl
@[simp] theorem agg_126 : aggO Tryd.prog 126 = some true := by kernel_rfl
@[simp] theorem esz_126 : esz Tryd.prog 126 = 3 := by kernel_rfl
@[simp] theorem conc_126 : Tryd.prog.concrete 126 = true := by kernel_rfl
@[simp] theorem foff_126_0 : foff Tryd.prog 126 0 = some 0 := by kernel_rfl
@[simp] theorem ftyp_126_0 : ftyp Tryd.prog 126 0 = 17 := by kernel_rfl
@[simp] theorem foff_126_1 : foff Tryd.prog 126 1 = some 1 := by kernel_rfl
@[simp] theorem ftyp_126_1 : ftyp Tryd.prog 126 1 = 124 := by kernel_rfl
@[simp] theorem foff_126_2 : foff Tryd.prog 126 2 = some 2 := by kernel_rfl
@[simp] theorem ftyp_126_2 : ftyp Tryd.prog 126 2 = 125 := by kernel_rfl
@[simp] theorem known_126 : knownF Tryd.prog 126 = true := by kernel_rfl
@[simp] theorem zero_126 : azero Tryd.prog 126 = some [.nilPtr, .nilPtr, .int .u64 0] := by kernel_rfl
@[simp] theorem nils_126 : nilPos Tryd.prog 126 = [] := by kernel_rfl
@[simp] theorem app_126 : appOk Tryd.prog 126 = true := by kernel_rfl
@[simp] theorem eby_126 : ebytes Tryd.prog 126 = 24 := by kernel_rfl
@[simp] theorem info_127 : (Tryd.prog.info? 127).isSome = true := by kernel_rfl
@[simp] theorem agg_127 : aggO Tryd.prog 127 = some true := by kernel_rfl
@[simp] theorem esz_127 : esz Tryd.prog 127 = 3 := by kernel_rfl
@[simp] theorem conc_127 : Tryd.prog.concrete 127 = true := by kernel_rfl
@[simp] theorem foff_127_0 : foff Tryd.prog 127 0 = some 0 := by kernel_rfl
@[simp] theorem ftyp_127_0 : ftyp Tryd.prog 127 0 = 17 := by kernel_rfl
@[simp] theorem foff_127_1 : foff Tryd.prog 127 1 = some 1 := by kernel_rfl
@[simp] theorem ftyp_127_1 : ftyp Tryd.prog 127 1 = 124 := by kernel_rfl
@[simp] theorem foff_127_2 : foff Tryd.prog 127 2 = some 2 := by kernel_rfl
@[simp] theorem ftyp_127_2 : ftyp Tryd.prog 127 2 = 125 := by kernel_rfl
@[simp] theorem known_127 : knownF Tryd.prog 127 = true := by kernel_rfl
@[simp] theorem zero_127 : azero Tryd.prog 127 = some [.nilPtr, .nilPtr, .int .u64 0] := by kernel_rfl
@[simp] theorem nils_127 : nilPos Tryd.prog 127 = [] := by kernel_rfl
@[simp] theorem app_127 : appOk Tryd.prog 127 = true := by kernel_rfl
@[simp] theorem eby_127 : ebytes Tryd.prog 127 = 24 := by kernel_rfl
@[simp] theorem info_128 : (Tryd.prog.info? 128).isSome = true := by kernel_rfl
@[simp] theorem agg_128 : aggO Tryd.prog 128 = some false := by kernel_rfl
@[simp] theorem esz_128 : esz Tryd.prog 128 = 1 := by kernel_rfl
@[simp] theorem funct_128 : funcT Tryd.prog 128 = true := by kernel_rfl
@[simp] theorem conc_128 : Tryd.prog.concrete 128 = true := by kernel_rfl
@[simp] theorem zero_128 : azero Tryd.prog 128 = some [.nilFunc] := by kernel_rfl
@[simp] theorem nils_128 : nilPos Tryd.prog 128 = [] := by kernel_rfl
@[simp] theorem app_128 : appOk Tryd.prog 128 = true := by kernel_rfl
@[simp] theorem eby_128 : ebytes Tryd.prog 128 = 8 := by kernel_rfl
@[simp] theorem info_129 : (Tryd.prog.info? 129).isSome = true := by kernel_rfl
@[simp] theorem agg_129 : aggO Tryd.prog 129 = some false := by kernel_rfl
@[simp] theorem esz_129 : esz Tryd.prog 129 = 1 := by kernel_rfl
@[simp] theorem ifacet_129 : ifaceT Tryd.prog 129 = true := by kernel_rfl
@[simp] theorem zero_129 : azero Tryd.prog 129 = some [.nilIface] := by kernel_rfl
@[simp] theorem nils_129 : nilPos Tryd.prog 129 = [] := by kernel_rfl
@[simp] theorem app_129 : appOk Tryd.prog 129 = true := by kernel_rfl
@[simp] theorem eby_129 : ebytes Tryd.prog 129 = 16 := by kernel_rfl
@[simp] theorem info_130 : (Tryd.prog.info? 130).isSome = true := by kernel_rfl
@[simp] theorem agg_130 : aggO Tryd.prog 130 = some false := by kernel_rfl
@[simp] theorem esz_130 : esz Tryd.prog 130 = 1 := by kernel_rfl
@[simp] theorem ifacet_130 : ifaceT Tryd.prog 130 = true := by kernel_rfl
@[simp] theorem zero_130 : azero Tryd.prog 130 = some [.nilIface] := by kernel_rfl
@[simp] theorem nils_130 : nilPos Tryd.prog 130 = [] := by kernel_rfl
@[simp] theorem app_130 : appOk Tryd.prog 130 = true := by kernel_rfl
@[simp] theorem eby_130 : ebytes Tryd.prog 130 = 16 := by kernel_rfl
@[simp] theorem info_131 : (Tryd.prog.info? 131).isSome = true := by kernel_rfl
@[simp] theorem agg_131 : aggO Tryd.prog 131 = some false := by kernel_rfl
@[simp] theorem esz_131 : esz Tryd.prog 131 = 1 := by kernel_rfl
@[simp] theorem funct_131 : funcT Tryd.prog 131 = true := by kernel_rfl
@[simp] theorem conc_131 : Tryd.prog.concrete 131 = true := by kernel_rfl
@[simp] theorem zero_131 : azero Tryd.prog 131 = some [.nilFunc] := by kernel_rfl
@[simp] theorem nils_131 : nilPos Tryd.prog 131 = [] := by kernel_rfl
@[simp] theorem app_131 : appOk Tryd.prog 131 = true := by kernel_rfl
@[simp] theorem eby_131 : ebytes Tryd.prog 131 = 8 := by kernel_rfl
@[simp] theorem info_132 : (Tryd.prog.info? 132).isSome = true := by kernel_rfl
@[simp] theorem agg_132 : aggO Tryd.prog 132 = some false := by kernel_rfl
@[simp] theorem esz_132 : esz Tryd.prog 132 = 1 := by kernel_rfl
@[simp] theorem ikind_132 : ikind Tryd.prog 132 = some .u8 := by kernel_rfl
@[simp] theorem under_132 : Tryd.prog.underlying 132 = some (.int .u8) := by kernel_rfl
@[simp] theorem conc_132 : Tryd.prog.concrete 132 = true := by kernel_rfl
@[simp] theorem zero_132 : azero Tryd.prog 132 = some [.int .u8 0] := by kernel_rfl
@[simp] theorem nils_132 : nilPos Tryd.prog 132 = [] := by kernel_rfl
@[simp] theorem app_132 : appOk Tryd.prog 132 = true := by kernel_rfl
@[simp] theorem eby_132 : ebytes Tryd.prog 132 = 1 := by kernel_rfl
@[simp] theorem info_133 : (Tryd.prog.info? 133).isSome = true := by kernel_rfl
@[simp] theorem agg_133 : aggO Tryd.prog 133 = some false := by kernel_rfl
@[simp] theorem esz_133 : esz Tryd.prog 133 = 1 := by kernel_rfl
@[simp] theorem funct_133 : funcT Tryd.prog 133 = true := by kernel_rfl
@[simp] theorem conc_133 : Tryd.prog.concrete 133 = true := by kernel_rfl
@[simp] theorem zero_133 : azero Tryd.prog 133 = some [.nilFunc] := by kernel_rfl
@[simp] theorem nils_133 : nilPos Tryd.prog 133 = [] := by kernel_rfl
@[simp] theorem app_133 : appOk Tryd.prog 133 = true := by kernel_rfl
@[simp] theorem eby_133 : ebytes Tryd.prog 133 = 8 := by kernel_rfl
@[simp] theorem info_134 : (Tryd.prog.info? 134).isSome = true := by kernel_rfl
@[simp] theorem agg_134 : aggO Tryd.prog 134 = some false := by kernel_rfl
@[simp] theorem esz_134 : esz Tryd.prog 134 = 1 := by kernel_rfl
@[simp] theorem funct_134 : funcT Tryd.prog 134 = true := by kernel_rfl
@[simp] theorem conc_134 : Tryd.prog.concrete 134 = true := by kernel_rfl
@[simp] theorem zero_134 : azero Tryd.prog 134 = some [.nilFunc] := by kernel_rfl
@[simp] theorem nils_134 : nilPos Tryd.prog 134 = [] := by kernel_rfl
@[simp] theorem app_134 : appOk Tryd.prog 134 = true := by kernel_rfl
@[simp] theorem eby_134 : ebytes Tryd.prog 134 = 8 := by kernel_rfl
@[simp] theorem info_135 : (Tryd.prog.info? 135).isSome = true := by kernel_rfl
@[simp] theorem agg_135 : aggO Tryd.prog 135 = some false := by kernel_rfl
@[simp] theorem esz_135 : esz Tryd.prog 135 = 1 := by kernel_rfl
@[simp] theorem funct_135 : funcT Tryd.prog 135 = true := by kernel_rfl
@[simp] theorem conc_135 : Tryd.prog.concrete 135 = true := by kernel_rfl
@[simp] theorem zero_135 : azero Tryd.prog 135 = some [.nilFunc] := by kernel_rfl
@[simp] theorem nils_135 : nilPos Tryd.prog 135 = [] := by kernel_rfl
@[simp] theorem app_135 : appOk Tryd.prog 135 = true := by kernel_rfl
@[simp] theorem eby_135 : ebytes Tryd.prog 135 = 8 := by kernel_rfl
@[simp] theorem info_136 : (Tryd.prog.info? 136).isSome = true := by kernel_rfl
@[simp] theorem agg_136 : aggO Tryd.prog 136 = some false := by kernel_rfl
@[simp] theorem esz_136 : esz Tryd.prog 136 = 1 := by kernel_rfl
@[simp] theorem funct_136 : funcT Tryd.prog 136 = true := by kernel_rfl
@[simp] theorem conc_136 : Tryd.prog.concrete 136 = true := by kernel_rfl
@[simp] theorem zero_136 : azero Tryd.prog 136 = some [.nilFunc] := by kernel_rfl
@[simp] theorem nils_136 : nilPos Tryd.prog 136 = [] := by kernel_rfl
@[simp] theorem app_136 : appOk Tryd.prog 136 = true := by kernel_rfl
@[simp] theorem eby_136 : ebytes Tryd.prog 136 = 8 := by kernel_rfl
@[simp] theorem info_137 : (Tryd.prog.info? 137).isSome = true := by kernel_rfl
@[simp] theorem agg_137 : aggO Tryd.prog 137 = some false := by kernel_rfl
@[simp] theorem esz_137 : esz Tryd.prog 137 = 1 := by kernel_rfl
@[simp] theorem funct_137 : funcT Tryd.prog 137 = true := by kernel_rfl
@[simp] theorem conc_137 : Tryd.prog.concrete 137 = true := by kernel_rfl
@[simp] theorem zero_137 : azero Tryd.prog 137 = some [.nilFunc] := by kernel_rfl
@[simp] theorem nils_137 : nilPos Tryd.prog 137 = [] := by kernel_rfl
@[simp] theorem app_137 : appOk Tryd.prog 137 = true := by kernel_rfl
@[simp] theorem eby_137 : ebytes Tryd.prog 137 = 8 := by kernel_rfl
@[simp] theorem info_138 : (Tryd.prog.info? 138).isSome = true := by kernel_rfl
@[simp] theorem agg_138 : aggO Tryd.prog 138 = some false := by kernel_rfl
@[simp] theorem esz_138 : esz Tryd.prog 138 = 1 := by kernel_rfl
@[simp] theorem funct_138 : funcT Tryd.prog 138 = true := by kernel_rfl
@[simp] theorem conc_138 : Tryd.prog.concrete 138 = true := by kernel_rfl
@[simp] theorem zero_138 : azero Tryd.prog 138 = some [.nilFunc] := by kernel_rfl
@[simp] theorem nils_138 : nilPos Tryd.prog 138 = [] := by kernel_rfl
@[simp] theorem app_138 : appOk Tryd.prog 138 = true := by kernel_rfl
@[simp] theorem eby_138 : ebytes Tryd.prog 138 = 8 := by kernel_rfl
@[simp] theorem info_139 : (Tryd.prog.info? 139).isSome = true := by kernel_rfl
@[simp] theorem agg_139 : aggO Tryd.prog 139 = some false := by kernel_rfl
@[simp] theorem esz_139 : esz Tryd.prog 139 = 1 := by kernel_rfl
@[simp] theorem funct_139 : funcT Tryd.prog 139 = true := by kernel_rfl
@[simp] theorem conc_139 : Tryd.prog.concrete 139 = true := by kernel_rfl
@[simp] theorem zero_139 : azero Tryd.prog 139 = some [.nilFunc] := by kernel_rfl
@[simp] theorem nils_139 : nilPos Tryd.prog 139 = [] := by kernel_rfl
@[simp] theorem app_139 : appOk Tryd.prog 139 = true := by kernel_rfl
@[simp] theorem eby_139 : ebytes Tryd.prog 139 = 8 := by kernel_rfl
@[simp] theorem info_140 : (Tryd.prog.info? 140).isSome = true := by kernel_rfl
@[simp] theorem agg_140 : aggO Tryd.prog 140 = some true := by kernel_rfl
@[simp] theorem esz_140 : esz Tryd.prog 140 = 1 := by kernel_rfl
@[simp] theorem conc_140 : Tryd.prog.concrete 140 = true := by kernel_rfl
@[simp] theorem foff_140_0 : foff Tryd.prog 140 0 = some 0 := by kernel_rfl
@[simp] theorem ftyp_140_0 : ftyp Tryd.prog 140 0 = 17 := by kernel_rfl
@[simp] theorem known_140 : knownF Tryd.prog 140 = true := by kernel_rfl
@[simp] theorem zero_140 : azero Tryd.prog 140 = some [.nilPtr] := by kernel_rfl
@[simp] theorem nils_140 : nilPos Tryd.prog 140 = [] := by kernel_rfl
@[simp] theorem app_140 : appOk Tryd.prog 140 = true := by kernel_rfl
@[simp] theorem eby_140 : ebytes Tryd.prog 140 = 8 := by kernel_rfl
@[simp] theorem info_141 : (Tryd.prog.info? 141).isSome = true := by kernel_rfl
@[simp] theorem agg_141 : aggO Tryd.prog 141 = some true := by kernel_rfl
@[simp] theorem esz_141 : esz Tryd.prog 141 = 1 := by kernel_rfl
@[simp] theorem conc_141 : Tryd.prog.concrete 141 = true := by kernel_rfl
@[simp] theorem foff_141_0 : foff Tryd.prog 141 0 = some 0 := by kernel_rfl
@[simp] theorem ftyp_141_0 : ftyp Tryd.prog 141 0 = 17 := by kernel_rfl
@[simp] theorem known_141 : knownF Tryd.prog 141 = true := by kernel_rfl
@[simp] theorem zero_141 : azero Tryd.prog 141 = some [.nilPtr] := by kernel_rfl
@[simp] theorem nils_141 : nilPos Tryd.prog 141 = [] := by kernel_rfl
@[simp] theorem app_141 : appOk Tryd.prog 141 = true := by kernel_rfl
@[simp] theorem eby_141 : ebytes Tryd.prog 141 = 8 := by kernel_rfl
@[simp] theorem info_142 : (Tryd.prog.info? 142).isSome = true := by kernel_rfl
@[simp] theorem agg_142 : aggO Tryd.prog 142 = some false := by kernel_rfl
@[simp] theorem esz_142 : esz Tryd.prog 142 = 1 := by kernel_rfl
@[simp] theorem conc_142 : Tryd.prog.concrete 142 = true := by kernel_rfl
@[simp] theorem zero_142 : azero Tryd.prog 142 = some [.nilPtr] := by kernel_rfl
@[simp] theorem nils_142 : nilPos Tryd.prog 142 = [] := by kernel_rfl
@[simp] theorem app_142 : appOk Tryd.prog 142 = true := by kernel_rfl
@[simp] theorem eby_142 : ebytes Tryd.prog 142 = 8 := by kernel_rfl
@[simp] theorem info_143 : (Tryd.prog.info? 143).isSome = true := by kernel_rfl
@[simp] theorem agg_143 : aggO Tryd.prog 143 = some false := by kernel_rfl
@[simp] theorem esz_143 : esz Tryd.prog 143 = 1 := by kernel_rfl
@[simp] theorem funct_143 : funcT Tryd.prog 143 = true := by kernel_rfl
@[simp] theorem conc_143 : Tryd.prog.concrete 143 = true := by kernel_rfl
@[simp] theorem zero_143 : azero Tryd.prog 143 = some [.nilFunc] := by kernel_rfl
@[simp] theorem nils_143 : nilPos Tryd.prog 143 = [] := by kernel_rfl
@[simp] theorem app_143 : appOk Tryd.prog 143 = true := by kernel_rfl
@[simp] theorem eby_143 : ebytes Tryd.prog 143 = 8 := by kernel_rfl
@[simp] theorem info_144 : (Tryd.prog.info? 144).isSome = true := by kernel_rfl
@[simp] theorem agg_144 : aggO Tryd.prog 144 = some false := by kernel_rfl
@[simp] theorem esz_144 : esz Tryd.prog 144 = 1 := by kernel_rfl
@[simp] theorem funct_144 : funcT Tryd.prog 144 = true := by kernel_rfl
@[simp] theorem conc_144 : Tryd.prog.concrete 144 = true := by kernel_rfl
@[simp] theorem zero_144 : azero Tryd.prog 144 = some [.nilFunc] := by kernel_rfl
@[simp] theorem nils_144 : nilPos Tryd.prog 144 = [] := by kernel_rfl
@[simp] theorem app_144 : appOk Tryd.prog 144 = true := by kernel_rfl
@[simp] theorem eby_144 : ebytes Tryd.prog 144 = 8 := by kernel_rfl
@[simp] theorem info_145 : (Tryd.prog.info? 145).isSome = true := by kernel_rfl
@[simp] theorem agg_145 : aggO Tryd.prog 145 = some false := by kernel_rfl
@[simp] theorem esz_145 : esz Tryd.prog 145 = 1 := by kernel_rfl
@[simp] theorem funct_145 : funcT Tryd.prog 145 = true := by kernel_rfl
@[simp] theorem conc_145 : Tryd.prog.concrete 145 = true := by kernel_rfl
@[simp] theorem zero_145 : azero Tryd.prog 145 = some [.nilFunc] := by kernel_rfl
@[simp] theorem nils_145 : nilPos Tryd.prog 145 = [] := by kernel_rfl
@[simp] theorem app_145 : appOk Tryd.prog 145 = true := by kernel_rfl
@[simp] theorem eby_145 : ebytes Tryd.prog 145 = 8 := by kernel_rfl
@[simp] theorem info_146 : (Tryd.prog.info? 146).isSome = true := by kernel_rfl
@[simp] theorem agg_146 : aggO Tryd.prog 146 = some false := by kernel_rfl
@[simp] theorem esz_146 : esz Tryd.prog 146 = 1 := by kernel_rfl
@[simp] theorem ifacet_146 : ifaceT Tryd.prog 146 = true := by kernel_rfl
@[simp] theorem zero_146 : azero Tryd.prog 146 = some [.nilIface] := by kernel_rfl
@[simp] theorem nils_146 : nilPos Tryd.prog 146 = [] := by kernel_rfl
@[simp] theorem app_146 : appOk Tryd.prog 146 = true := by kernel_rfl
@[simp] theorem eby_146 : ebytes Tryd.prog 146 = 16 := by kernel_rfl
@[simp] theorem info_148 : (Tryd.prog.info? 148).isSome = true := by kernel_rfl
@[simp] theorem agg_148 : aggO Tryd.prog 148 = some false := by kernel_rfl
@[simp] theorem esz_148 : esz Tryd.prog 148 = 1 := by kernel_rfl
@[simp] theorem funct_148 : funcT Tryd.prog 148 = true := by kernel_rfl
@[simp] theorem conc_148 : Tryd.prog.concrete 148 = true := by kernel_rfl
@[simp] theorem zero_148 : azero Tryd.prog 148 = some [.nilFunc] := by kernel_rfl
@[simp] theorem nils_148 : nilPos Tryd.prog 148 = [] := by kernel_rfl
@[simp] theorem app_148 : appOk Tryd.prog 148 = true := by kernel_rfl
@[simp] theorem eby_148 : ebytes Tryd.prog 148 = 8 := by kernel_rfl
@[simp] theorem info_149 : (Tryd.prog.info? 149).isSome = true := by kernel_rfl
@[simp] theorem agg_149 : aggO Tryd.prog 149 = some false := by kernel_rfl
@[simp] theorem esz_149 : esz Tryd.prog 149 = 1 := by kernel_rfl
@[simp] theorem ifacet_149 : ifaceT Tryd.prog 149 = true := by kernel_rfl
@[simp] theorem zero_149 : azero Tryd.prog 149 = some [.nilIface] := by kernel_rfl
@[simp] theorem nils_149 : nilPos Tryd.prog 149 = [] := by kernel_rfl
@[simp] theorem app_149 : appOk Tryd.prog 149 = true := by kernel_rfl
@[simp] theorem eby_149 : ebytes Tryd.prog 149 = 16 := by kernel_rfl
@[simp] theorem info_150 : (Tryd.prog.info? 150).isSome = true := by kernel_rfl
@[simp] theorem agg_150 : aggO Tryd.prog 150 = some false := by kernel_rfl
@[simp] theorem esz_150 : esz Tryd.prog 150 = 1 := by kernel_rfl
@[simp] theorem ifacet_150 : ifaceT Tryd.prog 150 = true := by kernel_rfl
@[simp] theorem zero_150 : azero Tryd.prog 150 = some [.nilIface] := by kernel_rfl
@[simp] theorem nils_150 : nilPos Tryd.prog 150 = [] := by kernel_rfl
@[simp] theorem app_150 : appOk Tryd.prog 150 = true := by kernel_rfl
@[simp] theorem eby_150 : ebytes Tryd.prog 150 = 16 := by kernel_rfl
@[simp] theorem info_151 : (Tryd.prog.info? 151).isSome = true := by kernel_rfl
@[simp] theorem agg_151 : aggO Tryd.prog 151 = some false := by kernel_rfl
@[simp] theorem esz_151 : esz Tryd.prog 151 = 1 := by kernel_rfl
@[simp] theorem elem_151 : elemT Tryd.prog 151 = some 32 := by kernel_rfl
@[simp] theorem conc_151 : Tryd.prog.concrete 151 = true := by kernel_rfl
@[simp] theorem zero_151 : azero Tryd.prog 151 = some [.slice []] := by kernel_rfl
@[simp] theorem nils_151 : nilPos Tryd.prog 151 = [0] := by kernel_rfl
@[simp] theorem app_151 : appOk Tryd.prog 151 = true := by kernel_rfl
@[simp] theorem eby_151 : ebytes Tryd.prog 151 = 24 := by kernel_rfl
@[simp] theorem info_152 : (Tryd.prog.info? 152).isSome = true := by kernel_rfl
@[simp] theorem agg_152 : aggO Tryd.prog 152 = some false := by kernel_rfl
@[simp] theorem esz_152 : esz Tryd.prog 152 = 1 := by kernel_rfl
@[simp] theorem funct_152 : funcT Tryd.prog 152 = true := by kernel_rfl
@[simp] theorem conc_152 : Tryd.prog.concrete 152 = true := by kernel_rfl
@[simp] theorem zero_152 : azero Tryd.prog 152 = some [.nilFunc] := by kernel_rfl
@[simp] theorem nils_152 : nilPos Tryd.prog 152 = [] := by kernel_rfl
@[simp] theorem app_152 : appOk Tryd.prog 152 = true := by kernel_rfl
@[simp] theorem eby_152 : ebytes Tryd.prog 152 = 8 := by kernel_rfl
@[simp] theorem info_153 : (Tryd.prog.info? 153).isSome = true := by kernel_rfl
@[simp] theorem agg_153 : aggO Tryd.prog 153 = some false := by kernel_rfl
@[simp] theorem esz_153 : esz Tryd.prog 153 = 1 := by kernel_rfl
@[simp] theorem funct_153 : funcT Tryd.prog 153 = true := by kernel_rfl
@[simp] theorem conc_153 : Tryd.prog.concrete 153 = true := by kernel_rfl
@[simp] theorem zero_153 : azero Tryd.prog 153 = some [.nilFunc] := by kernel_rfl
@[simp] theorem nils_153 : nilPos Tryd.prog 153 = [] := by kernel_rfl
@[simp] theorem app_153 : appOk Tryd.prog 153 = true := by kernel_rfl
@[simp] theorem eby_153 : ebytes Tryd.prog 153 = 8 := by kernel_rfl
@[simp] theorem info_154 : (Tryd.prog.info? 154).isSome = true := by kernel_rfl
@[simp] theorem agg_154 : aggO Tryd.prog 154 = some false := by kernel_rfl
@[simp] theorem esz_154 : esz Tryd.prog 154 = 1 := by kernel_rfl
@[simp] theorem funct_154 : funcT Tryd.prog 154 = true := by kernel_rfl
@[simp] theorem conc_154 : Tryd.prog.concrete 154 = true := by kernel_rfl
@[simp] theorem zero_154 : azero Tryd.prog 154 = some [.nilFunc] := by kernel_rfl
@[simp] theorem nils_154 : nilPos Tryd.prog 154 = [] := by kernel_rfl
@[simp] theorem app_154 : appOk Tryd.prog 154 = true := by kernel_rfl
@[simp] theorem eby_154 : ebytes Tryd.prog 154 = 8 := by kernel_rfl
@[simp] theorem info_155 : (Tryd.prog.info? 155).isSome = true := by kernel_rfl
@[simp] theorem agg_155 : aggO Tryd.prog 155 = some true := by kernel_rfl
@[simp] theorem esz_155 : esz Tryd.prog 155 = 4 := by kernel_rfl
@[simp] theorem conc_155 : Tryd.prog.concrete 155 = true := by kernel_rfl
@[simp] theorem foff_155_0 : foff Tryd.prog 155 0 = some 0 := by kernel_rfl
@[simp] theorem ftyp_155_0 : ftyp Tryd.prog 155 0 = 17 := by kernel_rfl
@[simp] theorem foff_155_1 : foff Tryd.prog 155 1 = some 1 := by kernel_rfl
@[simp] theorem ftyp_155_1 : ftyp Tryd.prog 155 1 = 17 := by kernel_rfl
@[simp] theorem foff_155_2 : foff Tryd.prog 155 2 = some 2 := by kernel_rfl
@[simp] theorem ftyp_155_2 : ftyp Tryd.prog 155 2 = 17 := by kernel_rfl
@[simp] theorem foff_155_3 : foff Tryd.prog 155 3 = some 3 := by kernel_rfl
@[simp] theorem ftyp_155_3 : ftyp Tryd.prog 155 3 = 9 := by kernel_rfl
@[simp] theorem known_155 : knownF Tryd.prog 155 = true := by kernel_rfl
@[simp] theorem zero_155 : azero Tryd.prog 155 = some [.nilPtr, .nilPtr, .nilPtr, .str []] := by kernel_rfl
@[simp] theorem nils_155 : nilPos Tryd.prog 155 = [] := by kernel_rfl
@[simp] theorem app_155 : appOk Tryd.prog 155 = true := by kernel_rfl
@[simp] theorem eby_155 : ebytes Tryd.prog 155 = 40 := by kernel_rfl
@[simp] theorem info_156 : (Tryd.prog.info? 156).isSome = true := by kernel_rfl
@[simp] theorem agg_156 : aggO Tryd.prog 156 = some true := by kernel_rfl
@[simp] theorem esz_156 : esz Tryd.prog 156 = 4 := by kernel_rfl
@[simp] theorem conc_156 : Tryd.prog.concrete 156 = true := by kernel_rfl
@[simp] theorem foff_156_0 : foff Tryd.prog 156 0 = some 0 := by kernel_rfl
@[simp] theorem ftyp_156_0 : ftyp Tryd.prog 156 0 = 17 := by kernel_rfl
@[simp] theorem foff_156_1 : foff Tryd.prog 156 1 = some 1 := by kernel_rfl
@[simp] theorem ftyp_156_1 : ftyp Tryd.prog 156 1 = 17 := by kernel_rfl
@[simp] theorem foff_156_2 : foff Tryd.prog 156 2 = some 2 := by kernel_rfl
@[simp] theorem ftyp_156_2 : ftyp Tryd.prog 156 2 = 17 := by kernel_rfl
@[simp] theorem foff_156_3 : foff Tryd.prog 156 3 = some 3 := by kernel_rfl
@[simp] theorem ftyp_156_3 : ftyp Tryd.prog 156 3 = 9 := by kernel_rfl
@[simp] theorem known_156 : knownF Tryd.prog 156 = true := by kernel_rfl
@[simp] theorem zero_156 : azero Tryd.prog 156 = some [.nilPtr, .nilPtr, .nilPtr, .str []] := by kernel_rfl
@[simp] theorem nils_156 : nilPos Tryd.prog 156 = [] := by kernel_rfl
@[simp] theorem app_156 : appOk Tryd.prog 156 = true := by kernel_rfl
@[simp] theorem eby_156 : ebytes Tryd.prog 156 = 40 := by kernel_rfl
@[simp] theorem info_157 : (Tryd.prog.info? 157).isSome = true := by kernel_rfl
@[simp] theorem agg_157 : aggO Tryd.prog 157 = some true := by kernel_rfl
@[simp] theorem esz_157 : esz Tryd.prog 157 = 0 := by kernel_rfl
@[simp] theorem arrt_157 : arrT Tryd.prog 157 = some (0, 16) := by kernel_rfl
@[simp] theorem conc_157 : Tryd.prog.concrete 157 = true := by kernel_rfl
@[simp] theorem zero_157 : azero Tryd.prog 157 = some [] := by kernel_rfl
@[simp] theorem nils_157 : nilPos Tryd.prog 157 = [] := by kernel_rfl
@[simp] theorem eby_157 : ebytes Tryd.prog 157 = 0 := by kernel_rfl
@[simp] theorem info_158 : (Tryd.prog.info? 158).isSome = true := by kernel_rfl
@[simp] theorem agg_158 : aggO Tryd.prog 158 = some true := by kernel_rfl
@[simp] theorem esz_158 : esz Tryd.prog 158 = 0 := by kernel_rfl
@[simp] theorem conc_158 : Tryd.prog.concrete 158 = true := by kernel_rfl
@[simp] theorem known_158 : knownF Tryd.prog 158 = true := by kernel_rfl
@[simp] theorem zero_158 : azero Tryd.prog 158 = some [] := by kernel_rfl
@[simp] theorem nils_158 : nilPos Tryd.prog 158 = [] := by kernel_rfl
@[simp] theorem eby_158 : ebytes Tryd.prog 158 = 0 := by kernel_rfl
@[simp] theorem info_159 : (Tryd.prog.info? 159).isSome = true := by kernel_rfl
@[simp] theorem agg_159 : aggO Tryd.prog 159 = some true := by kernel_rfl
@[simp] theorem esz_159 : esz Tryd.prog 159 = 0 := by kernel_rfl
@[simp] theorem conc_159 : Tryd.prog.concrete 159 = true := by kernel_rfl
@[simp] theorem known_159 : knownF Tryd.prog 159 = true := by kernel_rfl
@[simp] theorem zero_159 : azero Tryd.prog 159 = some [] := by kernel_rfl
@[simp] theorem nils_159 : nilPos Tryd.prog 159 = [] := by kernel_rfl
@[simp] theorem eby_159 : ebytes Tryd.prog 159 = 0 := by kernel_rfl
@[simp] theorem info_160 : (Tryd.prog.info? 160).isSome = true := by kernel_rfl
@[simp] theorem agg_160 : aggO Tryd.prog 160 = some false := by kernel_rfl
@[simp] theorem esz_160 : esz Tryd.prog 160 = 1 := by kernel_rfl
@[simp] theorem funct_160 : funcT Tryd.prog 160 = true := by kernel_rfl
@[simp] theorem conc_160 : Tryd.prog.concrete 160 = true := by kernel_rfl
@[simp] theorem zero_160 : azero Tryd.prog 160 = some [.nilFunc] := by kernel_rfl
@[simp] theorem nils_160 : nilPos Tryd.prog 160 = [] := by kernel_rfl
@[simp] theorem app_160 : appOk Tryd.prog 160 = true := by kernel_rfl
@[simp] theorem eby_160 : ebytes Tryd.prog 160 = 8 := by kernel_rfl
@[simp] theorem info_161 : (Tryd.prog.info? 161).isSome = true := by kernel_rfl
@[simp] theorem agg_161 : aggO Tryd.prog 161 = some false := by kernel_rfl
@[simp] theorem esz_161 : esz Tryd.prog 161 = 1 := by kernel_rfl
@[simp] theorem funct_161 : funcT Tryd.prog 161 = true := by kernel_rfl
@[simp] theorem conc_161 : Tryd.prog.concrete 161 = true := by kernel_rfl
@[simp] theorem zero_161 : azero Tryd.prog 161 = some [.nilFunc] := by kernel_rfl
@[simp] theorem nils_161 : nilPos Tryd.prog 161 = [] := by kernel_rfl
@[simp] theorem app_161 : appOk Tryd.prog 161 = true := by kernel_rfl
@[simp] theorem eby_161 : ebytes Tryd.prog 161 = 8 := by kernel_rfl
@[simp] theorem info_162 : (Tryd.prog.info? 162).isSome = true := by kernel_rfl
@[simp] theorem agg_162 : aggO Tryd.prog 162 = some false := by kernel_rfl
@[simp] theorem esz_162 : esz Tryd.prog 162 = 1 := by kernel_rfl
@[simp] theorem ikind_162 : ikind Tryd.prog 162 = some .u32 := by kernel_rfl
@[simp] theorem under_162 : Tryd.prog.underlying 162 = some (.int .u32) := by kernel_rfl
@[simp] theorem conc_162 : Tryd.prog.concrete 162 = true := by kernel_rfl
@[simp] theorem zero_162 : azero Tryd.prog 162 = some [.int .u32 0] := by kernel_rfl
@[simp] theorem nils_162 : nilPos Tryd.prog 162 = [] := by kernel_rfl
@[simp] theorem app_162 : appOk Tryd.prog 162 = true := by kernel_rfl
@[simp] theorem eby_162 : ebytes Tryd.prog 162 = 4 := by kernel_rfl
@[simp] theorem info_163 : (Tryd.prog.info? 163).isSome = true := by kernel_rfl
@[simp] theorem agg_163 : aggO Tryd.prog 163 = some false := by kernel_rfl
@[simp] theorem esz_163 : esz Tryd.prog 163 = 1 := by kernel_rfl
@[simp] theorem ikind_163 : ikind Tryd.prog 163 = some .u8 := by kernel_rfl
@[simp] theorem under_163 : Tryd.prog.underlying 163 = some (.int .u8) := by kernel_rfl
@[simp] theorem conc_163 : Tryd.prog.concrete 163 = true := by kernel_rfl
@[simp] theorem zero_163 : azero Tryd.prog 163 = some [.int .u8 0] := by kernel_rfl
@[simp] theorem nils_163 : nilPos Tryd.prog 163 = [] := by kernel_rfl
@[simp] theorem app_163 : appOk Tryd.prog 163 = true := by kernel_rfl
@[simp] theorem eby_163 : ebytes Tryd.prog 163 = 1 := by kernel_rfl
@[simp] theorem info_164 : (Tryd.prog.info? 164).isSome = true := by kernel_rfl
@[simp] theorem agg_164 : aggO Tryd.prog 164 = some false := by kernel_rfl
@[simp] theorem esz_164 : esz Tryd.prog 164 = 1 := by kernel_rfl
@[simp] theorem funct_164 : funcT Tryd.prog 164 = true := by kernel_rfl
@[simp] theorem conc_164 : Tryd.prog.concrete 164 = true := by kernel_rfl
@[simp] theorem zero_164 : azero Tryd.prog 164 = some [.nilFunc] := by kernel_rfl
@[simp] theorem nils_164 : nilPos Tryd.prog 164 = [] := by kernel_rfl
@[simp] theorem app_164 : appOk Tryd.prog 164 = true := by kernel_rfl
@[simp] theorem eby_164 : ebytes Tryd.prog 164 = 8 := by kernel_rfl
@[simp] theorem info_165 : (Tryd.prog.info? 165).isSome = true := by kernel_rfl
@[simp] theorem agg_165 : aggO Tryd.prog 165 = some false := by kernel_rfl
@[simp] theorem esz_165 : esz Tryd.prog 165 = 1 := by kernel_rfl
@[simp] theorem conc_165 : Tryd.prog.concrete 165 = true := by kernel_rfl
@[simp] theorem zero_165 : azero Tryd.prog 165 = some [.nilPtr] := by kernel_rfl
@[simp] theorem nils_165 : nilPos Tryd.prog 165 = [] := by kernel_rfl
@[simp] theorem app_165 : appOk Tryd.prog 165 = true := by kernel_rfl
@[simp] theorem eby_165 : ebytes Tryd.prog 165 = 8 := by kernel_rfl
@[simp] theorem info_166 : (Tryd.prog.info? 166).isSome = true := by kernel_rfl
@[simp] theorem agg_166 : aggO Tryd.prog 166 = some false := by kernel_rfl
@[simp] theorem esz_166 : esz Tryd.prog 166 = 1 := by kernel_rfl
@[simp] theorem ikind_166 : ikind Tryd.prog 166 = some .i32 := by kernel_rfl
@[simp] theorem under_166 : Tryd.prog.underlying 166 = some (.int .i32) := by kernel_rfl
@[simp] theorem conc_166 : Tryd.prog.concrete 166 = true := by kernel_rfl
@[simp] theorem zero_166 : azero Tryd.prog 166 = some [.int .i32 0] := by kernel_rfl
@[simp] theorem nils_166 : nilPos Tryd.prog 166 = [] := by kernel_rfl
@[simp] theorem app_166 : appOk Tryd.prog 166 = true := by kernel_rfl
@[simp] theorem eby_166 : ebytes Tryd.prog 166 = 4 := by kernel_rfl
@[simp] theorem info_167 : (Tryd.prog.info? 167).isSome = true := by kernel_rfl
@[simp] theorem agg_167 : aggO Tryd.prog 167 = some false := by kernel_rfl
@[simp] theorem esz_167 : esz Tryd.prog 167 = 1 := by kernel_rfl
@[simp] theorem ikind_167 : ikind Tryd.prog 167 = some .i32 := by kernel_rfl
@[simp] theorem under_167 : Tryd.prog.underlying 167 = some (.int .i32) := by kernel_rfl
@[simp] theorem conc_167 : Tryd.prog.concrete 167 = true := by kernel_rfl
@[simp] theorem zero_167 : azero Tryd.prog 167 = some [.int .i32 0] := by kernel_rfl
@[simp] theorem nils_167 : nilPos Tryd.prog 167 = [] := by kernel_rfl
@[simp] theorem app_167 : appOk Tryd.prog 167 = true := by kernel_rfl
@[simp] theorem eby_167 : ebytes Tryd.prog 167 = 4 := by kernel_rfl
@[simp] theorem info_168 : (Tryd.prog.info? 168).isSome = true := by kernel_rfl
@[simp] theorem agg_168 : aggO Tryd.prog 168 = some true := by kernel_rfl
@[simp] theorem esz_168 : esz Tryd.prog 168 = 11 := by kernel_rfl
@[simp] theorem conc_168 : Tryd.prog.concrete 168 = true := by kernel_rfl
@[simp] theorem foff_168_0 : foff Tryd.prog 168 0 = some 0 := by kernel_rfl
@[simp] theorem ftyp_168_0 : ftyp Tryd.prog 168 0 = 12 := by kernel_rfl
@[simp] theorem foff_168_1 : foff Tryd.prog 168 1 = some 1 := by kernel_rfl
@[simp] theorem ftyp_168_1 : ftyp Tryd.prog 168 1 = 12 := by kernel_rfl
@[simp] theorem foff_168_2 : foff Tryd.prog 168 2 = some 2 := by kernel_rfl
@[simp] theorem ftyp_168_2 : ftyp Tryd.prog 168 2 = 162 := by kernel_rfl
@[simp] theorem foff_168_3 : foff Tryd.prog 168 3 = some 3 := by kernel_rfl
@[simp] theorem ftyp_168_3 : ftyp Tryd.prog 168 3 = 163 := by kernel_rfl
@[simp] theorem foff_168_4 : foff Tryd.prog 168 4 = some 4 := by kernel_rfl
@[simp] theorem ftyp_168_4 : ftyp Tryd.prog 168 4 = 5 := by kernel_rfl
@[simp] theorem foff_168_5 : foff Tryd.prog 168 5 = some 5 := by kernel_rfl
@[simp] theorem ftyp_168_5 : ftyp Tryd.prog 168 5 = 5 := by kernel_rfl
@[simp] theorem foff_168_6 : foff Tryd.prog 168 6 = some 6 := by kernel_rfl
@[simp] theorem ftyp_168_6 : ftyp Tryd.prog 168 6 = 132 := by kernel_rfl
@[simp] theorem foff_168_7 : foff Tryd.prog 168 7 = some 7 := by kernel_rfl
@[simp] theorem ftyp_168_7 : ftyp Tryd.prog 168 7 = 164 := by kernel_rfl
@[simp] theorem foff_168_8 : foff Tryd.prog 168 8 = some 8 := by kernel_rfl
@[simp] theorem ftyp_168_8 : ftyp Tryd.prog 168 8 = 165 := by kernel_rfl
@[simp] theorem foff_168_9 : foff Tryd.prog 168 9 = some 9 := by kernel_rfl
@[simp] theorem ftyp_168_9 : ftyp Tryd.prog 168 9 = 166 := by kernel_rfl
@[simp] theorem foff_168_10 : foff Tryd.prog 168 10 = some 10 := by kernel_rfl
@[simp] theorem ftyp_168_10 : ftyp Tryd.prog 168 10 = 167 := by kernel_rfl
@[simp] theorem known_168 : knownF Tryd.prog 168 = true := by kernel_rfl
@[simp] theorem zero_168 : azero Tryd.prog 168 = some [.int .u64 0, .int .u64 0, .int .u32 0, .int .u8 0, .int .u8 0, .int .u8 0, .int .u8 0, .nilFunc, .nilPtr, .int .i32 0, .int .i32 0] := by kernel_rfl
@[simp] theorem nils_168 : nilPos Tryd.prog 168 = [] := by kernel_rfl
@[simp] theorem app_168 : appOk Tryd.prog 168 = true := by kernel_rfl
@[simp] theorem eby_168 : ebytes Tryd.prog 168 = 48 := by kernel_rfl
@[simp] theorem info_169 : (Tryd.prog.info? 169).isSome = true := by kernel_rfl
@[simp] theorem agg_169 : aggO Tryd.prog 169 = some true := by kernel_rfl
@[simp] theorem esz_169 : esz Tryd.prog 169 = 11 := by kernel_rfl
@[simp] theorem conc_169 : Tryd.prog.concrete 169 = true := by kernel_rfl
@[simp] theorem foff_169_0 : foff Tryd.prog 169 0 = some 0 := by kernel_rfl
@[simp] theorem ftyp_169_0 : ftyp Tryd.prog 169 0 = 12 := by kernel_rfl
@[simp] theorem foff_169_1 : foff Tryd.prog 169 1 = some 1 := by kernel_rfl
@[simp] theorem ftyp_169_1 : ftyp Tryd.prog 169 1 = 12 := by kernel_rfl
@[simp] theorem foff_169_2 : foff Tryd.prog 169 2 = some 2 := by kernel_rfl
@[simp] theorem ftyp_169_2 : ftyp Tryd.prog 169 2 = 162 := by kernel_rfl
@[simp] theorem foff_169_3 : foff Tryd.prog 169 3 = some 3 := by kernel_rfl
@[simp] theorem ftyp_169_3 : ftyp Tryd.prog 169 3 = 163 := by kernel_rfl
@[simp] theorem foff_169_4 : foff Tryd.prog 169 4 = some 4 := by kernel_rfl
@[simp] theorem ftyp_169_4 : ftyp Tryd.prog 169 4 = 5 := by kernel_rfl
@[simp] theorem foff_169_5 : foff Tryd.prog 169 5 = some 5 := by kernel_rfl
@[simp] theorem ftyp_169_5 : ftyp Tryd.prog 169 5 = 5 := by kernel_rfl
@[simp] theorem foff_169_6 : foff Tryd.prog 169 6 = some 6 := by kernel_rfl
@[simp] theorem ftyp_169_6 : ftyp Tryd.prog 169 6 = 132 := by kernel_rfl
@[simp] theorem foff_169_7 : foff Tryd.prog 169 7 = some 7 := by kernel_rfl
@[simp] theorem ftyp_169_7 : ftyp Tryd.prog 169 7 = 164 := by kernel_rfl
@[simp] theorem foff_169_8 : foff Tryd.prog 169 8 = some 8 := by kernel_rfl
@[simp] theorem ftyp_169_8 : ftyp Tryd.prog 169 8 = 165 := by kernel_rfl
@[simp] theorem foff_169_9 : foff Tryd.prog 169 9 = some 9 := by kernel_rfl
@[simp] theorem ftyp_169_9 : ftyp Tryd.prog 169 9 = 166 := by kernel_rfl
@[simp] theorem foff_169_10 : foff Tryd.prog 169 10 = some 10 := by kernel_rfl
@[simp] theorem ftyp_169_10 : ftyp Tryd.prog 169 10 = 167 := by kernel_rfl
@[simp] theorem known_169 : knownF Tryd.prog 169 = true := by kernel_rfl
@[simp] theorem zero_169 : azero Tryd.prog 169 = some [.int .u64 0, .int .u64 0, .int .u32 0, .int .u8 0, .int .u8 0, .int .u8 0, .int .u8 0, .nilFunc, .nilPtr, .int .i32 0, .int .i32 0] := by kernel_rfl
@[simp] theorem nils_169 : nilPos Tryd.prog 169 = [] := by kernel_rfl
@[simp] theorem app_169 : appOk Tryd.prog 169 = true := by kernel_rfl
@[simp] theorem eby_169 : ebytes Tryd.prog 169 = 48 := by kernel_rfl
@[simp] theorem info_170 : (Tryd.prog.info? 170).isSome = true := by kernel_rfl
@[simp] theorem agg_170 : aggO Tryd.prog 170 = some false := by kernel_rfl
@[simp] theorem esz_170 : esz Tryd.prog 170 = 1 := by kernel_rfl
@[simp] theorem funct_170 : funcT Tryd.prog 170 = true := by kernel_rfl
@[simp] theorem conc_170 : Tryd.prog.concrete 170 = true := by kernel_rfl
@[simp] theorem zero_170 : azero Tryd.prog 170 = some [.nilFunc] := by kernel_rfl
@[simp] theorem nils_170 : nilPos Tryd.prog 170 = [] := by kernel_rfl
@[simp] theorem app_170 : appOk Tryd.prog 170 = true := by kernel_rfl
@[simp] theorem eby_170 : ebytes Tryd.prog 170 = 8 := by kernel_rfl
@[simp] theorem info_171 : (Tryd.prog.info? 171).isSome = true := by kernel_rfl
@[simp] theorem agg_171 : aggO Tryd.prog 171 = some false := by kernel_rfl
@[simp] theorem esz_171 : esz Tryd.prog 171 = 1 := by kernel_rfl
@[simp] theorem funct_171 : funcT Tryd.prog 171 = true := by kernel_rfl
@[simp] theorem conc_171 : Tryd.prog.concrete 171 = true := by kernel_rfl
@[simp] theorem zero_171 : azero Tryd.prog 171 = some [.nilFunc] := by kernel_rfl
@[simp] theorem nils_171 : nilPos Tryd.prog 171 = [] := by kernel_rfl
@[simp] theorem app_171 : appOk Tryd.prog 171 = true := by kernel_rfl
@[simp] theorem eby_171 : ebytes Tryd.prog 171 = 8 := by kernel_rfl
@[simp] theorem info_172 : (Tryd.prog.info? 172).isSome = true := by kernel_rfl
@[simp] theorem agg_172 : aggO Tryd.prog 172 = some true := by kernel_rfl
@[simp] theorem esz_172 : esz Tryd.prog 172 = 2 := by kernel_rfl
@[simp] theorem conc_172 : Tryd.prog.concrete 172 = true := by kernel_rfl
@[simp] theorem foff_172_0 : foff Tryd.prog 172 0 = some 0 := by kernel_rfl
@[simp] theorem ftyp_172_0 : ftyp Tryd.prog 172 0 = 9 := by kernel_rfl
@[simp] theorem foff_172_1 : foff Tryd.prog 172 1 = some 1 := by kernel_rfl
@[simp] theorem ftyp_172_1 : ftyp Tryd.prog 172 1 = 132 := by kernel_rfl
@[simp] theorem known_172 : knownF Tryd.prog 172 = true := by kernel_rfl
@[simp] theorem zero_172 : azero Tryd.prog 172 = some [.str [], .int .u8 0] := by kernel_rfl
@[simp] theorem nils_172 : nilPos Tryd.prog 172 = [] := by kernel_rfl
@[simp] theorem app_172 : appOk Tryd.prog 172 = true := by kernel_rfl
@[simp] theorem eby_172 : ebytes Tryd.prog 172 = 24 := by kernel_rfl
@[simp] theorem info_173 : (Tryd.prog.info? 173).isSome = true := by kernel_rfl
@[simp] theorem agg_173 : aggO Tryd.prog 173 = some true := by kernel_rfl
@[simp] theorem esz_173 : esz Tryd.prog 173 = 2 := by kernel_rfl
@[simp] theorem conc_173 : Tryd.prog.concrete 173 = true := by kernel_rfl
@[simp] theorem foff_173_0 : foff Tryd.prog 173 0 = some 0 := by kernel_rfl
@[simp] theorem ftyp_173_0 : ftyp Tryd.prog 173 0 = 9 := by kernel_rfl
@[simp] theorem foff_173_1 : foff Tryd.prog 173 1 = some 1 := by kernel_rfl
@[simp] theorem ftyp_173_1 : ftyp Tryd.prog 173 1 = 132 := by kernel_rfl
@[simp] theorem known_173 : knownF Tryd.prog 173 = true := by kernel_rfl
@[simp] theorem zero_173 : azero Tryd.prog 173 = some [.str [], .int .u8 0] := by kernel_rfl
@[simp] theorem nils_173 : nilPos Tryd.prog 173 = [] := by kernel_rfl
@[simp] theorem app_173 : appOk Tryd.prog 173 = true := by kernel_rfl
@[simp] theorem eby_173 : ebytes Tryd.prog 173 = 24 := by kernel_rfl
@[simp] theorem info_174 : (Tryd.prog.info? 174).isSome = true := by kernel_rfl
@[simp] theorem agg_174 : aggO Tryd.prog 174 = some false := by kernel_rfl
@[simp] theorem esz_174 : esz Tryd.prog 174 = 1 := by kernel_rfl
@[simp] theorem conc_174 : Tryd.prog.concrete 174 = true := by kernel_rfl
@[simp] theorem zero_174 : azero Tryd.prog 174 = some [.nilPtr] := by kernel_rfl
@[simp] theorem nils_174 : nilPos Tryd.prog 174 = [] := by kernel_rfl
@[simp] theorem app_174 : appOk Tryd.prog 174 = true := by kernel_rfl
@[simp] theorem eby_174 : ebytes Tryd.prog 174 = 8 := by kernel_rfl
@[simp] theorem info_175 : (Tryd.prog.info? 175).isSome = true := by kernel_rfl
@[simp] theorem agg_175 : aggO Tryd.prog 175 = some false := by kernel_rfl
@[simp] theorem esz_175 : esz Tryd.prog 175 = 1 := by kernel_rfl
@[simp] theorem funct_175 : funcT Tryd.prog 175 = true := by kernel_rfl
@[simp] theorem conc_175 : Tryd.prog.concrete 175 = true := by kernel_rfl
@[simp] theorem zero_175 : azero Tryd.prog 175 = some [.nilFunc] := by kernel_rfl
@[simp] theorem nils_175 : nilPos Tryd.prog 175 = [] := by kernel_rfl
@[simp] theorem app_175 : appOk Tryd.prog 175 = true := by kernel_rfl
@[simp] theorem eby_175 : ebytes Tryd.prog 175 = 8 := by kernel_rfl
@[simp] theorem info_176 : (Tryd.prog.info? 176).isSome = true := by kernel_rfl
@[simp] theorem agg_176 : aggO Tryd.prog 176 = some false := by kernel_rfl
@[simp] theorem esz_176 : esz Tryd.prog 176 = 1 := by kernel_rfl
@[simp] theorem ikind_176 : ikind Tryd.prog 176 = some .u16 := by kernel_rfl
@[simp] theorem under_176 : Tryd.prog.underlying 176 = some (.int .u16) := by kernel_rfl
@[simp] theorem conc_176 : Tryd.prog.concrete 176 = true := by kernel_rfl
@[simp] theorem zero_176 : azero Tryd.prog 176 = some [.int .u16 0] := by kernel_rfl
@[simp] theorem nils_176 : nilPos Tryd.prog 176 = [] := by kernel_rfl
@[simp] theorem app_176 : appOk Tryd.prog 176 = true := by kernel_rfl
@[simp] theorem eby_176 : ebytes Tryd.prog 176 = 2 := by kernel_rfl
@[simp] theorem info_177 : (Tryd.prog.info? 177).isSome = true := by kernel_rfl
@[simp] theorem agg_177 : aggO Tryd.prog 177 = some true := by kernel_rfl
@[simp] theorem esz_177 : esz Tryd.prog 177 = 5 := by kernel_rfl
@[simp] theorem conc_177 : Tryd.prog.concrete 177 = true := by kernel_rfl
@[simp] theorem foff_177_0 : foff Tryd.prog 177 0 = some 0 := by kernel_rfl
@[simp] theorem ftyp_177_0 : ftyp Tryd.prog 177 0 = 166 := by kernel_rfl
@[simp] theorem foff_177_1 : foff Tryd.prog 177 1 = some 1 := by kernel_rfl
@[simp] theorem ftyp_177_1 : ftyp Tryd.prog 177 1 = 176 := by kernel_rfl
@[simp] theorem foff_177_2 : foff Tryd.prog 177 2 = some 2 := by kernel_rfl
@[simp] theorem ftyp_177_2 : ftyp Tryd.prog 177 2 = 176 := by kernel_rfl
@[simp] theorem foff_177_3 : foff Tryd.prog 177 3 = some 3 := by kernel_rfl
@[simp] theorem ftyp_177_3 : ftyp Tryd.prog 177 3 = 162 := by kernel_rfl
@[simp] theorem foff_177_4 : foff Tryd.prog 177 4 = some 4 := by kernel_rfl
@[simp] theorem ftyp_177_4 : ftyp Tryd.prog 177 4 = 162 := by kernel_rfl
@[simp] theorem known_177 : knownF Tryd.prog 177 = true := by kernel_rfl
@[simp] theorem zero_177 : azero Tryd.prog 177 = some [.int .i32 0, .int .u16 0, .int .u16 0, .int .u32 0, .int .u32 0] := by kernel_rfl
@[simp] theorem nils_177 : nilPos Tryd.prog 177 = [] := by kernel_rfl
@[simp] theorem app_177 : appOk Tryd.prog 177 = true := by kernel_rfl
@[simp] theorem eby_177 : ebytes Tryd.prog 177 = 16 := by kernel_rfl
@[simp] theorem info_178 : (Tryd.prog.info? 178).isSome = true := by kernel_rfl
@[simp] theorem agg_178 : aggO Tryd.prog 178 = some true := by kernel_rfl
@[simp] theorem esz_178 : esz Tryd.prog 178 = 5 := by kernel_rfl
@[simp] theorem conc_178 : Tryd.prog.concrete 178 = true := by kernel_rfl
@[simp] theorem foff_178_0 : foff Tryd.prog 178 0 = some 0 := by kernel_rfl
@[simp] theorem ftyp_178_0 : ftyp Tryd.prog 178 0 = 166 := by kernel_rfl
@[simp] theorem foff_178_1 : foff Tryd.prog 178 1 = some 1 := by kernel_rfl
@[simp] theorem ftyp_178_1 : ftyp Tryd.prog 178 1 = 176 := by kernel_rfl
@[simp] theorem foff_178_2 : foff Tryd.prog 178 2 = some 2 := by kernel_rfl
@[simp] theorem ftyp_178_2 : ftyp Tryd.prog 178 2 = 176 := by kernel_rfl
@[simp] theorem foff_178_3 : foff Tryd.prog 178 3 = some 3 := by kernel_rfl
@[simp] theorem ftyp_178_3 : ftyp Tryd.prog 178 3 = 162 := by kernel_rfl
@[simp] theorem foff_178_4 : foff Tryd.prog 178 4 = some 4 := by kernel_rfl
@[simp] theorem ftyp_178_4 : ftyp Tryd.prog 178 4 = 162 := by kernel_rfl
@[simp] theorem known_178 : knownF Tryd.prog 178 = true := by kernel_rfl
@[simp] theorem zero_178 : azero Tryd.prog 178 = some [.int .i32 0, .int .u16 0, .int .u16 0, .int .u32 0, .int .u32 0] := by kernel_rfl
@[simp] theorem nils_178 : nilPos Tryd.prog 178 = [] := by kernel_rfl
@[simp] theorem app_178 : appOk Tryd.prog 178 = true := by kernel_rfl
@[simp] theorem eby_178 : ebytes Tryd.prog 178 = 16 := by kernel_rfl
@[simp] theorem info_179 : (Tryd.prog.info? 179).isSome = true := by kernel_rfl
@[simp] theorem agg_179 : aggO Tryd.prog 179 = some false := by kernel_rfl
@[simp] theorem esz_179 : esz Tryd.prog 179 = 1 := by kernel_rfl
@[simp] theorem elem_179 : elemT Tryd.prog 179 = some 182 := by kernel_rfl
@[simp] theorem conc_179 : Tryd.prog.concrete 179 = true := by kernel_rfl
@[simp] theorem zero_179 : azero Tryd.prog 179 = some [.slice []] := by kernel_rfl
@[simp] theorem nils_179 : nilPos Tryd.prog 179 = [0] := by kernel_rfl
@[simp] theorem app_179 : appOk Tryd.prog 179 = true := by kernel_rfl
@[simp] theorem eby_179 : ebytes Tryd.prog 179 = 24 := by kernel_rfl
@[simp] theorem info_180 : (Tryd.prog.info? 180).isSome = true := by kernel_rfl
@[simp] theorem agg_180 : aggO Tryd.prog 180 = some false := by kernel_rfl
@[simp] theorem esz_180 : esz Tryd.prog 180 = 1 := by kernel_rfl
@[simp] theorem ikind_180 : ikind Tryd.prog 180 = some .i32 := by kernel_rfl
@[simp] theorem under_180 : Tryd.prog.underlying 180 = some (.int .i32) := by kernel_rfl
@[simp] theorem conc_180 : Tryd.prog.concrete 180 = true := by kernel_rfl
@[simp] theorem zero_180 : azero Tryd.prog 180 = some [.int .i32 0] := by kernel_rfl
@[simp] theorem nils_180 : nilPos Tryd.prog 180 = [] := by kernel_rfl
@[simp] theorem app_180 : appOk Tryd.prog 180 = true := by kernel_rfl
@[simp] theorem eby_180 : ebytes Tryd.prog 180 = 4 := by kernel_rfl
@[simp] theorem info_181 : (Tryd.prog.info? 181).isSome = true := by kernel_rfl
@[simp] theorem agg_181 : aggO Tryd.prog 181 = some true := by kernel_rfl
@[simp] theorem esz_181 : esz Tryd.prog 181 = 4 := by kernel_rfl
@[simp] theorem conc_181 : Tryd.prog.concrete 181 = true := by kernel_rfl
@[simp] theorem foff_181_0 : foff Tryd.prog 181 0 = some 0 := by kernel_rfl
@[simp] theorem ftyp_181_0 : ftyp Tryd.prog 181 0 = 166 := by kernel_rfl
@[simp] theorem foff_181_1 : foff Tryd.prog 181 1 = some 1 := by kernel_rfl
@[simp] theorem ftyp_181_1 : ftyp Tryd.prog 181 1 = 167 := by kernel_rfl
@[simp] theorem foff_181_2 : foff Tryd.prog 181 2 = some 2 := by kernel_rfl
@[simp] theorem ftyp_181_2 : ftyp Tryd.prog 181 2 = 180 := by kernel_rfl
@[simp] theorem foff_181_3 : foff Tryd.prog 181 3 = some 3 := by kernel_rfl
@[simp] theorem ftyp_181_3 : ftyp Tryd.prog 181 3 = 180 := by kernel_rfl
@[simp] theorem known_181 : knownF Tryd.prog 181 = true := by kernel_rfl
@[simp] theorem zero_181 : azero Tryd.prog 181 = some [.int .i32 0, .int .i32 0, .int .i32 0, .int .i32 0] := by kernel_rfl
@[simp] theorem nils_181 : nilPos Tryd.prog 181 = [] := by kernel_rfl
@[simp] theorem app_181 : appOk Tryd.prog 181 = true := by kernel_rfl
@[simp] theorem eby_181 : ebytes Tryd.prog 181 = 16 := by kernel_rfl
@[simp] theorem info_182 : (Tryd.prog.info? 182).isSome = true := by kernel_rfl
@[simp] theorem agg_182 : aggO Tryd.prog 182 = some true := by kernel_rfl
@[simp] theorem esz_182 : esz Tryd.prog 182 = 4 := by kernel_rfl
@[simp] theorem conc_182 : Tryd.prog.concrete 182 = true := by kernel_rfl
@[simp] theorem foff_182_0 : foff Tryd.prog 182 0 = some 0 := by kernel_rfl
@[simp] theorem ftyp_182_0 : ftyp Tryd.prog 182 0 = 166 := by kernel_rfl
@[simp] theorem foff_182_1 : foff Tryd.prog 182 1 = some 1 := by kernel_rfl
@[simp] theorem ftyp_182_1 : ftyp Tryd.prog 182 1 = 167 := by kernel_rfl
@[simp] theorem foff_182_2 : foff Tryd.prog 182 2 = some 2 := by kernel_rfl
@[simp] theorem ftyp_182_2 : ftyp Tryd.prog 182 2 = 180 := by kernel_rfl
@[simp] theorem foff_182_3 : foff Tryd.prog 182 3 = some 3 := by kernel_rfl
@[simp] theorem ftyp_182_3 : ftyp Tryd.prog 182 3 = 180 := by kernel_rfl
@[simp] theorem known_182 : knownF Tryd.prog 182 = true := by kernel_rfl
@[simp] theorem zero_182 : azero Tryd.prog 182 = some [.int .i32 0, .int .i32 0, .int .i32 0, .int .i32 0] := by kernel_rfl
@[simp] theorem nils_182 : nilPos Tryd.prog 182 = [] := by kernel_rfl
@[simp] theorem app_182 : appOk Tryd.prog 182 = true := by kernel_rfl
@[simp] theorem eby_182 : ebytes Tryd.prog 182 = 16 := by kernel_rfl
@[simp] theorem info_183 : (Tryd.prog.info? 183).isSome = true := by kernel_rfl
@[simp] theorem agg_183 : aggO Tryd.prog 183 = some false := by kernel_rfl
@[simp] theorem esz_183 : esz Tryd.prog 183 = 1 := by kernel_rfl
@[simp] theorem conc_183 : Tryd.prog.concrete 183 = true := by kernel_rfl
@[simp] theorem zero_183 : azero Tryd.prog 183 = some [.nilPtr] := by kernel_rfl
@[simp] theorem nils_183 : nilPos Tryd.prog 183 = [] := by kernel_rfl
@[simp] theorem app_183 : appOk Tryd.prog 183 = true := by kernel_rfl
@[simp] theorem eby_183 : ebytes Tryd.prog 183 = 8 := by kernel_rfl
theorem mixed : Tryd.prog.follows .mixedOrders = true := by kernel_rfl
end Pt
end Go.Proofs.YtpjkdaechknogaaDoor
