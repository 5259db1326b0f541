/- The closed facts on the types of this translation that the walk asks; made by program. -/
import Derived.Test.YtjkabaejabibnaaDoorProg
import Derived.Test.YtjkabaejabibnaaDoorPvO
import Derived.KernelRfl
set_option linter.all false
namespace Go.Proofs.YtjkabaejabibnaaDoor
open Go Go.Pv
namespace Pt
@[simp] theorem info_1 : (Tryd.prog.info? 1).isSome = true := by kernel_rfl
@[simp] theorem agg_1 : aggO Tryd.prog 1 = some false := by kernel_rfl
@[simp] theorem esz_1 : esz Tryd.prog 1 = 1 := by kernel_rfl
@[simp] theorem funct_1 : funcT Tryd.prog 1 = true := by kernel_rfl
@[simp] theorem conc_1 : Tryd.prog.concrete 1 = true := by kernel_rfl
@[simp] theorem zero_1 : azero Tryd.prog 1 = some [.nilFunc] := by kernel_rfl
@[simp] theorem nils_1 : nilPos Tryd.prog 1 = [] := by kernel_rfl
@[simp] theorem app_1 : appOk Tryd.prog 1 = true := by kernel_rfl
@[simp] theorem eby_1 : ebytes Tryd.prog 1 = 8 := by kernel_rfl
@[simp] theorem info_2 : (Tryd.prog.info? 2).isSome = true := by kernel_rfl
@[simp] theorem agg_2 : aggO Tryd.prog 2 = some false := by kernel_rfl
@[simp] theorem esz_2 : esz Tryd.prog 2 = 1 := by kernel_rfl
@[simp] theorem ikind_2 : ikind Tryd.prog 2 = some .i64 := by kernel_rfl
@[simp] theorem under_2 : Tryd.prog.underlying 2 = some (.int .i64) := by kernel_rfl
@[simp] theorem conc_2 : Tryd.prog.concrete 2 = true := by kernel_rfl
@[simp] theorem zero_2 : azero Tryd.prog 2 = some [.int .i64 0] := by kernel_rfl
@[simp] theorem nils_2 : nilPos Tryd.prog 2 = [] := by kernel_rfl
@[simp] theorem app_2 : appOk Tryd.prog 2 = true := by kernel_rfl
@[simp] theorem eby_2 : ebytes Tryd.prog 2 = 8 := by kernel_rfl
@[simp] theorem info_3 : (Tryd.prog.info? 3).isSome = true := by kernel_rfl
@[simp] theorem agg_3 : aggO Tryd.prog 3 = some false := by kernel_rfl
@[simp] theorem esz_3 : esz Tryd.prog 3 = 1 := by kernel_rfl
@[simp] theorem ikind_3 : ikind Tryd.prog 3 = some .i64 := by kernel_rfl
@[simp] theorem under_3 : Tryd.prog.underlying 3 = some (.int .i64) := by kernel_rfl
@[simp] theorem conc_3 : Tryd.prog.concrete 3 = true := by kernel_rfl
@[simp] theorem zero_3 : azero Tryd.prog 3 = some [.int .i64 0] := by kernel_rfl
@[simp] theorem nils_3 : nilPos Tryd.prog 3 = [] := by kernel_rfl
@[simp] theorem app_3 : appOk Tryd.prog 3 = true := by kernel_rfl
@[simp] theorem eby_3 : ebytes Tryd.prog 3 = 8 := by kernel_rfl
@[simp] theorem info_4 : (Tryd.prog.info? 4).isSome = true := by kernel_rfl
@[simp] theorem agg_4 : aggO Tryd.prog 4 = some false := by kernel_rfl
@[simp] theorem esz_4 : esz Tryd.prog 4 = 1 := by kernel_rfl
@[simp] theorem under_4 : Tryd.prog.underlying 4 = some .bool := by kernel_rfl
@[simp] theorem boolt_4 : boolT Tryd.prog 4 = true := by kernel_rfl
@[simp] theorem conc_4 : Tryd.prog.concrete 4 = true := by kernel_rfl
@[simp] theorem zero_4 : azero Tryd.prog 4 = some [.bool false] := by kernel_rfl
@[simp] theorem nils_4 : nilPos Tryd.prog 4 = [] := by kernel_rfl
@[simp] theorem app_4 : appOk Tryd.prog 4 = true := by kernel_rfl
@[simp] theorem eby_4 : ebytes Tryd.prog 4 = 1 := by kernel_rfl
@[simp] theorem info_5 : (Tryd.prog.info? 5).isSome = true := by kernel_rfl
@[simp] theorem agg_5 : aggO Tryd.prog 5 = some false := by kernel_rfl
@[simp] theorem esz_5 : esz Tryd.prog 5 = 1 := by kernel_rfl
@[simp] theorem ikind_5 : ikind Tryd.prog 5 = some .u8 := by kernel_rfl
@[simp] theorem under_5 : Tryd.prog.underlying 5 = some (.int .u8) := by kernel_rfl
@[simp] theorem conc_5 : Tryd.prog.concrete 5 = true := by kernel_rfl
@[simp] theorem zero_5 : azero Tryd.prog 5 = some [.int .u8 0] := by kernel_rfl
@[simp] theorem nils_5 : nilPos Tryd.prog 5 = [] := by kernel_rfl
@[simp] theorem app_5 : appOk Tryd.prog 5 = true := by kernel_rfl
@[simp] theorem eby_5 : ebytes Tryd.prog 5 = 1 := by kernel_rfl
@[simp] theorem info_6 : (Tryd.prog.info? 6).isSome = true := by kernel_rfl
@[simp] theorem agg_6 : aggO Tryd.prog 6 = some false := by kernel_rfl
@[simp] theorem esz_6 : esz Tryd.prog 6 = 1 := by kernel_rfl
@[simp] theorem ikind_6 : ikind Tryd.prog 6 = some .u8 := by kernel_rfl
@[simp] theorem under_6 : Tryd.prog.underlying 6 = some (.int .u8) := by kernel_rfl
@[simp] theorem conc_6 : Tryd.prog.concrete 6 = true := by kernel_rfl
@[simp] theorem zero_6 : azero Tryd.prog 6 = some [.int .u8 0] := by kernel_rfl
@[simp] theorem nils_6 : nilPos Tryd.prog 6 = [] := by kernel_rfl
@[simp] theorem app_6 : appOk Tryd.prog 6 = true := by kernel_rfl
@[simp] theorem eby_6 : ebytes Tryd.prog 6 = 1 := by kernel_rfl
@[simp] theorem info_7 : (Tryd.prog.info? 7).isSome = true := by kernel_rfl
@[simp] theorem agg_7 : aggO Tryd.prog 7 = some true := by kernel_rfl
@[simp] theorem esz_7 : esz Tryd.prog 7 = 4 := by kernel_rfl
@[simp] theorem conc_7 : Tryd.prog.concrete 7 = true := by kernel_rfl
@[simp] theorem foff_7_0 : foff Tryd.prog 7 0 = some 0 := by kernel_rfl
@[simp] theorem ftyp_7_0 : ftyp Tryd.prog 7 0 = 2 := by kernel_rfl
@[simp] theorem foff_7_1 : foff Tryd.prog 7 1 = some 1 := by kernel_rfl
@[simp] theorem ftyp_7_1 : ftyp Tryd.prog 7 1 = 3 := by kernel_rfl
@[simp] theorem foff_7_2 : foff Tryd.prog 7 2 = some 2 := by kernel_rfl
@[simp] theorem ftyp_7_2 : ftyp Tryd.prog 7 2 = 4 := by kernel_rfl
@[simp] theorem foff_7_3 : foff Tryd.prog 7 3 = some 3 := by kernel_rfl
@[simp] theorem ftyp_7_3 : ftyp Tryd.prog 7 3 = 6 := by kernel_rfl
@[simp] theorem known_7 : knownF Tryd.prog 7 = true := by kernel_rfl
@[simp] theorem zero_7 : azero Tryd.prog 7 = some [.int .i64 0, .int .i64 0, .bool false, .int .u8 0] := by kernel_rfl
@[simp] theorem nils_7 : nilPos Tryd.prog 7 = [] := by kernel_rfl
@[simp] theorem app_7 : appOk Tryd.prog 7 = true := by kernel_rfl
@[simp] theorem eby_7 : ebytes Tryd.prog 7 = 24 := by kernel_rfl
@[simp] theorem info_8 : (Tryd.prog.info? 8).isSome = true := by kernel_rfl
@[simp] theorem agg_8 : aggO Tryd.prog 8 = some true := by kernel_rfl
@[simp] theorem esz_8 : esz Tryd.prog 8 = 4 := by kernel_rfl
@[simp] theorem conc_8 : Tryd.prog.concrete 8 = true := by kernel_rfl
@[simp] theorem foff_8_0 : foff Tryd.prog 8 0 = some 0 := by kernel_rfl
@[simp] theorem ftyp_8_0 : ftyp Tryd.prog 8 0 = 2 := by kernel_rfl
@[simp] theorem foff_8_1 : foff Tryd.prog 8 1 = some 1 := by kernel_rfl
@[simp] theorem ftyp_8_1 : ftyp Tryd.prog 8 1 = 3 := by kernel_rfl
@[simp] theorem foff_8_2 : foff Tryd.prog 8 2 = some 2 := by kernel_rfl
@[simp] theorem ftyp_8_2 : ftyp Tryd.prog 8 2 = 4 := by kernel_rfl
@[simp] theorem foff_8_3 : foff Tryd.prog 8 3 = some 3 := by kernel_rfl
@[simp] theorem ftyp_8_3 : ftyp Tryd.prog 8 3 = 6 := by kernel_rfl
@[simp] theorem known_8 : knownF Tryd.prog 8 = true := by kernel_rfl
@[simp] theorem zero_8 : azero Tryd.prog 8 = some [.int .i64 0, .int .i64 0, .bool false, .int .u8 0] := by kernel_rfl
@[simp] theorem nils_8 : nilPos Tryd.prog 8 = [] := by kernel_rfl
@[simp] theorem app_8 : appOk Tryd.prog 8 = true := by kernel_rfl
@[simp] theorem eby_8 : ebytes Tryd.prog 8 = 24 := by kernel_rfl
@[simp] theorem info_9 : (Tryd.prog.info? 9).isSome = true := by kernel_rfl
@[simp] theorem agg_9 : aggO Tryd.prog 9 = some false := by kernel_rfl
@[simp] theorem esz_9 : esz Tryd.prog 9 = 1 := by kernel_rfl
@[simp] theorem under_9 : Tryd.prog.underlying 9 = some .string := by kernel_rfl
@[simp] theorem strt_9 : strT Tryd.prog 9 = true := by kernel_rfl
@[simp] theorem strb_9 : strB Tryd.prog 9 = true := by kernel_rfl
@[simp] theorem conc_9 : Tryd.prog.concrete 9 = true := by kernel_rfl
@[simp] theorem zero_9 : azero Tryd.prog 9 = some [.str []] := by kernel_rfl
@[simp] theorem nils_9 : nilPos Tryd.prog 9 = [] := by kernel_rfl
@[simp] theorem app_9 : appOk Tryd.prog 9 = true := by kernel_rfl
@[simp] theorem eby_9 : ebytes Tryd.prog 9 = 16 := by kernel_rfl
@[simp] theorem info_10 : (Tryd.prog.info? 10).isSome = true := by kernel_rfl
@[simp] theorem agg_10 : aggO Tryd.prog 10 = some false := by kernel_rfl
@[simp] theorem esz_10 : esz Tryd.prog 10 = 1 := by kernel_rfl
@[simp] theorem under_10 : Tryd.prog.underlying 10 = some .string := by kernel_rfl
@[simp] theorem strt_10 : strT Tryd.prog 10 = true := by kernel_rfl
@[simp] theorem strb_10 : strB Tryd.prog 10 = true := by kernel_rfl
@[simp] theorem conc_10 : Tryd.prog.concrete 10 = true := by kernel_rfl
@[simp] theorem zero_10 : azero Tryd.prog 10 = some [.str []] := by kernel_rfl
@[simp] theorem nils_10 : nilPos Tryd.prog 10 = [] := by kernel_rfl
@[simp] theorem app_10 : appOk Tryd.prog 10 = true := by kernel_rfl
@[simp] theorem eby_10 : ebytes Tryd.prog 10 = 16 := by kernel_rfl
@[simp] theorem info_11 : (Tryd.prog.info? 11).isSome = true := by kernel_rfl
@[simp] theorem agg_11 : aggO Tryd.prog 11 = some false := by kernel_rfl
@[simp] theorem esz_11 : esz Tryd.prog 11 = 1 := by kernel_rfl
@[simp] theorem under_11 : Tryd.prog.underlying 11 = some .string := by kernel_rfl
@[simp] theorem strt_11 : strT Tryd.prog 11 = true := by kernel_rfl
@[simp] theorem strb_11 : strB Tryd.prog 11 = true := by kernel_rfl
@[simp] theorem conc_11 : Tryd.prog.concrete 11 = true := by kernel_rfl
@[simp] theorem zero_11 : azero Tryd.prog 11 = some [.str []] := by kernel_rfl
@[simp] theorem nils_11 : nilPos Tryd.prog 11 = [] := by kernel_rfl
@[simp] theorem app_11 : appOk Tryd.prog 11 = true := by kernel_rfl
@[simp] theorem eby_11 : ebytes Tryd.prog 11 = 16 := by kernel_rfl
@[simp] theorem info_12 : (Tryd.prog.info? 12).isSome = true := by kernel_rfl
@[simp] theorem agg_12 : aggO Tryd.prog 12 = some false := by kernel_rfl
@[simp] theorem esz_12 : esz Tryd.prog 12 = 1 := by kernel_rfl
@[simp] theorem ikind_12 : ikind Tryd.prog 12 = some .u64 := by kernel_rfl
@[simp] theorem under_12 : Tryd.prog.underlying 12 = some (.int .u64) := by kernel_rfl
@[simp] theorem conc_12 : Tryd.prog.concrete 12 = true := by kernel_rfl
@[simp] theorem zero_12 : azero Tryd.prog 12 = some [.int .u64 0] := by kernel_rfl
@[simp] theorem nils_12 : nilPos Tryd.prog 12 = [] := by kernel_rfl
@[simp] theorem app_12 : appOk Tryd.prog 12 = true := by kernel_rfl
@[simp] theorem eby_12 : ebytes Tryd.prog 12 = 8 := by kernel_rfl
@[simp] theorem info_13 : (Tryd.prog.info? 13).isSome = true := by kernel_rfl
@[simp] theorem agg_13 : aggO Tryd.prog 13 = some true := by kernel_rfl
@[simp] theorem esz_13 : esz Tryd.prog 13 = 2 := by kernel_rfl
@[simp] theorem conc_13 : Tryd.prog.concrete 13 = true := by kernel_rfl
@[simp] theorem foff_13_0 : foff Tryd.prog 13 0 = some 0 := by kernel_rfl
@[simp] theorem ftyp_13_0 : ftyp Tryd.prog 13 0 = 9 := by kernel_rfl
@[simp] theorem foff_13_1 : foff Tryd.prog 13 1 = some 1 := by kernel_rfl
@[simp] theorem ftyp_13_1 : ftyp Tryd.prog 13 1 = 12 := by kernel_rfl
@[simp] theorem known_13 : knownF Tryd.prog 13 = true := by kernel_rfl
@[simp] theorem zero_13 : azero Tryd.prog 13 = some [.str [], .int .u64 0] := by kernel_rfl
@[simp] theorem nils_13 : nilPos Tryd.prog 13 = [] := by kernel_rfl
@[simp] theorem app_13 : appOk Tryd.prog 13 = true := by kernel_rfl
@[simp] theorem eby_13 : ebytes Tryd.prog 13 = 24 := by kernel_rfl
@[simp] theorem info_14 : (Tryd.prog.info? 14).isSome = true := by kernel_rfl
@[simp] theorem agg_14 : aggO Tryd.prog 14 = some true := by kernel_rfl
@[simp] theorem esz_14 : esz Tryd.prog 14 = 2 := by kernel_rfl
@[simp] theorem conc_14 : Tryd.prog.concrete 14 = true := by kernel_rfl
@[simp] theorem foff_14_0 : foff Tryd.prog 14 0 = some 0 := by kernel_rfl
@[simp] theorem ftyp_14_0 : ftyp Tryd.prog 14 0 = 9 := by kernel_rfl
@[simp] theorem foff_14_1 : foff Tryd.prog 14 1 = some 1 := by kernel_rfl
@[simp] theorem ftyp_14_1 : ftyp Tryd.prog 14 1 = 12 := by kernel_rfl
@[simp] theorem known_14 : knownF Tryd.prog 14 = true := by kernel_rfl
@[simp] theorem zero_14 : azero Tryd.prog 14 = some [.str [], .int .u64 0] := by kernel_rfl
@[simp] theorem nils_14 : nilPos Tryd.prog 14 = [] := by kernel_rfl
@[simp] theorem app_14 : appOk Tryd.prog 14 = true := by kernel_rfl
@[simp] theorem eby_14 : ebytes Tryd.prog 14 = 24 := by kernel_rfl
@[simp] theorem info_15 : (Tryd.prog.info? 15).isSome = true := by kernel_rfl
@[simp] theorem agg_15 : aggO Tryd.prog 15 = some false := by kernel_rfl
@[simp] theorem esz_15 : esz Tryd.prog 15 = 1 := by kernel_rfl
@[simp] theorem conc_15 : Tryd.prog.concrete 15 = true := by kernel_rfl
@[simp] theorem zero_15 : azero Tryd.prog 15 = some [.nilPtr] := by kernel_rfl
@[simp] theorem nils_15 : nilPos Tryd.prog 15 = [] := by kernel_rfl
@[simp] theorem app_15 : appOk Tryd.prog 15 = true := by kernel_rfl
@[simp] theorem eby_15 : ebytes Tryd.prog 15 = 8 := by kernel_rfl
@[simp] theorem info_16 : (Tryd.prog.info? 16).isSome = true := by kernel_rfl
@[simp] theorem agg_16 : aggO Tryd.prog 16 = some false := by kernel_rfl
@[simp] theorem esz_16 : esz Tryd.prog 16 = 1 := by kernel_rfl
@[simp] theorem conc_16 : Tryd.prog.concrete 16 = true := by kernel_rfl
@[simp] theorem zero_16 : azero Tryd.prog 16 = some [.nilPtr] := by kernel_rfl
@[simp] theorem nils_16 : nilPos Tryd.prog 16 = [] := by kernel_rfl
@[simp] theorem app_16 : appOk Tryd.prog 16 = true := by kernel_rfl
@[simp] theorem eby_16 : ebytes Tryd.prog 16 = 8 := by kernel_rfl
@[simp] theorem info_17 : (Tryd.prog.info? 17).isSome = true := by kernel_rfl
@[simp] theorem agg_17 : aggO Tryd.prog 17 = some false := by kernel_rfl
@[simp] theorem esz_17 : esz Tryd.prog 17 = 1 := by kernel_rfl
@[simp] theorem conc_17 : Tryd.prog.concrete 17 = true := by kernel_rfl
@[simp] theorem zero_17 : azero Tryd.prog 17 = some [.nilPtr] := by kernel_rfl
@[simp] theorem nils_17 : nilPos Tryd.prog 17 = [] := by kernel_rfl
@[simp] theorem app_17 : appOk Tryd.prog 17 = true := by kernel_rfl
@[simp] theorem eby_17 : ebytes Tryd.prog 17 = 8 := by kernel_rfl
@[simp] theorem info_18 : (Tryd.prog.info? 18).isSome = true := by kernel_rfl
@[simp] theorem agg_18 : aggO Tryd.prog 18 = some true := by kernel_rfl
@[simp] theorem esz_18 : esz Tryd.prog 18 = 1 := by kernel_rfl
@[simp] theorem conc_18 : Tryd.prog.concrete 18 = true := by kernel_rfl
@[simp] theorem foff_18_0 : foff Tryd.prog 18 0 = some 0 := by kernel_rfl
@[simp] theorem ftyp_18_0 : ftyp Tryd.prog 18 0 = 17 := by kernel_rfl
@[simp] theorem known_18 : knownF Tryd.prog 18 = true := by kernel_rfl
@[simp] theorem zero_18 : azero Tryd.prog 18 = some [.nilPtr] := by kernel_rfl
@[simp] theorem nils_18 : nilPos Tryd.prog 18 = [] := by kernel_rfl
@[simp] theorem app_18 : appOk Tryd.prog 18 = true := by kernel_rfl
@[simp] theorem eby_18 : ebytes Tryd.prog 18 = 8 := by kernel_rfl
@[simp] theorem info_19 : (Tryd.prog.info? 19).isSome = true := by kernel_rfl
@[simp] theorem agg_19 : aggO Tryd.prog 19 = some true := by kernel_rfl
@[simp] theorem esz_19 : esz Tryd.prog 19 = 1 := by kernel_rfl
@[simp] theorem conc_19 : Tryd.prog.concrete 19 = true := by kernel_rfl
@[simp] theorem foff_19_0 : foff Tryd.prog 19 0 = some 0 := by kernel_rfl
@[simp] theorem ftyp_19_0 : ftyp Tryd.prog 19 0 = 17 := by kernel_rfl
@[simp] theorem known_19 : knownF Tryd.prog 19 = true := by kernel_rfl
@[simp] theorem zero_19 : azero Tryd.prog 19 = some [.nilPtr] := by kernel_rfl
@[simp] theorem nils_19 : nilPos Tryd.prog 19 = [] := by kernel_rfl
@[simp] theorem app_19 : appOk Tryd.prog 19 = true := by kernel_rfl
@[simp] theorem eby_19 : ebytes Tryd.prog 19 = 8 := by kernel_rfl
@[simp] theorem info_20 : (Tryd.prog.info? 20).isSome = true := by kernel_rfl
@[simp] theorem agg_20 : aggO Tryd.prog 20 = some false := by kernel_rfl
@[simp] theorem esz_20 : esz Tryd.prog 20 = 1 := by kernel_rfl
@[simp] theorem ifacet_20 : ifaceT Tryd.prog 20 = true := by kernel_rfl
@[simp] theorem zero_20 : azero Tryd.prog 20 = some [.nilIface] := by kernel_rfl
@[simp] theorem nils_20 : nilPos Tryd.prog 20 = [] := by kernel_rfl
@[simp] theorem app_20 : appOk Tryd.prog 20 = true := by kernel_rfl
@[simp] theorem eby_20 : ebytes Tryd.prog 20 = 16 := by kernel_rfl
@[simp] theorem info_21 : (Tryd.prog.info? 21).isSome = true := by kernel_rfl
@[simp] theorem agg_21 : aggO Tryd.prog 21 = some false := by kernel_rfl
@[simp] theorem esz_21 : esz Tryd.prog 21 = 1 := by kernel_rfl
@[simp] theorem ikind_21 : ikind Tryd.prog 21 = some .i32 := by kernel_rfl
@[simp] theorem under_21 : Tryd.prog.underlying 21 = some (.int .i32) := by kernel_rfl
@[simp] theorem conc_21 : Tryd.prog.concrete 21 = true := by kernel_rfl
@[simp] theorem zero_21 : azero Tryd.prog 21 = some [.int .i32 0] := by kernel_rfl
@[simp] theorem nils_21 : nilPos Tryd.prog 21 = [] := by kernel_rfl
@[simp] theorem app_21 : appOk Tryd.prog 21 = true := by kernel_rfl
@[simp] theorem eby_21 : ebytes Tryd.prog 21 = 4 := by kernel_rfl
@[simp] theorem info_22 : (Tryd.prog.info? 22).isSome = true := by kernel_rfl
@[simp] theorem agg_22 : aggO Tryd.prog 22 = some false := by kernel_rfl
@[simp] theorem esz_22 : esz Tryd.prog 22 = 1 := by kernel_rfl
@[simp] theorem elem_22 : elemT Tryd.prog 22 = some 24 := by kernel_rfl
@[simp] theorem conc_22 : Tryd.prog.concrete 22 = true := by kernel_rfl
@[simp] theorem zero_22 : azero Tryd.prog 22 = some [.slice []] := by kernel_rfl
@[simp] theorem nils_22 : nilPos Tryd.prog 22 = [0] := by kernel_rfl
@[simp] theorem app_22 : appOk Tryd.prog 22 = true := by kernel_rfl
@[simp] theorem eby_22 : ebytes Tryd.prog 22 = 24 := by kernel_rfl
@[simp] theorem info_23 : (Tryd.prog.info? 23).isSome = true := by kernel_rfl
@[simp] theorem agg_23 : aggO Tryd.prog 23 = some true := by kernel_rfl
@[simp] theorem esz_23 : esz Tryd.prog 23 = 3 := by kernel_rfl
@[simp] theorem conc_23 : Tryd.prog.concrete 23 = true := by kernel_rfl
@[simp] theorem foff_23_0 : foff Tryd.prog 23 0 = some 0 := by kernel_rfl
@[simp] theorem ftyp_23_0 : ftyp Tryd.prog 23 0 = 9 := by kernel_rfl
@[simp] theorem foff_23_1 : foff Tryd.prog 23 1 = some 1 := by kernel_rfl
@[simp] theorem ftyp_23_1 : ftyp Tryd.prog 23 1 = 22 := by kernel_rfl
@[simp] theorem foff_23_2 : foff Tryd.prog 23 2 = some 2 := by kernel_rfl
@[simp] theorem ftyp_23_2 : ftyp Tryd.prog 23 2 = 3 := by kernel_rfl
@[simp] theorem known_23 : knownF Tryd.prog 23 = true := by kernel_rfl
@[simp] theorem zero_23 : azero Tryd.prog 23 = some [.str [], .slice [], .int .i64 0] := by kernel_rfl
@[simp] theorem nils_23 : nilPos Tryd.prog 23 = [1] := by kernel_rfl
@[simp] theorem app_23 : appOk Tryd.prog 23 = true := by kernel_rfl
@[simp] theorem eby_23 : ebytes Tryd.prog 23 = 48 := by kernel_rfl
@[simp] theorem info_24 : (Tryd.prog.info? 24).isSome = true := by kernel_rfl
@[simp] theorem agg_24 : aggO Tryd.prog 24 = some true := by kernel_rfl
@[simp] theorem esz_24 : esz Tryd.prog 24 = 3 := by kernel_rfl
@[simp] theorem conc_24 : Tryd.prog.concrete 24 = true := by kernel_rfl
@[simp] theorem foff_24_0 : foff Tryd.prog 24 0 = some 0 := by kernel_rfl
@[simp] theorem ftyp_24_0 : ftyp Tryd.prog 24 0 = 9 := by kernel_rfl
@[simp] theorem foff_24_1 : foff Tryd.prog 24 1 = some 1 := by kernel_rfl
@[simp] theorem ftyp_24_1 : ftyp Tryd.prog 24 1 = 22 := by kernel_rfl
@[simp] theorem foff_24_2 : foff Tryd.prog 24 2 = some 2 := by kernel_rfl
@[simp] theorem ftyp_24_2 : ftyp Tryd.prog 24 2 = 3 := by kernel_rfl
@[simp] theorem known_24 : knownF Tryd.prog 24 = true := by kernel_rfl
@[simp] theorem zero_24 : azero Tryd.prog 24 = some [.str [], .slice [], .int .i64 0] := by kernel_rfl
@[simp] theorem nils_24 : nilPos Tryd.prog 24 = [1] := by kernel_rfl
@[simp] theorem app_24 : appOk Tryd.prog 24 = true := by kernel_rfl
@[simp] theorem eby_24 : ebytes Tryd.prog 24 = 48 := by kernel_rfl
@[simp] theorem info_25 : (Tryd.prog.info? 25).isSome = true := by kernel_rfl
@[simp] theorem agg_25 : aggO Tryd.prog 25 = some false := by kernel_rfl
@[simp] theorem esz_25 : esz Tryd.prog 25 = 1 := by kernel_rfl
@[simp] theorem elem_25 : elemT Tryd.prog 25 = some 27 := by kernel_rfl
@[simp] theorem conc_25 : Tryd.prog.concrete 25 = true := by kernel_rfl
@[simp] theorem zero_25 : azero Tryd.prog 25 = some [.slice []] := by kernel_rfl
@[simp] theorem nils_25 : nilPos Tryd.prog 25 = [0] := by kernel_rfl
@[simp] theorem app_25 : appOk Tryd.prog 25 = true := by kernel_rfl
@[simp] theorem eby_25 : ebytes Tryd.prog 25 = 24 := by kernel_rfl
@[simp] theorem info_26 : (Tryd.prog.info? 26).isSome = true := by kernel_rfl
@[simp] theorem agg_26 : aggO Tryd.prog 26 = some true := by kernel_rfl
@[simp] theorem esz_26 : esz Tryd.prog 26 = 8 := by kernel_rfl
@[simp] theorem conc_26 : Tryd.prog.concrete 26 = true := by kernel_rfl
@[simp] theorem foff_26_0 : foff Tryd.prog 26 0 = some 0 := by kernel_rfl
@[simp] theorem ftyp_26_0 : ftyp Tryd.prog 26 0 = 3 := by kernel_rfl
@[simp] theorem foff_26_1 : foff Tryd.prog 26 1 = some 1 := by kernel_rfl
@[simp] theorem ftyp_26_1 : ftyp Tryd.prog 26 1 = 9 := by kernel_rfl
@[simp] theorem foff_26_2 : foff Tryd.prog 26 2 = some 2 := by kernel_rfl
@[simp] theorem ftyp_26_2 : ftyp Tryd.prog 26 2 = 24 := by kernel_rfl
@[simp] theorem foff_26_3 : foff Tryd.prog 26 3 = some 5 := by kernel_rfl
@[simp] theorem ftyp_26_3 : ftyp Tryd.prog 26 3 = 22 := by kernel_rfl
@[simp] theorem foff_26_4 : foff Tryd.prog 26 4 = some 6 := by kernel_rfl
@[simp] theorem ftyp_26_4 : ftyp Tryd.prog 26 4 = 25 := by kernel_rfl
@[simp] theorem foff_26_5 : foff Tryd.prog 26 5 = some 7 := by kernel_rfl
@[simp] theorem ftyp_26_5 : ftyp Tryd.prog 26 5 = 3 := by kernel_rfl
@[simp] theorem known_26 : knownF Tryd.prog 26 = true := by kernel_rfl
@[simp] theorem zero_26 : azero Tryd.prog 26 = some [.int .i64 0, .str [], .str [], .slice [], .int .i64 0, .slice [], .slice [], .int .i64 0] := by kernel_rfl
@[simp] theorem nils_26 : nilPos Tryd.prog 26 = [3, 5, 6] := by kernel_rfl
@[simp] theorem app_26 : appOk Tryd.prog 26 = true := by kernel_rfl
@[simp] theorem eby_26 : ebytes Tryd.prog 26 = 128 := by kernel_rfl
@[simp] theorem info_27 : (Tryd.prog.info? 27).isSome = true := by kernel_rfl
@[simp] theorem agg_27 : aggO Tryd.prog 27 = some true := by kernel_rfl
@[simp] theorem esz_27 : esz Tryd.prog 27 = 8 := by kernel_rfl
@[simp] theorem conc_27 : Tryd.prog.concrete 27 = true := by kernel_rfl
@[simp] theorem foff_27_0 : foff Tryd.prog 27 0 = some 0 := by kernel_rfl
@[simp] theorem ftyp_27_0 : ftyp Tryd.prog 27 0 = 3 := by kernel_rfl
@[simp] theorem foff_27_1 : foff Tryd.prog 27 1 = some 1 := by kernel_rfl
@[simp] theorem ftyp_27_1 : ftyp Tryd.prog 27 1 = 9 := by kernel_rfl
@[simp] theorem foff_27_2 : foff Tryd.prog 27 2 = some 2 := by kernel_rfl
@[simp] theorem ftyp_27_2 : ftyp Tryd.prog 27 2 = 24 := by kernel_rfl
@[simp] theorem foff_27_3 : foff Tryd.prog 27 3 = some 5 := by kernel_rfl
@[simp] theorem ftyp_27_3 : ftyp Tryd.prog 27 3 = 22 := by kernel_rfl
@[simp] theorem foff_27_4 : foff Tryd.prog 27 4 = some 6 := by kernel_rfl
@[simp] theorem ftyp_27_4 : ftyp Tryd.prog 27 4 = 25 := by kernel_rfl
@[simp] theorem foff_27_5 : foff Tryd.prog 27 5 = some 7 := by kernel_rfl
@[simp] theorem ftyp_27_5 : ftyp Tryd.prog 27 5 = 3 := by kernel_rfl
@[simp] theorem known_27 : knownF Tryd.prog 27 = true := by kernel_rfl
@[simp] theorem zero_27 : azero Tryd.prog 27 = some [.int .i64 0, .str [], .str [], .slice [], .int .i64 0, .slice [], .slice [], .int .i64 0] := by kernel_rfl
@[simp] theorem nils_27 : nilPos Tryd.prog 27 = [3, 5, 6] := by kernel_rfl
@[simp] theorem app_27 : appOk Tryd.prog 27 = true := by kernel_rfl
@[simp] theorem eby_27 : ebytes Tryd.prog 27 = 128 := by kernel_rfl
@[simp] theorem info_28 : (Tryd.prog.info? 28).isSome = true := by kernel_rfl
@[simp] theorem agg_28 : aggO Tryd.prog 28 = some false := by kernel_rfl
@[simp] theorem esz_28 : esz Tryd.prog 28 = 1 := by kernel_rfl
@[simp] theorem funct_28 : funcT Tryd.prog 28 = true := by kernel_rfl
@[simp] theorem conc_28 : Tryd.prog.concrete 28 = true := by kernel_rfl
@[simp] theorem zero_28 : azero Tryd.prog 28 = some [.nilFunc] := by kernel_rfl
@[simp] theorem nils_28 : nilPos Tryd.prog 28 = [] := by kernel_rfl
@[simp] theorem app_28 : appOk Tryd.prog 28 = true := by kernel_rfl
@[simp] theorem eby_28 : ebytes Tryd.prog 28 = 8 := by kernel_rfl
@[simp] theorem info_29 : (Tryd.prog.info? 29).isSome = true := by kernel_rfl
@[simp] theorem agg_29 : aggO Tryd.prog 29 = some false := by kernel_rfl
@[simp] theorem esz_29 : esz Tryd.prog 29 = 1 := by kernel_rfl
@[simp] theorem funct_29 : funcT Tryd.prog 29 = true := by kernel_rfl
@[simp] theorem conc_29 : Tryd.prog.concrete 29 = true := by kernel_rfl
@[simp] theorem zero_29 : azero Tryd.prog 29 = some [.nilFunc] := by kernel_rfl
@[simp] theorem nils_29 : nilPos Tryd.prog 29 = [] := by kernel_rfl
@[simp] theorem app_29 : appOk Tryd.prog 29 = true := by kernel_rfl
@[simp] theorem eby_29 : ebytes Tryd.prog 29 = 8 := by kernel_rfl
@[simp] theorem info_30 : (Tryd.prog.info? 30).isSome = true := by kernel_rfl
@[simp] theorem agg_30 : aggO Tryd.prog 30 = some false := by kernel_rfl
@[simp] theorem esz_30 : esz Tryd.prog 30 = 1 := by kernel_rfl
@[simp] theorem funct_30 : funcT Tryd.prog 30 = true := by kernel_rfl
@[simp] theorem conc_30 : Tryd.prog.concrete 30 = true := by kernel_rfl
@[simp] theorem zero_30 : azero Tryd.prog 30 = some [.nilFunc] := by kernel_rfl
@[simp] theorem nils_30 : nilPos Tryd.prog 30 = [] := by kernel_rfl
@[simp] theorem app_30 : appOk Tryd.prog 30 = true := by kernel_rfl
@[simp] theorem eby_30 : ebytes Tryd.prog 30 = 8 := by kernel_rfl
@[simp] theorem info_31 : (Tryd.prog.info? 31).isSome = true := by kernel_rfl
@[simp] theorem agg_31 : aggO Tryd.prog 31 = some false := by kernel_rfl
@[simp] theorem esz_31 : esz Tryd.prog 31 = 1 := by kernel_rfl
@[simp] theorem funct_31 : funcT Tryd.prog 31 = true := by kernel_rfl
@[simp] theorem conc_31 : Tryd.prog.concrete 31 = true := by kernel_rfl
@[simp] theorem zero_31 : azero Tryd.prog 31 = some [.nilFunc] := by kernel_rfl
@[simp] theorem nils_31 : nilPos Tryd.prog 31 = [] := by kernel_rfl
@[simp] theorem app_31 : appOk Tryd.prog 31 = true := by kernel_rfl
@[simp] theorem eby_31 : ebytes Tryd.prog 31 = 8 := by kernel_rfl
@[simp] theorem info_32 : (Tryd.prog.info? 32).isSome = true := by kernel_rfl
@[simp] theorem agg_32 : aggO Tryd.prog 32 = some false := by kernel_rfl
@[simp] theorem esz_32 : esz Tryd.prog 32 = 1 := by kernel_rfl
@[simp] theorem funct_32 : funcT Tryd.prog 32 = true := by kernel_rfl
@[simp] theorem conc_32 : Tryd.prog.concrete 32 = true := by kernel_rfl
@[simp] theorem zero_32 : azero Tryd.prog 32 = some [.nilFunc] := by kernel_rfl
@[simp] theorem nils_32 : nilPos Tryd.prog 32 = [] := by kernel_rfl
@[simp] theorem app_32 : appOk Tryd.prog 32 = true := by kernel_rfl
@[simp] theorem eby_32 : ebytes Tryd.prog 32 = 8 := by kernel_rfl
@[simp] theorem info_33 : (Tryd.prog.info? 33).isSome = true := by kernel_rfl
@[simp] theorem agg_33 : aggO Tryd.prog 33 = some false := by kernel_rfl
@[simp] theorem esz_33 : esz Tryd.prog 33 = 1 := by kernel_rfl
@[simp] theorem elem_33 : elemT Tryd.prog 33 = some 9 := by kernel_rfl
@[simp] theorem conc_33 : Tryd.prog.concrete 33 = true := by kernel_rfl
@[simp] theorem zero_33 : azero Tryd.prog 33 = some [.slice []] := by kernel_rfl
@[simp] theorem nils_33 : nilPos Tryd.prog 33 = [0] := by kernel_rfl
@[simp] theorem app_33 : appOk Tryd.prog 33 = true := by kernel_rfl
@[simp] theorem eby_33 : ebytes Tryd.prog 33 = 24 := by kernel_rfl
@[simp] theorem info_34 : (Tryd.prog.info? 34).isSome = true := by kernel_rfl
@[simp] theorem agg_34 : aggO Tryd.prog 34 = some false := by kernel_rfl
@[simp] theorem esz_34 : esz Tryd.prog 34 = 1 := by kernel_rfl
@[simp] theorem funct_34 : funcT Tryd.prog 34 = true := by kernel_rfl
@[simp] theorem conc_34 : Tryd.prog.concrete 34 = true := by kernel_rfl
@[simp] theorem zero_34 : azero Tryd.prog 34 = some [.nilFunc] := by kernel_rfl
@[simp] theorem nils_34 : nilPos Tryd.prog 34 = [] := by kernel_rfl
@[simp] theorem app_34 : appOk Tryd.prog 34 = true := by kernel_rfl
@[simp] theorem eby_34 : ebytes Tryd.prog 34 = 8 := by kernel_rfl
@[simp] theorem info_35 : (Tryd.prog.info? 35).isSome = true := by kernel_rfl
@[simp] theorem agg_35 : aggO Tryd.prog 35 = some false := by kernel_rfl
@[simp] theorem esz_35 : esz Tryd.prog 35 = 1 := by kernel_rfl
@[simp] theorem funct_35 : funcT Tryd.prog 35 = true := by kernel_rfl
@[simp] theorem conc_35 : Tryd.prog.concrete 35 = true := by kernel_rfl
@[simp] theorem zero_35 : azero Tryd.prog 35 = some [.nilFunc] := by kernel_rfl
@[simp] theorem nils_35 : nilPos Tryd.prog 35 = [] := by kernel_rfl
@[simp] theorem app_35 : appOk Tryd.prog 35 = true := by kernel_rfl
@[simp] theorem eby_35 : ebytes Tryd.prog 35 = 8 := by kernel_rfl
@[simp] theorem info_36 : (Tryd.prog.info? 36).isSome = true := by kernel_rfl
@[simp] theorem agg_36 : aggO Tryd.prog 36 = some false := by kernel_rfl
@[simp] theorem esz_36 : esz Tryd.prog 36 = 1 := by kernel_rfl
@[simp] theorem funct_36 : funcT Tryd.prog 36 = true := by kernel_rfl
@[simp] theorem conc_36 : Tryd.prog.concrete 36 = true := by kernel_rfl
@[simp] theorem zero_36 : azero Tryd.prog 36 = some [.nilFunc] := by kernel_rfl
@[simp] theorem nils_36 : nilPos Tryd.prog 36 = [] := by kernel_rfl
@[simp] theorem app_36 : appOk Tryd.prog 36 = true := by kernel_rfl
@[simp] theorem eby_36 : ebytes Tryd.prog 36 = 8 := by kernel_rfl
@[simp] theorem info_37 : (Tryd.prog.info? 37).isSome = true := by kernel_rfl
@[simp] theorem agg_37 : aggO Tryd.prog 37 = some false := by kernel_rfl
@[simp] theorem esz_37 : esz Tryd.prog 37 = 1 := by kernel_rfl
@[simp] theorem funct_37 : funcT Tryd.prog 37 = true := by kernel_rfl
@[simp] theorem conc_37 : Tryd.prog.concrete 37 = true := by kernel_rfl
@[simp] theorem zero_37 : azero Tryd.prog 37 = some [.nilFunc] := by kernel_rfl
@[simp] theorem nils_37 : nilPos Tryd.prog 37 = [] := by kernel_rfl
@[simp] theorem app_37 : appOk Tryd.prog 37 = true := by kernel_rfl
@[simp] theorem eby_37 : ebytes Tryd.prog 37 = 8 := by kernel_rfl
@[simp] theorem info_38 : (Tryd.prog.info? 38).isSome = true := by kernel_rfl
@[simp] theorem agg_38 : aggO Tryd.prog 38 = some false := by kernel_rfl
@[simp] theorem esz_38 : esz Tryd.prog 38 = 1 := by kernel_rfl
@[simp] theorem funct_38 : funcT Tryd.prog 38 = true := by kernel_rfl
@[simp] theorem conc_38 : Tryd.prog.concrete 38 = true := by kernel_rfl
@[simp] theorem zero_38 : azero Tryd.prog 38 = some [.nilFunc] := by kernel_rfl
@[simp] theorem nils_38 : nilPos Tryd.prog 38 = [] := by kernel_rfl
@[simp] theorem app_38 : appOk Tryd.prog 38 = true := by kernel_rfl
@[simp] theorem eby_38 : ebytes Tryd.prog 38 = 8 := by kernel_rfl
@[simp] theorem info_39 : (Tryd.prog.info? 39).isSome = true := by kernel_rfl
@[simp] theorem agg_39 : aggO Tryd.prog 39 = some false := by kernel_rfl
@[simp] theorem esz_39 : esz Tryd.prog 39 = 1 := by kernel_rfl
@[simp] theorem funct_39 : funcT Tryd.prog 39 = true := by kernel_rfl
@[simp] theorem conc_39 : Tryd.prog.concrete 39 = true := by kernel_rfl
@[simp] theorem zero_39 : azero Tryd.prog 39 = some [.nilFunc] := by kernel_rfl
@[simp] theorem nils_39 : nilPos Tryd.prog 39 = [] := by kernel_rfl
@[simp] theorem app_39 : appOk Tryd.prog 39 = true := by kernel_rfl
@[simp] theorem eby_39 : ebytes Tryd.prog 39 = 8 := by kernel_rfl
@[simp] theorem info_40 : (Tryd.prog.info? 40).isSome = true := by kernel_rfl
@[simp] theorem agg_40 : aggO Tryd.prog 40 = some false := by kernel_rfl
@[simp] theorem esz_40 : esz Tryd.prog 40 = 1 := by kernel_rfl
@[simp] theorem funct_40 : funcT Tryd.prog 40 = true := by kernel_rfl
@[simp] theorem conc_40 : Tryd.prog.concrete 40 = true := by kernel_rfl
@[simp] theorem zero_40 : azero Tryd.prog 40 = some [.nilFunc] := by kernel_rfl
@[simp] theorem nils_40 : nilPos Tryd.prog 40 = [] := by kernel_rfl
@[simp] theorem app_40 : appOk Tryd.prog 40 = true := by kernel_rfl
@[simp] theorem eby_40 : ebytes Tryd.prog 40 = 8 := by kernel_rfl
@[simp] theorem info_41 : (Tryd.prog.info? 41).isSome = true := by kernel_rfl
@[simp] theorem agg_41 : aggO Tryd.prog 41 = some false := by kernel_rfl
@[simp] theorem esz_41 : esz Tryd.prog 41 = 1 := by kernel_rfl
@[simp] theorem funct_41 : funcT Tryd.prog 41 = true := by kernel_rfl
@[simp] theorem conc_41 : Tryd.prog.concrete 41 = true := by kernel_rfl
@[simp] theorem zero_41 : azero Tryd.prog 41 = some [.nilFunc] := by kernel_rfl
@[simp] theorem nils_41 : nilPos Tryd.prog 41 = [] := by kernel_rfl
@[simp] theorem app_41 : appOk Tryd.prog 41 = true := by kernel_rfl
@[simp] theorem eby_41 : ebytes Tryd.prog 41 = 8 := by kernel_rfl
@[simp] theorem info_42 : (Tryd.prog.info? 42).isSome = true := by kernel_rfl
@[simp] theorem agg_42 : aggO Tryd.prog 42 = some false := by kernel_rfl
@[simp] theorem esz_42 : esz Tryd.prog 42 = 1 := by kernel_rfl
@[simp] theorem funct_42 : funcT Tryd.prog 42 = true := by kernel_rfl
@[simp] theorem conc_42 : Tryd.prog.concrete 42 = true := by kernel_rfl
@[simp] theorem zero_42 : azero Tryd.prog 42 = some [.nilFunc] := by kernel_rfl
@[simp] theorem nils_42 : nilPos Tryd.prog 42 = [] := by kernel_rfl
@[simp] theorem app_42 : appOk Tryd.prog 42 = true := by kernel_rfl
@[simp] theorem eby_42 : ebytes Tryd.prog 42 = 8 := by kernel_rfl
@[simp] theorem info_43 : (Tryd.prog.info? 43).isSome = true := by kernel_rfl
@[simp] theorem agg_43 : aggO Tryd.prog 43 = some false := by kernel_rfl
@[simp] theorem esz_43 : esz Tryd.prog 43 = 1 := by kernel_rfl
@[simp] theorem funct_43 : funcT Tryd.prog 43 = true := by kernel_rfl
@[simp] theorem conc_43 : Tryd.prog.concrete 43 = true := by kernel_rfl
@[simp] theorem zero_43 : azero Tryd.prog 43 = some [.nilFunc] := by kernel_rfl
@[simp] theorem nils_43 : nilPos Tryd.prog 43 = [] := by kernel_rfl
@[simp] theorem app_43 : appOk Tryd.prog 43 = true := by kernel_rfl
@[simp] theorem eby_43 : ebytes Tryd.prog 43 = 8 := by kernel_rfl
@[simp] theorem info_44 : (Tryd.prog.info? 44).isSome = true := by kernel_rfl
@[simp] theorem agg_44 : aggO Tryd.prog 44 = some false := by kernel_rfl
@[simp] theorem esz_44 : esz Tryd.prog 44 = 1 := by kernel_rfl
@[simp] theorem funct_44 : funcT Tryd.prog 44 = true := by kernel_rfl
@[simp] theorem conc_44 : Tryd.prog.concrete 44 = true := by kernel_rfl
@[simp] theorem zero_44 : azero Tryd.prog 44 = some [.nilFunc] := by kernel_rfl
@[simp] theorem nils_44 : nilPos Tryd.prog 44 = [] := by kernel_rfl
@[simp] theorem app_44 : appOk Tryd.prog 44 = true := by kernel_rfl
@[simp] theorem eby_44 : ebytes Tryd.prog 44 = 8 := by kernel_rfl
@[simp] theorem info_45 : (Tryd.prog.info? 45).isSome = true := by kernel_rfl
@[simp] theorem agg_45 : aggO Tryd.prog 45 = some false := by kernel_rfl
@[simp] theorem esz_45 : esz Tryd.prog 45 = 1 := by kernel_rfl
@[simp] theorem funct_45 : funcT Tryd.prog 45 = true := by kernel_rfl
@[simp] theorem conc_45 : Tryd.prog.concrete 45 = true := by kernel_rfl
@[simp] theorem zero_45 : azero Tryd.prog 45 = some [.nilFunc] := by kernel_rfl
@[simp] theorem nils_45 : nilPos Tryd.prog 45 = [] := by kernel_rfl
@[simp] theorem app_45 : appOk Tryd.prog 45 = true := by kernel_rfl
@[simp] theorem eby_45 : ebytes Tryd.prog 45 = 8 := by kernel_rfl
@[simp] theorem info_46 : (Tryd.prog.info? 46).isSome = true := by kernel_rfl
@[simp] theorem agg_46 : aggO Tryd.prog 46 = some false := by kernel_rfl
@[simp] theorem esz_46 : esz Tryd.prog 46 = 1 := by kernel_rfl
@[simp] theorem conc_46 : Tryd.prog.concrete 46 = true := by kernel_rfl
@[simp] theorem zero_46 : azero Tryd.prog 46 = some [.nilPtr] := by kernel_rfl
@[simp] theorem nils_46 : nilPos Tryd.prog 46 = [] := by kernel_rfl
@[simp] theorem app_46 : appOk Tryd.prog 46 = true := by kernel_rfl
@[simp] theorem eby_46 : ebytes Tryd.prog 46 = 8 := by kernel_rfl
@[simp] theorem info_47 : (Tryd.prog.info? 47).isSome = true := by kernel_rfl
@[simp] theorem agg_47 : aggO Tryd.prog 47 = some false := by kernel_rfl
@[simp] theorem esz_47 : esz Tryd.prog 47 = 1 := by kernel_rfl
@[simp] theorem funct_47 : funcT Tryd.prog 47 = true := by kernel_rfl
@[simp] theorem conc_47 : Tryd.prog.concrete 47 = true := by kernel_rfl
@[simp] theorem zero_47 : azero Tryd.prog 47 = some [.nilFunc] := by kernel_rfl
@[simp] theorem nils_47 : nilPos Tryd.prog 47 = [] := by kernel_rfl
@[simp] theorem app_47 : appOk Tryd.prog 47 = true := by kernel_rfl
@[simp] theorem eby_47 : ebytes Tryd.prog 47 = 8 := by kernel_rfl
@[simp] theorem info_48 : (Tryd.prog.info? 48).isSome = true := by kernel_rfl
@[simp] theorem agg_48 : aggO Tryd.prog 48 = some false := by kernel_rfl
@[simp] theorem esz_48 : esz Tryd.prog 48 = 1 := by kernel_rfl
@[simp] theorem funct_48 : funcT Tryd.prog 48 = true := by kernel_rfl
@[simp] theorem conc_48 : Tryd.prog.concrete 48 = true := by kernel_rfl
@[simp] theorem zero_48 : azero Tryd.prog 48 = some [.nilFunc] := by kernel_rfl
@[simp] theorem nils_48 : nilPos Tryd.prog 48 = [] := by kernel_rfl
@[simp] theorem app_48 : appOk Tryd.prog 48 = true := by kernel_rfl
@[simp] theorem eby_48 : ebytes Tryd.prog 48 = 8 := by kernel_rfl
@[simp] theorem info_49 : (Tryd.prog.info? 49).isSome = true := by kernel_rfl
@[simp] theorem agg_49 : aggO Tryd.prog 49 = some false := by kernel_rfl
@[simp] theorem esz_49 : esz Tryd.prog 49 = 1 := by kernel_rfl
@[simp] theorem funct_49 : funcT Tryd.prog 49 = true := by kernel_rfl
@[simp] theorem conc_49 : Tryd.prog.concrete 49 = true := by kernel_rfl
@[simp] theorem zero_49 : azero Tryd.prog 49 = some [.nilFunc] := by kernel_rfl
@[simp] theorem nils_49 : nilPos Tryd.prog 49 = [] := by kernel_rfl
@[simp] theorem app_49 : appOk Tryd.prog 49 = true := by kernel_rfl
@[simp] theorem eby_49 : ebytes Tryd.prog 49 = 8 := by kernel_rfl
@[simp] theorem info_50 : (Tryd.prog.info? 50).isSome = true := by kernel_rfl
@[simp] theorem agg_50 : aggO Tryd.prog 50 = some false := by kernel_rfl
@[simp] theorem esz_50 : esz Tryd.prog 50 = 1 := by kernel_rfl
@[simp] theorem funct_50 : funcT Tryd.prog 50 = true := by kernel_rfl
@[simp] theorem conc_50 : Tryd.prog.concrete 50 = true := by kernel_rfl
@[simp] theorem zero_50 : azero Tryd.prog 50 = some [.nilFunc] := by kernel_rfl
@[simp] theorem nils_50 : nilPos Tryd.prog 50 = [] := by kernel_rfl
@[simp] theorem app_50 : appOk Tryd.prog 50 = true := by kernel_rfl
@[simp] theorem eby_50 : ebytes Tryd.prog 50 = 8 := by kernel_rfl
@[simp] theorem info_51 : (Tryd.prog.info? 51).isSome = true := by kernel_rfl
@[simp] theorem agg_51 : aggO Tryd.prog 51 = some false := by kernel_rfl
@[simp] theorem esz_51 : esz Tryd.prog 51 = 1 := by kernel_rfl
@[simp] theorem funct_51 : funcT Tryd.prog 51 = true := by kernel_rfl
@[simp] theorem conc_51 : Tryd.prog.concrete 51 = true := by kernel_rfl
@[simp] theorem zero_51 : azero Tryd.prog 51 = some [.nilFunc] := by kernel_rfl
@[simp] theorem nils_51 : nilPos Tryd.prog 51 = [] := by kernel_rfl
@[simp] theorem app_51 : appOk Tryd.prog 51 = true := by kernel_rfl
@[simp] theorem eby_51 : ebytes Tryd.prog 51 = 8 := by kernel_rfl
@[simp] theorem info_52 : (Tryd.prog.info? 52).isSome = true := by kernel_rfl
@[simp] theorem agg_52 : aggO Tryd.prog 52 = some false := by kernel_rfl
@[simp] theorem esz_52 : esz Tryd.prog 52 = 1 := by kernel_rfl
@[simp] theorem funct_52 : funcT Tryd.prog 52 = true := by kernel_rfl
@[simp] theorem conc_52 : Tryd.prog.concrete 52 = true := by kernel_rfl
@[simp] theorem zero_52 : azero Tryd.prog 52 = some [.nilFunc] := by kernel_rfl
@[simp] theorem nils_52 : nilPos Tryd.prog 52 = [] := by kernel_rfl
@[simp] theorem app_52 : appOk Tryd.prog 52 = true := by kernel_rfl
@[simp] theorem eby_52 : ebytes Tryd.prog 52 = 8 := by kernel_rfl
@[simp] theorem info_53 : (Tryd.prog.info? 53).isSome = true := by kernel_rfl
@[simp] theorem agg_53 : aggO Tryd.prog 53 = some false := by kernel_rfl
@[simp] theorem esz_53 : esz Tryd.prog 53 = 1 := by kernel_rfl
@[simp] theorem funct_53 : funcT Tryd.prog 53 = true := by kernel_rfl
@[simp] theorem conc_53 : Tryd.prog.concrete 53 = true := by kernel_rfl
@[simp] theorem zero_53 : azero Tryd.prog 53 = some [.nilFunc] := by kernel_rfl
@[simp] theorem nils_53 : nilPos Tryd.prog 53 = [] := by kernel_rfl
@[simp] theorem app_53 : appOk Tryd.prog 53 = true := by kernel_rfl
@[simp] theorem eby_53 : ebytes Tryd.prog 53 = 8 := by kernel_rfl
@[simp] theorem info_54 : (Tryd.prog.info? 54).isSome = true := by kernel_rfl
@[simp] theorem agg_54 : aggO Tryd.prog 54 = some false := by kernel_rfl
@[simp] theorem esz_54 : esz Tryd.prog 54 = 1 := by kernel_rfl
@[simp] theorem funct_54 : funcT Tryd.prog 54 = true := by kernel_rfl
@[simp] theorem conc_54 : Tryd.prog.concrete 54 = true := by kernel_rfl
@[simp] theorem zero_54 : azero Tryd.prog 54 = some [.nilFunc] := by kernel_rfl
@[simp] theorem nils_54 : nilPos Tryd.prog 54 = [] := by kernel_rfl
@[simp] theorem app_54 : appOk Tryd.prog 54 = true := by kernel_rfl
@[simp] theorem eby_54 : ebytes Tryd.prog 54 = 8 := by kernel_rfl
@[simp] theorem info_55 : (Tryd.prog.info? 55).isSome = true := by kernel_rfl
@[simp] theorem agg_55 : aggO Tryd.prog 55 = some false := by kernel_rfl
@[simp] theorem esz_55 : esz Tryd.prog 55 = 1 := by kernel_rfl
@[simp] theorem funct_55 : funcT Tryd.prog 55 = true := by kernel_rfl
@[simp] theorem conc_55 : Tryd.prog.concrete 55 = true := by kernel_rfl
@[simp] theorem zero_55 : azero Tryd.prog 55 = some [.nilFunc] := by kernel_rfl
@[simp] theorem nils_55 : nilPos Tryd.prog 55 = [] := by kernel_rfl
@[simp] theorem app_55 : appOk Tryd.prog 55 = true := by kernel_rfl
@[simp] theorem eby_55 : ebytes Tryd.prog 55 = 8 := by kernel_rfl
@[simp] theorem info_56 : (Tryd.prog.info? 56).isSome = true := by kernel_rfl
@[simp] theorem agg_56 : aggO Tryd.prog 56 = some false := by kernel_rfl
@[simp] theorem esz_56 : esz Tryd.prog 56 = 1 := by kernel_rfl
@[simp] theorem funct_56 : funcT Tryd.prog 56 = true := by kernel_rfl
@[simp] theorem conc_56 : Tryd.prog.concrete 56 = true := by kernel_rfl
@[simp] theorem zero_56 : azero Tryd.prog 56 = some [.nilFunc] := by kernel_rfl
@[simp] theorem nils_56 : nilPos Tryd.prog 56 = [] := by kernel_rfl
@[simp] theorem app_56 : appOk Tryd.prog 56 = true := by kernel_rfl
@[simp] theorem eby_56 : ebytes Tryd.prog 56 = 8 := by kernel_rfl
@[simp] theorem info_57 : (Tryd.prog.info? 57).isSome = true := by kernel_rfl
@[simp] theorem agg_57 : aggO Tryd.prog 57 = some false := by kernel_rfl
@[simp] theorem esz_57 : esz Tryd.prog 57 = 1 := by kernel_rfl
@[simp] theorem funct_57 : funcT Tryd.prog 57 = true := by kernel_rfl
@[simp] theorem conc_57 : Tryd.prog.concrete 57 = true := by kernel_rfl
@[simp] theorem zero_57 : azero Tryd.prog 57 = some [.nilFunc] := by kernel_rfl
@[simp] theorem nils_57 : nilPos Tryd.prog 57 = [] := by kernel_rfl
@[simp] theorem app_57 : appOk Tryd.prog 57 = true := by kernel_rfl
@[simp] theorem eby_57 : ebytes Tryd.prog 57 = 8 := by kernel_rfl
@[simp] theorem info_58 : (Tryd.prog.info? 58).isSome = true := by kernel_rfl
@[simp] theorem agg_58 : aggO Tryd.prog 58 = some false := by kernel_rfl
@[simp] theorem esz_58 : esz Tryd.prog 58 = 1 := by kernel_rfl
@[simp] theorem funct_58 : funcT Tryd.prog 58 = true := by kernel_rfl
@[simp] theorem conc_58 : Tryd.prog.concrete 58 = true := by kernel_rfl
@[simp] theorem zero_58 : azero Tryd.prog 58 = some [.nilFunc] := by kernel_rfl
@[simp] theorem nils_58 : nilPos Tryd.prog 58 = [] := by kernel_rfl
@[simp] theorem app_58 : appOk Tryd.prog 58 = true := by kernel_rfl
@[simp] theorem eby_58 : ebytes Tryd.prog 58 = 8 := by kernel_rfl
@[simp] theorem info_59 : (Tryd.prog.info? 59).isSome = true := by kernel_rfl
@[simp] theorem agg_59 : aggO Tryd.prog 59 = some false := by kernel_rfl
@[simp] theorem esz_59 : esz Tryd.prog 59 = 1 := by kernel_rfl
@[simp] theorem funct_59 : funcT Tryd.prog 59 = true := by kernel_rfl
@[simp] theorem conc_59 : Tryd.prog.concrete 59 = true := by kernel_rfl
@[simp] theorem zero_59 : azero Tryd.prog 59 = some [.nilFunc] := by kernel_rfl
@[simp] theorem nils_59 : nilPos Tryd.prog 59 = [] := by kernel_rfl
@[simp] theorem app_59 : appOk Tryd.prog 59 = true := by kernel_rfl
@[simp] theorem eby_59 : ebytes Tryd.prog 59 = 8 := by kernel_rfl
@[simp] theorem info_60 : (Tryd.prog.info? 60).isSome = true := by kernel_rfl
@[simp] theorem agg_60 : aggO Tryd.prog 60 = some false := by kernel_rfl
@[simp] theorem esz_60 : esz Tryd.prog 60 = 1 := by kernel_rfl
@[simp] theorem funct_60 : funcT Tryd.prog 60 = true := by kernel_rfl
@[simp] theorem conc_60 : Tryd.prog.concrete 60 = true := by kernel_rfl
@[simp] theorem zero_60 : azero Tryd.prog 60 = some [.nilFunc] := by kernel_rfl
@[simp] theorem nils_60 : nilPos Tryd.prog 60 = [] := by kernel_rfl
@[simp] theorem app_60 : appOk Tryd.prog 60 = true := by kernel_rfl
@[simp] theorem eby_60 : ebytes Tryd.prog 60 = 8 := by kernel_rfl
@[simp] theorem info_61 : (Tryd.prog.info? 61).isSome = true := by kernel_rfl
@[simp] theorem agg_61 : aggO Tryd.prog 61 = some false := by kernel_rfl
@[simp] theorem esz_61 : esz Tryd.prog 61 = 1 := by kernel_rfl
@[simp] theorem funct_61 : funcT Tryd.prog 61 = true := by kernel_rfl
@[simp] theorem conc_61 : Tryd.prog.concrete 61 = true := by kernel_rfl
@[simp] theorem zero_61 : azero Tryd.prog 61 = some [.nilFunc] := by kernel_rfl
@[simp] theorem nils_61 : nilPos Tryd.prog 61 = [] := by kernel_rfl
@[simp] theorem app_61 : appOk Tryd.prog 61 = true := by kernel_rfl
@[simp] theorem eby_61 : ebytes Tryd.prog 61 = 8 := by kernel_rfl
@[simp] theorem info_62 : (Tryd.prog.info? 62).isSome = true := by kernel_rfl
@[simp] theorem agg_62 : aggO Tryd.prog 62 = some false := by kernel_rfl
@[simp] theorem esz_62 : esz Tryd.prog 62 = 1 := by kernel_rfl
@[simp] theorem funct_62 : funcT Tryd.prog 62 = true := by kernel_rfl
@[simp] theorem conc_62 : Tryd.prog.concrete 62 = true := by kernel_rfl
@[simp] theorem zero_62 : azero Tryd.prog 62 = some [.nilFunc] := by kernel_rfl
@[simp] theorem nils_62 : nilPos Tryd.prog 62 = [] := by kernel_rfl
@[simp] theorem app_62 : appOk Tryd.prog 62 = true := by kernel_rfl
@[simp] theorem eby_62 : ebytes Tryd.prog 62 = 8 := by kernel_rfl
@[simp] theorem info_63 : (Tryd.prog.info? 63).isSome = true := by kernel_rfl
@[simp] theorem agg_63 : aggO Tryd.prog 63 = some false := by kernel_rfl
@[simp] theorem esz_63 : esz Tryd.prog 63 = 1 := by kernel_rfl
@[simp] theorem funct_63 : funcT Tryd.prog 63 = true := by kernel_rfl
@[simp] theorem conc_63 : Tryd.prog.concrete 63 = true := by kernel_rfl
@[simp] theorem zero_63 : azero Tryd.prog 63 = some [.nilFunc] := by kernel_rfl
@[simp] theorem nils_63 : nilPos Tryd.prog 63 = [] := by kernel_rfl
@[simp] theorem app_63 : appOk Tryd.prog 63 = true := by kernel_rfl
@[simp] theorem eby_63 : ebytes Tryd.prog 63 = 8 := by kernel_rfl
@[simp] theorem info_64 : (Tryd.prog.info? 64).isSome = true := by kernel_rfl
@[simp] theorem agg_64 : aggO Tryd.prog 64 = some false := by kernel_rfl
@[simp] theorem esz_64 : esz Tryd.prog 64 = 1 := by kernel_rfl
@[simp] theorem funct_64 : funcT Tryd.prog 64 = true := by kernel_rfl
@[simp] theorem conc_64 : Tryd.prog.concrete 64 = true := by kernel_rfl
@[simp] theorem zero_64 : azero Tryd.prog 64 = some [.nilFunc] := by kernel_rfl
@[simp] theorem nils_64 : nilPos Tryd.prog 64 = [] := by kernel_rfl
@[simp] theorem app_64 : appOk Tryd.prog 64 = true := by kernel_rfl
@[simp] theorem eby_64 : ebytes Tryd.prog 64 = 8 := by kernel_rfl
@[simp] theorem info_65 : (Tryd.prog.info? 65).isSome = true := by kernel_rfl
@[simp] theorem agg_65 : aggO Tryd.prog 65 = some false := by kernel_rfl
@[simp] theorem esz_65 : esz Tryd.prog 65 = 1 := by kernel_rfl
@[simp] theorem ikind_65 : ikind Tryd.prog 65 = some .u64 := by kernel_rfl
@[simp] theorem under_65 : Tryd.prog.underlying 65 = some (.int .u64) := by kernel_rfl
@[simp] theorem conc_65 : Tryd.prog.concrete 65 = true := by kernel_rfl
@[simp] theorem zero_65 : azero Tryd.prog 65 = some [.int .u64 0] := by kernel_rfl
@[simp] theorem nils_65 : nilPos Tryd.prog 65 = [] := by kernel_rfl
@[simp] theorem app_65 : appOk Tryd.prog 65 = true := by kernel_rfl
@[simp] theorem eby_65 : ebytes Tryd.prog 65 = 8 := by kernel_rfl
@[simp] theorem info_67 : (Tryd.prog.info? 67).isSome = true := by kernel_rfl
@[simp] theorem agg_67 : aggO Tryd.prog 67 = some false := by kernel_rfl
@[simp] theorem esz_67 : esz Tryd.prog 67 = 1 := by kernel_rfl
@[simp] theorem funct_67 : funcT Tryd.prog 67 = true := by kernel_rfl
@[simp] theorem conc_67 : Tryd.prog.concrete 67 = true := by kernel_rfl
@[simp] theorem zero_67 : azero Tryd.prog 67 = some [.nilFunc] := by kernel_rfl
@[simp] theorem nils_67 : nilPos Tryd.prog 67 = [] := by kernel_rfl
@[simp] theorem app_67 : appOk Tryd.prog 67 = true := by kernel_rfl
@[simp] theorem eby_67 : ebytes Tryd.prog 67 = 8 := by kernel_rfl
@[simp] theorem info_68 : (Tryd.prog.info? 68).isSome = true := by kernel_rfl
@[simp] theorem agg_68 : aggO Tryd.prog 68 = some false := by kernel_rfl
@[simp] theorem esz_68 : esz Tryd.prog 68 = 1 := by kernel_rfl
@[simp] theorem funct_68 : funcT Tryd.prog 68 = true := by kernel_rfl
@[simp] theorem conc_68 : Tryd.prog.concrete 68 = true := by kernel_rfl
@[simp] theorem zero_68 : azero Tryd.prog 68 = some [.nilFunc] := by kernel_rfl
@[simp] theorem nils_68 : nilPos Tryd.prog 68 = [] := by kernel_rfl
@[simp] theorem app_68 : appOk Tryd.prog 68 = true := by kernel_rfl
@[simp] theorem eby_68 : ebytes Tryd.prog 68 = 8 := by kernel_rfl
@[simp] theorem info_69 : (Tryd.prog.info? 69).isSome = true := by kernel_rfl
@[simp] theorem agg_69 : aggO Tryd.prog 69 = some false := by kernel_rfl
@[simp] theorem esz_69 : esz Tryd.prog 69 = 1 := by kernel_rfl
@[simp] theorem funct_69 : funcT Tryd.prog 69 = true := by kernel_rfl
@[simp] theorem conc_69 : Tryd.prog.concrete 69 = true := by kernel_rfl
@[simp] theorem zero_69 : azero Tryd.prog 69 = some [.nilFunc] := by kernel_rfl
@[simp] theorem nils_69 : nilPos Tryd.prog 69 = [] := by kernel_rfl
@[simp] theorem app_69 : appOk Tryd.prog 69 = true := by kernel_rfl
@[simp] theorem eby_69 : ebytes Tryd.prog 69 = 8 := by kernel_rfl
@[simp] theorem info_70 : (Tryd.prog.info? 70).isSome = true := by kernel_rfl
@[simp] theorem agg_70 : aggO Tryd.prog 70 = some false := by kernel_rfl
@[simp] theorem esz_70 : esz Tryd.prog 70 = 1 := by kernel_rfl
@[simp] theorem funct_70 : funcT Tryd.prog 70 = true := by kernel_rfl
@[simp] theorem conc_70 : Tryd.prog.concrete 70 = true := by kernel_rfl
@[simp] theorem zero_70 : azero Tryd.prog 70 = some [.nilFunc] := by kernel_rfl
@[simp] theorem nils_70 : nilPos Tryd.prog 70 = [] := by kernel_rfl
@[simp] theorem app_70 : appOk Tryd.prog 70 = true := by kernel_rfl
@[simp] theorem eby_70 : ebytes Tryd.prog 70 = 8 := by kernel_rfl
@[simp] theorem info_71 : (Tryd.prog.info? 71).isSome = true := by kernel_rfl
@[simp] theorem agg_71 : aggO Tryd.prog 71 = some false := by kernel_rfl
@[simp] theorem esz_71 : esz Tryd.prog 71 = 1 := by kernel_rfl
@[simp] theorem funct_71 : funcT Tryd.prog 71 = true := by kernel_rfl
@[simp] theorem conc_71 : Tryd.prog.concrete 71 = true := by kernel_rfl
@[simp] theorem zero_71 : azero Tryd.prog 71 = some [.nilFunc] := by kernel_rfl
@[simp] theorem nils_71 : nilPos Tryd.prog 71 = [] := by kernel_rfl
@[simp] theorem app_71 : appOk Tryd.prog 71 = true := by kernel_rfl
@[simp] theorem eby_71 : ebytes Tryd.prog 71 = 8 := by kernel_rfl
@[simp] theorem info_72 : (Tryd.prog.info? 72).isSome = true := by kernel_rfl
@[simp] theorem agg_72 : aggO Tryd.prog 72 = some false := by kernel_rfl
@[simp] theorem esz_72 : esz Tryd.prog 72 = 1 := by kernel_rfl
@[simp] theorem funct_72 : funcT Tryd.prog 72 = true := by kernel_rfl
@[simp] theorem conc_72 : Tryd.prog.concrete 72 = true := by kernel_rfl
@[simp] theorem zero_72 : azero Tryd.prog 72 = some [.nilFunc] := by kernel_rfl
@[simp] theorem nils_72 : nilPos Tryd.prog 72 = [] := by kernel_rfl
@[simp] theorem app_72 : appOk Tryd.prog 72 = true := by kernel_rfl
@[simp] theorem eby_72 : ebytes Tryd.prog 72 = 8 := by kernel_rfl
@[simp] theorem info_73 : (Tryd.prog.info? 73).isSome = true := by kernel_rfl
@[simp] theorem agg_73 : aggO Tryd.prog 73 = some false := by kernel_rfl
@[simp] theorem esz_73 : esz Tryd.prog 73 = 1 := by kernel_rfl
@[simp] theorem funct_73 : funcT Tryd.prog 73 = true := by kernel_rfl
@[simp] theorem conc_73 : Tryd.prog.concrete 73 = true := by kernel_rfl
@[simp] theorem zero_73 : azero Tryd.prog 73 = some [.nilFunc] := by kernel_rfl
@[simp] theorem nils_73 : nilPos Tryd.prog 73 = [] := by kernel_rfl
@[simp] theorem app_73 : appOk Tryd.prog 73 = true := by kernel_rfl
@[simp] theorem eby_73 : ebytes Tryd.prog 73 = 8 := by kernel_rfl
@[simp] theorem info_74 : (Tryd.prog.info? 74).isSome = true := by kernel_rfl
@[simp] theorem agg_74 : aggO Tryd.prog 74 = some false := by kernel_rfl
@[simp] theorem esz_74 : esz Tryd.prog 74 = 1 := by kernel_rfl
@[simp] theorem funct_74 : funcT Tryd.prog 74 = true := by kernel_rfl
@[simp] theorem conc_74 : Tryd.prog.concrete 74 = true := by kernel_rfl
@[simp] theorem zero_74 : azero Tryd.prog 74 = some [.nilFunc] := by kernel_rfl
@[simp] theorem nils_74 : nilPos Tryd.prog 74 = [] := by kernel_rfl
@[simp] theorem app_74 : appOk Tryd.prog 74 = true := by kernel_rfl
@[simp] theorem eby_74 : ebytes Tryd.prog 74 = 8 := by kernel_rfl
@[simp] theorem info_75 : (Tryd.prog.info? 75).isSome = true := by kernel_rfl
@[simp] theorem agg_75 : aggO Tryd.prog 75 = some false := by kernel_rfl
@[simp] theorem esz_75 : esz Tryd.prog 75 = 1 := by kernel_rfl
@[simp] theorem ikind_75 : ikind Tryd.prog 75 = some .u32 := by kernel_rfl
@[simp] theorem under_75 : Tryd.prog.underlying 75 = some (.int .u32) := by kernel_rfl
@[simp] theorem conc_75 : Tryd.prog.concrete 75 = true := by kernel_rfl
@[simp] theorem zero_75 : azero Tryd.prog 75 = some [.int .u32 0] := by kernel_rfl
@[simp] theorem nils_75 : nilPos Tryd.prog 75 = [] := by kernel_rfl
@[simp] theorem app_75 : appOk Tryd.prog 75 = true := by kernel_rfl
@[simp] theorem eby_75 : ebytes Tryd.prog 75 = 4 := by kernel_rfl
@[simp] theorem info_77 : (Tryd.prog.info? 77).isSome = true := by kernel_rfl
@[simp] theorem agg_77 : aggO Tryd.prog 77 = some false := by kernel_rfl
@[simp] theorem esz_77 : esz Tryd.prog 77 = 1 := by kernel_rfl
@[simp] theorem funct_77 : funcT Tryd.prog 77 = true := by kernel_rfl
@[simp] theorem conc_77 : Tryd.prog.concrete 77 = true := by kernel_rfl
@[simp] theorem zero_77 : azero Tryd.prog 77 = some [.nilFunc] := by kernel_rfl
@[simp] theorem nils_77 : nilPos Tryd.prog 77 = [] := by kernel_rfl
@[simp] theorem app_77 : appOk Tryd.prog 77 = true := by kernel_rfl
@[simp] theorem eby_77 : ebytes Tryd.prog 77 = 8 := by kernel_rfl
@[simp] theorem info_78 : (Tryd.prog.info? 78).isSome = true := by kernel_rfl
@[simp] theorem agg_78 : aggO Tryd.prog 78 = some false := by kernel_rfl
@[simp] theorem esz_78 : esz Tryd.prog 78 = 1 := by kernel_rfl
@[simp] theorem ikind_78 : ikind Tryd.prog 78 = some .u64 := by kernel_rfl
@[simp] theorem under_78 : Tryd.prog.underlying 78 = some (.int .u64) := by kernel_rfl
@[simp] theorem conc_78 : Tryd.prog.concrete 78 = true := by kernel_rfl
@[simp] theorem zero_78 : azero Tryd.prog 78 = some [.int .u64 0] := by kernel_rfl
@[simp] theorem nils_78 : nilPos Tryd.prog 78 = [] := by kernel_rfl
@[simp] theorem app_78 : appOk Tryd.prog 78 = true := by kernel_rfl
@[simp] theorem eby_78 : ebytes Tryd.prog 78 = 8 := by kernel_rfl
@[simp] theorem info_80 : (Tryd.prog.info? 80).isSome = true := by kernel_rfl
@[simp] theorem agg_80 : aggO Tryd.prog 80 = some false := by kernel_rfl
@[simp] theorem esz_80 : esz Tryd.prog 80 = 1 := by kernel_rfl
@[simp] theorem funct_80 : funcT Tryd.prog 80 = true := by kernel_rfl
@[simp] theorem conc_80 : Tryd.prog.concrete 80 = true := by kernel_rfl
@[simp] theorem zero_80 : azero Tryd.prog 80 = some [.nilFunc] := by kernel_rfl
@[simp] theorem nils_80 : nilPos Tryd.prog 80 = [] := by kernel_rfl
@[simp] theorem app_80 : appOk Tryd.prog 80 = true := by kernel_rfl
@[simp] theorem eby_80 : ebytes Tryd.prog 80 = 8 := by kernel_rfl
@[simp] theorem info_81 : (Tryd.prog.info? 81).isSome = true := by kernel_rfl
@[simp] theorem agg_81 : aggO Tryd.prog 81 = some false := by kernel_rfl
@[simp] theorem esz_81 : esz Tryd.prog 81 = 1 := by kernel_rfl
@[simp] theorem funct_81 : funcT Tryd.prog 81 = true := by kernel_rfl
@[simp] theorem conc_81 : Tryd.prog.concrete 81 = true := by kernel_rfl
@[simp] theorem zero_81 : azero Tryd.prog 81 = some [.nilFunc] := by kernel_rfl
@[simp] theorem nils_81 : nilPos Tryd.prog 81 = [] := by kernel_rfl
@[simp] theorem app_81 : appOk Tryd.prog 81 = true := by kernel_rfl
@[simp] theorem eby_81 : ebytes Tryd.prog 81 = 8 := by kernel_rfl
@[simp] theorem info_82 : (Tryd.prog.info? 82).isSome = true := by kernel_rfl
@[simp] theorem agg_82 : aggO Tryd.prog 82 = some false := by kernel_rfl
@[simp] theorem esz_82 : esz Tryd.prog 82 = 1 := by kernel_rfl
@[simp] theorem funct_82 : funcT Tryd.prog 82 = true := by kernel_rfl
@[simp] theorem conc_82 : Tryd.prog.concrete 82 = true := by kernel_rfl
@[simp] theorem zero_82 : azero Tryd.prog 82 = some [.nilFunc] := by kernel_rfl
@[simp] theorem nils_82 : nilPos Tryd.prog 82 = [] := by kernel_rfl
@[simp] theorem app_82 : appOk Tryd.prog 82 = true := by kernel_rfl
@[simp] theorem eby_82 : ebytes Tryd.prog 82 = 8 := by kernel_rfl
@[simp] theorem info_83 : (Tryd.prog.info? 83).isSome = true := by kernel_rfl
@[simp] theorem agg_83 : aggO Tryd.prog 83 = some false := by kernel_rfl
@[simp] theorem esz_83 : esz Tryd.prog 83 = 1 := by kernel_rfl
@[simp] theorem funct_83 : funcT Tryd.prog 83 = true := by kernel_rfl
@[simp] theorem conc_83 : Tryd.prog.concrete 83 = true := by kernel_rfl
@[simp] theorem zero_83 : azero Tryd.prog 83 = some [.nilFunc] := by kernel_rfl
@[simp] theorem nils_83 : nilPos Tryd.prog 83 = [] := by kernel_rfl
@[simp] theorem app_83 : appOk Tryd.prog 83 = true := by kernel_rfl
@[simp] theorem eby_83 : ebytes Tryd.prog 83 = 8 := by kernel_rfl
@[simp] theorem info_84 : (Tryd.prog.info? 84).isSome = true := by kernel_rfl
@[simp] theorem agg_84 : aggO Tryd.prog 84 = some false := by kernel_rfl
@[simp] theorem esz_84 : esz Tryd.prog 84 = 1 := by kernel_rfl
@[simp] theorem funct_84 : funcT Tryd.prog 84 = true := by kernel_rfl
@[simp] theorem conc_84 : Tryd.prog.concrete 84 = true := by kernel_rfl
@[simp] theorem zero_84 : azero Tryd.prog 84 = some [.nilFunc] := by kernel_rfl
@[simp] theorem nils_84 : nilPos Tryd.prog 84 = [] := by kernel_rfl
@[simp] theorem app_84 : appOk Tryd.prog 84 = true := by kernel_rfl
@[simp] theorem eby_84 : ebytes Tryd.prog 84 = 8 := by kernel_rfl
@[simp] theorem info_85 : (Tryd.prog.info? 85).isSome = true := by kernel_rfl
@[simp] theorem agg_85 : aggO Tryd.prog 85 = some false := by kernel_rfl
@[simp] theorem esz_85 : esz Tryd.prog 85 = 1 := by kernel_rfl
@[simp] theorem funct_85 : funcT Tryd.prog 85 = true := by kernel_rfl
@[simp] theorem conc_85 : Tryd.prog.concrete 85 = true := by kernel_rfl
@[simp] theorem zero_85 : azero Tryd.prog 85 = some [.nilFunc] := by kernel_rfl
@[simp] theorem nils_85 : nilPos Tryd.prog 85 = [] := by kernel_rfl
@[simp] theorem app_85 : appOk Tryd.prog 85 = true := by kernel_rfl
@[simp] theorem eby_85 : ebytes Tryd.prog 85 = 8 := by kernel_rfl
@[simp] theorem info_86 : (Tryd.prog.info? 86).isSome = true := by kernel_rfl
@[simp] theorem agg_86 : aggO Tryd.prog 86 = some false := by kernel_rfl
@[simp] theorem esz_86 : esz Tryd.prog 86 = 1 := by kernel_rfl
@[simp] theorem funct_86 : funcT Tryd.prog 86 = true := by kernel_rfl
@[simp] theorem conc_86 : Tryd.prog.concrete 86 = true := by kernel_rfl
@[simp] theorem zero_86 : azero Tryd.prog 86 = some [.nilFunc] := by kernel_rfl
@[simp] theorem nils_86 : nilPos Tryd.prog 86 = [] := by kernel_rfl
@[simp] theorem app_86 : appOk Tryd.prog 86 = true := by kernel_rfl
@[simp] theorem eby_86 : ebytes Tryd.prog 86 = 8 := by kernel_rfl
@[simp] theorem info_87 : (Tryd.prog.info? 87).isSome = true := by kernel_rfl
@[simp] theorem agg_87 : aggO Tryd.prog 87 = some false := by kernel_rfl
@[simp] theorem esz_87 : esz Tryd.prog 87 = 1 := by kernel_rfl
@[simp] theorem funct_87 : funcT Tryd.prog 87 = true := by kernel_rfl
@[simp] theorem conc_87 : Tryd.prog.concrete 87 = true := by kernel_rfl
@[simp] theorem zero_87 : azero Tryd.prog 87 = some [.nilFunc] := by kernel_rfl
@[simp] theorem nils_87 : nilPos Tryd.prog 87 = [] := by kernel_rfl
@[simp] theorem app_87 : appOk Tryd.prog 87 = true := by kernel_rfl
@[simp] theorem eby_87 : ebytes Tryd.prog 87 = 8 := by kernel_rfl
@[simp] theorem info_88 : (Tryd.prog.info? 88).isSome = true := by kernel_rfl
@[simp] theorem agg_88 : aggO Tryd.prog 88 = some false := by kernel_rfl
@[simp] theorem esz_88 : esz Tryd.prog 88 = 1 := by kernel_rfl
@[simp] theorem funct_88 : funcT Tryd.prog 88 = true := by kernel_rfl
@[simp] theorem conc_88 : Tryd.prog.concrete 88 = true := by kernel_rfl
@[simp] theorem zero_88 : azero Tryd.prog 88 = some [.nilFunc] := by kernel_rfl
@[simp] theorem nils_88 : nilPos Tryd.prog 88 = [] := by kernel_rfl
@[simp] theorem app_88 : appOk Tryd.prog 88 = true := by kernel_rfl
@[simp] theorem eby_88 : ebytes Tryd.prog 88 = 8 := by kernel_rfl
@[simp] theorem info_89 : (Tryd.prog.info? 89).isSome = true := by kernel_rfl
@[simp] theorem agg_89 : aggO Tryd.prog 89 = some false := by kernel_rfl
@[simp] theorem esz_89 : esz Tryd.prog 89 = 1 := by kernel_rfl
@[simp] theorem funct_89 : funcT Tryd.prog 89 = true := by kernel_rfl
@[simp] theorem conc_89 : Tryd.prog.concrete 89 = true := by kernel_rfl
@[simp] theorem zero_89 : azero Tryd.prog 89 = some [.nilFunc] := by kernel_rfl
@[simp] theorem nils_89 : nilPos Tryd.prog 89 = [] := by kernel_rfl
@[simp] theorem app_89 : appOk Tryd.prog 89 = true := by kernel_rfl
@[simp] theorem eby_89 : ebytes Tryd.prog 89 = 8 := by kernel_rfl
@[simp] theorem info_90 : (Tryd.prog.info? 90).isSome = true := by kernel_rfl
@[simp] theorem agg_90 : aggO Tryd.prog 90 = some false := by kernel_rfl
@[simp] theorem esz_90 : esz Tryd.prog 90 = 1 := by kernel_rfl
@[simp] theorem conc_90 : Tryd.prog.concrete 90 = true := by kernel_rfl
@[simp] theorem zero_90 : azero Tryd.prog 90 = some [.nilPtr] := by kernel_rfl
@[simp] theorem nils_90 : nilPos Tryd.prog 90 = [] := by kernel_rfl
@[simp] theorem app_90 : appOk Tryd.prog 90 = true := by kernel_rfl
@[simp] theorem eby_90 : ebytes Tryd.prog 90 = 8 := by kernel_rfl
@[simp] theorem info_91 : (Tryd.prog.info? 91).isSome = true := by kernel_rfl
@[simp] theorem agg_91 : aggO Tryd.prog 91 = some false := by kernel_rfl
@[simp] theorem esz_91 : esz Tryd.prog 91 = 1 := by kernel_rfl
@[simp] theorem elem_91 : elemT Tryd.prog 91 = some 5 := by kernel_rfl
@[simp] theorem bytest_91 : bytesT Tryd.prog 91 = true := by kernel_rfl
@[simp] theorem conc_91 : Tryd.prog.concrete 91 = true := by kernel_rfl
@[simp] theorem zero_91 : azero Tryd.prog 91 = some [.slice []] := by kernel_rfl
@[simp] theorem nils_91 : nilPos Tryd.prog 91 = [0] := by kernel_rfl
@[simp] theorem app_91 : appOk Tryd.prog 91 = true := by kernel_rfl
@[simp] theorem eby_91 : ebytes Tryd.prog 91 = 24 := by kernel_rfl
@[simp] theorem info_92 : (Tryd.prog.info? 92).isSome = true := by kernel_rfl
@[simp] theorem agg_92 : aggO Tryd.prog 92 = some true := by kernel_rfl
@[simp] theorem esz_92 : esz Tryd.prog 92 = 2 := by kernel_rfl
@[simp] theorem conc_92 : Tryd.prog.concrete 92 = true := by kernel_rfl
@[simp] theorem foff_92_0 : foff Tryd.prog 92 0 = some 0 := by kernel_rfl
@[simp] theorem ftyp_92_0 : ftyp Tryd.prog 92 0 = 90 := by kernel_rfl
@[simp] theorem foff_92_1 : foff Tryd.prog 92 1 = some 1 := by kernel_rfl
@[simp] theorem ftyp_92_1 : ftyp Tryd.prog 92 1 = 91 := by kernel_rfl
@[simp] theorem known_92 : knownF Tryd.prog 92 = true := by kernel_rfl
@[simp] theorem zero_92 : azero Tryd.prog 92 = some [.nilPtr, .slice []] := by kernel_rfl
@[simp] theorem nils_92 : nilPos Tryd.prog 92 = [1] := by kernel_rfl
@[simp] theorem app_92 : appOk Tryd.prog 92 = true := by kernel_rfl
@[simp] theorem eby_92 : ebytes Tryd.prog 92 = 32 := by kernel_rfl
@[simp] theorem info_93 : (Tryd.prog.info? 93).isSome = true := by kernel_rfl
@[simp] theorem agg_93 : aggO Tryd.prog 93 = some true := by kernel_rfl
@[simp] theorem esz_93 : esz Tryd.prog 93 = 2 := by kernel_rfl
@[simp] theorem conc_93 : Tryd.prog.concrete 93 = true := by kernel_rfl
@[simp] theorem foff_93_0 : foff Tryd.prog 93 0 = some 0 := by kernel_rfl
@[simp] theorem ftyp_93_0 : ftyp Tryd.prog 93 0 = 90 := by kernel_rfl
@[simp] theorem foff_93_1 : foff Tryd.prog 93 1 = some 1 := by kernel_rfl
@[simp] theorem ftyp_93_1 : ftyp Tryd.prog 93 1 = 91 := by kernel_rfl
@[simp] theorem known_93 : knownF Tryd.prog 93 = true := by kernel_rfl
@[simp] theorem zero_93 : azero Tryd.prog 93 = some [.nilPtr, .slice []] := by kernel_rfl
@[simp] theorem nils_93 : nilPos Tryd.prog 93 = [1] := by kernel_rfl
@[simp] theorem app_93 : appOk Tryd.prog 93 = true := by kernel_rfl
@[simp] theorem eby_93 : ebytes Tryd.prog 93 = 32 := by kernel_rfl
@[simp] theorem info_94 : (Tryd.prog.info? 94).isSome = true := by kernel_rfl
@[simp] theorem agg_94 : aggO Tryd.prog 94 = some false := by kernel_rfl
@[simp] theorem esz_94 : esz Tryd.prog 94 = 1 := by kernel_rfl
@[simp] theorem funct_94 : funcT Tryd.prog 94 = true := by kernel_rfl
@[simp] theorem conc_94 : Tryd.prog.concrete 94 = true := by kernel_rfl
@[simp] theorem zero_94 : azero Tryd.prog 94 = some [.nilFunc] := by kernel_rfl
@[simp] theorem nils_94 : nilPos Tryd.prog 94 = [] := by kernel_rfl
@[simp] theorem app_94 : appOk Tryd.prog 94 = true := by kernel_rfl
@[simp] theorem eby_94 : ebytes Tryd.prog 94 = 8 := by kernel_rfl
@[simp] theorem info_95 : (Tryd.prog.info? 95).isSome = true := by kernel_rfl
@[simp] theorem agg_95 : aggO Tryd.prog 95 = some false := by kernel_rfl
@[simp] theorem esz_95 : esz Tryd.prog 95 = 1 := by kernel_rfl
@[simp] theorem ifacet_95 : ifaceT Tryd.prog 95 = true := by kernel_rfl
@[simp] theorem zero_95 : azero Tryd.prog 95 = some [.nilIface] := by kernel_rfl
@[simp] theorem nils_95 : nilPos Tryd.prog 95 = [] := by kernel_rfl
@[simp] theorem app_95 : appOk Tryd.prog 95 = true := by kernel_rfl
@[simp] theorem eby_95 : ebytes Tryd.prog 95 = 16 := by kernel_rfl
@[simp] theorem info_96 : (Tryd.prog.info? 96).isSome = true := by kernel_rfl
@[simp] theorem agg_96 : aggO Tryd.prog 96 = some false := by kernel_rfl
@[simp] theorem esz_96 : esz Tryd.prog 96 = 1 := by kernel_rfl
@[simp] theorem ifacet_96 : ifaceT Tryd.prog 96 = true := by kernel_rfl
@[simp] theorem zero_96 : azero Tryd.prog 96 = some [.nilIface] := by kernel_rfl
@[simp] theorem nils_96 : nilPos Tryd.prog 96 = [] := by kernel_rfl
@[simp] theorem app_96 : appOk Tryd.prog 96 = true := by kernel_rfl
@[simp] theorem eby_96 : ebytes Tryd.prog 96 = 16 := by kernel_rfl
@[simp] theorem info_98 : (Tryd.prog.info? 98).isSome = true := by kernel_rfl
@[simp] theorem agg_98 : aggO Tryd.prog 98 = some false := by kernel_rfl
@[simp] theorem esz_98 : esz Tryd.prog 98 = 1 := by kernel_rfl
@[simp] theorem funct_98 : funcT Tryd.prog 98 = true := by kernel_rfl
@[simp] theorem conc_98 : Tryd.prog.concrete 98 = true := by kernel_rfl
@[simp] theorem zero_98 : azero Tryd.prog 98 = some [.nilFunc] := by kernel_rfl
@[simp] theorem nils_98 : nilPos Tryd.prog 98 = [] := by kernel_rfl
@[simp] theorem app_98 : appOk Tryd.prog 98 = true := by kernel_rfl
@[simp] theorem eby_98 : ebytes Tryd.prog 98 = 8 := by kernel_rfl
@[simp] theorem info_99 : (Tryd.prog.info? 99).isSome = true := by kernel_rfl
@[simp] theorem agg_99 : aggO Tryd.prog 99 = some false := by kernel_rfl
@[simp] theorem esz_99 : esz Tryd.prog 99 = 1 := by kernel_rfl
@[simp] theorem funct_99 : funcT Tryd.prog 99 = true := by kernel_rfl
@[simp] theorem conc_99 : Tryd.prog.concrete 99 = true := by kernel_rfl
@[simp] theorem zero_99 : azero Tryd.prog 99 = some [.nilFunc] := by kernel_rfl
@[simp] theorem nils_99 : nilPos Tryd.prog 99 = [] := by kernel_rfl
@[simp] theorem app_99 : appOk Tryd.prog 99 = true := by kernel_rfl
@[simp] theorem eby_99 : ebytes Tryd.prog 99 = 8 := by kernel_rfl
@[simp] theorem info_100 : (Tryd.prog.info? 100).isSome = true := by kernel_rfl
@[simp] theorem agg_100 : aggO Tryd.prog 100 = some false := by kernel_rfl
@[simp] theorem esz_100 : esz Tryd.prog 100 = 1 := by kernel_rfl
@[simp] theorem funct_100 : funcT Tryd.prog 100 = true := by kernel_rfl
@[simp] theorem conc_100 : Tryd.prog.concrete 100 = true := by kernel_rfl
@[simp] theorem zero_100 : azero Tryd.prog 100 = some [.nilFunc] := by kernel_rfl
@[simp] theorem nils_100 : nilPos Tryd.prog 100 = [] := by kernel_rfl
@[simp] theorem app_100 : appOk Tryd.prog 100 = true := by kernel_rfl
@[simp] theorem eby_100 : ebytes Tryd.prog 100 = 8 := by kernel_rfl
@[simp] theorem info_101 : (Tryd.prog.info? 101).isSome = true := by kernel_rfl
@[simp] theorem agg_101 : aggO Tryd.prog 101 = some false := by kernel_rfl
@[simp] theorem esz_101 : esz Tryd.prog 101 = 1 := by kernel_rfl
@[simp] theorem funct_101 : funcT Tryd.prog 101 = true := by kernel_rfl
@[simp] theorem conc_101 : Tryd.prog.concrete 101 = true := by kernel_rfl
@[simp] theorem zero_101 : azero Tryd.prog 101 = some [.nilFunc] := by kernel_rfl
@[simp] theorem nils_101 : nilPos Tryd.prog 101 = [] := by kernel_rfl
@[simp] theorem app_101 : appOk Tryd.prog 101 = true := by kernel_rfl
@[simp] theorem eby_101 : ebytes Tryd.prog 101 = 8 := by kernel_rfl
@[simp] theorem info_102 : (Tryd.prog.info? 102).isSome = true := by kernel_rfl
@[simp] theorem agg_102 : aggO Tryd.prog 102 = some false := by kernel_rfl
@[simp] theorem esz_102 : esz Tryd.prog 102 = 1 := by kernel_rfl
@[simp] theorem funct_102 : funcT Tryd.prog 102 = true := by kernel_rfl
@[simp] theorem conc_102 : Tryd.prog.concrete 102 = true := by kernel_rfl
@[simp] theorem zero_102 : azero Tryd.prog 102 = some [.nilFunc] := by kernel_rfl
@[simp] theorem nils_102 : nilPos Tryd.prog 102 = [] := by kernel_rfl
@[simp] theorem app_102 : appOk Tryd.prog 102 = true := by kernel_rfl
@[simp] theorem eby_102 : ebytes Tryd.prog 102 = 8 := by kernel_rfl
@[simp] theorem info_103 : (Tryd.prog.info? 103).isSome = true := by kernel_rfl
@[simp] theorem agg_103 : aggO Tryd.prog 103 = some true := by kernel_rfl
@[simp] theorem esz_103 : esz Tryd.prog 103 = 7 := by kernel_rfl
@[simp] theorem arrt_103 : arrT Tryd.prog 103 = some (7, 9) := by kernel_rfl
@[simp] theorem conc_103 : Tryd.prog.concrete 103 = true := by kernel_rfl
@[simp] theorem zero_103 : azero Tryd.prog 103 = some [.str [], .str [], .str [], .str [], .str [], .str [], .str []] := by kernel_rfl
@[simp] theorem nils_103 : nilPos Tryd.prog 103 = [] := by kernel_rfl
@[simp] theorem app_103 : appOk Tryd.prog 103 = true := by kernel_rfl
@[simp] theorem eby_103 : ebytes Tryd.prog 103 = 112 := by kernel_rfl
@[simp] theorem info_104 : (Tryd.prog.info? 104).isSome = true := by kernel_rfl
@[simp] theorem agg_104 : aggO Tryd.prog 104 = some false := by kernel_rfl
@[simp] theorem esz_104 : esz Tryd.prog 104 = 1 := by kernel_rfl
@[simp] theorem funct_104 : funcT Tryd.prog 104 = true := by kernel_rfl
@[simp] theorem conc_104 : Tryd.prog.concrete 104 = true := by kernel_rfl
@[simp] theorem zero_104 : azero Tryd.prog 104 = some [.nilFunc] := by kernel_rfl
@[simp] theorem nils_104 : nilPos Tryd.prog 104 = [] := by kernel_rfl
@[simp] theorem app_104 : appOk Tryd.prog 104 = true := by kernel_rfl
@[simp] theorem eby_104 : ebytes Tryd.prog 104 = 8 := by kernel_rfl
@[simp] theorem info_105 : (Tryd.prog.info? 105).isSome = true := by kernel_rfl
@[simp] theorem agg_105 : aggO Tryd.prog 105 = some false := by kernel_rfl
@[simp] theorem esz_105 : esz Tryd.prog 105 = 1 := by kernel_rfl
@[simp] theorem elem_105 : elemT Tryd.prog 105 = some 3 := by kernel_rfl
@[simp] theorem conc_105 : Tryd.prog.concrete 105 = true := by kernel_rfl
@[simp] theorem zero_105 : azero Tryd.prog 105 = some [.slice []] := by kernel_rfl
@[simp] theorem nils_105 : nilPos Tryd.prog 105 = [0] := by kernel_rfl
@[simp] theorem app_105 : appOk Tryd.prog 105 = true := by kernel_rfl
@[simp] theorem eby_105 : ebytes Tryd.prog 105 = 24 := by kernel_rfl
@[simp] theorem info_106 : (Tryd.prog.info? 106).isSome = true := by kernel_rfl
@[simp] theorem agg_106 : aggO Tryd.prog 106 = some false := by kernel_rfl
@[simp] theorem esz_106 : esz Tryd.prog 106 = 1 := by kernel_rfl
@[simp] theorem conc_106 : Tryd.prog.concrete 106 = true := by kernel_rfl
@[simp] theorem zero_106 : azero Tryd.prog 106 = some [.nilPtr] := by kernel_rfl
@[simp] theorem nils_106 : nilPos Tryd.prog 106 = [] := by kernel_rfl
@[simp] theorem app_106 : appOk Tryd.prog 106 = true := by kernel_rfl
@[simp] theorem eby_106 : ebytes Tryd.prog 106 = 8 := by kernel_rfl
@[simp] theorem info_107 : (Tryd.prog.info? 107).isSome = true := by kernel_rfl
@[simp] theorem agg_107 : aggO Tryd.prog 107 = some false := by kernel_rfl
@[simp] theorem esz_107 : esz Tryd.prog 107 = 1 := by kernel_rfl
@[simp] theorem funct_107 : funcT Tryd.prog 107 = true := by kernel_rfl
@[simp] theorem conc_107 : Tryd.prog.concrete 107 = true := by kernel_rfl
@[simp] theorem zero_107 : azero Tryd.prog 107 = some [.nilFunc] := by kernel_rfl
@[simp] theorem nils_107 : nilPos Tryd.prog 107 = [] := by kernel_rfl
@[simp] theorem app_107 : appOk Tryd.prog 107 = true := by kernel_rfl
@[simp] theorem eby_107 : ebytes Tryd.prog 107 = 8 := by kernel_rfl
@[simp] theorem info_108 : (Tryd.prog.info? 108).isSome = true := by kernel_rfl
@[simp] theorem agg_108 : aggO Tryd.prog 108 = some false := by kernel_rfl
@[simp] theorem esz_108 : esz Tryd.prog 108 = 1 := by kernel_rfl
@[simp] theorem conc_108 : Tryd.prog.concrete 108 = true := by kernel_rfl
@[simp] theorem zero_108 : azero Tryd.prog 108 = some [.nilPtr] := by kernel_rfl
@[simp] theorem nils_108 : nilPos Tryd.prog 108 = [] := by kernel_rfl
@[simp] theorem app_108 : appOk Tryd.prog 108 = true := by kernel_rfl
@[simp] theorem eby_108 : ebytes Tryd.prog 108 = 8 := by kernel_rfl
@[simp] theorem info_109 : (Tryd.prog.info? 109).isSome = true := by kernel_rfl
@[simp] theorem agg_109 : aggO Tryd.prog 109 = some false := by kernel_rfl
@[simp] theorem esz_109 : esz Tryd.prog 109 = 1 := by kernel_rfl
@[simp] theorem funct_109 : funcT Tryd.prog 109 = true := by kernel_rfl
@[simp] theorem conc_109 : Tryd.prog.concrete 109 = true := by kernel_rfl
@[simp] theorem zero_109 : azero Tryd.prog 109 = some [.nilFunc] := by kernel_rfl
@[simp] theorem nils_109 : nilPos Tryd.prog 109 = [] := by kernel_rfl
@[simp] theorem app_109 : appOk Tryd.prog 109 = true := by kernel_rfl
@[simp] theorem eby_109 : ebytes Tryd.prog 109 = 8 := by kernel_rfl
@[simp] theorem info_110 : (Tryd.prog.info? 110).isSome = true := by kernel_rfl
@[simp] theorem agg_110 : aggO Tryd.prog 110 = some false := by kernel_rfl
@[simp] theorem esz_110 : esz Tryd.prog 110 = 1 := by kernel_rfl
@[simp] theorem funct_110 : funcT Tryd.prog 110 = true := by kernel_rfl
@[simp] theorem conc_110 : Tryd.prog.concrete 110 = true := by kernel_rfl
@[simp] theorem zero_110 : azero Tryd.prog 110 = some [.nilFunc] := by kernel_rfl
@[simp] theorem nils_110 : nilPos Tryd.prog 110 = [] := by kernel_rfl
@[simp] theorem app_110 : appOk Tryd.prog 110 = true := by kernel_rfl
@[simp] theorem eby_110 : ebytes Tryd.prog 110 = 8 := by kernel_rfl
@[simp] theorem info_111 : (Tryd.prog.info? 111).isSome = true := by kernel_rfl
@[simp] theorem agg_111 : aggO Tryd.prog 111 = some true := by kernel_rfl
@[simp] theorem esz_111 : esz Tryd.prog 111 = 4 := by kernel_rfl
@[simp] theorem conc_111 : Tryd.prog.concrete 111 = true := by kernel_rfl
@[simp] theorem foff_111_0 : foff Tryd.prog 111 0 = some 0 := by kernel_rfl
@[simp] theorem ftyp_111_0 : ftyp Tryd.prog 111 0 = 17 := by kernel_rfl
@[simp] theorem foff_111_1 : foff Tryd.prog 111 1 = some 1 := by kernel_rfl
@[simp] theorem ftyp_111_1 : ftyp Tryd.prog 111 1 = 17 := by kernel_rfl
@[simp] theorem foff_111_2 : foff Tryd.prog 111 2 = some 2 := by kernel_rfl
@[simp] theorem ftyp_111_2 : ftyp Tryd.prog 111 2 = 17 := by kernel_rfl
@[simp] theorem foff_111_3 : foff Tryd.prog 111 3 = some 3 := by kernel_rfl
@[simp] theorem ftyp_111_3 : ftyp Tryd.prog 111 3 = 9 := by kernel_rfl
@[simp] theorem known_111 : knownF Tryd.prog 111 = true := by kernel_rfl
@[simp] theorem zero_111 : azero Tryd.prog 111 = some [.nilPtr, .nilPtr, .nilPtr, .str []] := by kernel_rfl
@[simp] theorem nils_111 : nilPos Tryd.prog 111 = [] := by kernel_rfl
@[simp] theorem app_111 : appOk Tryd.prog 111 = true := by kernel_rfl
@[simp] theorem eby_111 : ebytes Tryd.prog 111 = 40 := by kernel_rfl
@[simp] theorem info_112 : (Tryd.prog.info? 112).isSome = true := by kernel_rfl
@[simp] theorem agg_112 : aggO Tryd.prog 112 = some true := by kernel_rfl
@[simp] theorem esz_112 : esz Tryd.prog 112 = 4 := by kernel_rfl
@[simp] theorem conc_112 : Tryd.prog.concrete 112 = true := by kernel_rfl
@[simp] theorem foff_112_0 : foff Tryd.prog 112 0 = some 0 := by kernel_rfl
@[simp] theorem ftyp_112_0 : ftyp Tryd.prog 112 0 = 17 := by kernel_rfl
@[simp] theorem foff_112_1 : foff Tryd.prog 112 1 = some 1 := by kernel_rfl
@[simp] theorem ftyp_112_1 : ftyp Tryd.prog 112 1 = 17 := by kernel_rfl
@[simp] theorem foff_112_2 : foff Tryd.prog 112 2 = some 2 := by kernel_rfl
@[simp] theorem ftyp_112_2 : ftyp Tryd.prog 112 2 = 17 := by kernel_rfl
@[simp] theorem foff_112_3 : foff Tryd.prog 112 3 = some 3 := by kernel_rfl
@[simp] theorem ftyp_112_3 : ftyp Tryd.prog 112 3 = 9 := by kernel_rfl
@[simp] theorem known_112 : knownF Tryd.prog 112 = true := by kernel_rfl
@[simp] theorem zero_112 : azero Tryd.prog 112 = some [.nilPtr, .nilPtr, .nilPtr, .str []] := by kernel_rfl
@[simp] theorem nils_112 : nilPos Tryd.prog 112 = [] := by kernel_rfl
@[simp] theorem app_112 : appOk Tryd.prog 112 = true := by kernel_rfl
@[simp] theorem eby_112 : ebytes Tryd.prog 112 = 40 := by kernel_rfl
@[simp] theorem info_113 : (Tryd.prog.info? 113).isSome = true := by kernel_rfl
@[simp] theorem agg_113 : aggO Tryd.prog 113 = some true := by kernel_rfl
@[simp] theorem esz_113 : esz Tryd.prog 113 = 0 := by kernel_rfl
@[simp] theorem arrt_113 : arrT Tryd.prog 113 = some (0, 16) := by kernel_rfl
@[simp] theorem conc_113 : Tryd.prog.concrete 113 = true := by kernel_rfl
@[simp] theorem zero_113 : azero Tryd.prog 113 = some [] := by kernel_rfl
@[simp] theorem nils_113 : nilPos Tryd.prog 113 = [] := by kernel_rfl
@[simp] theorem eby_113 : ebytes Tryd.prog 113 = 0 := by kernel_rfl
@[simp] theorem info_114 : (Tryd.prog.info? 114).isSome = true := by kernel_rfl
@[simp] theorem agg_114 : aggO Tryd.prog 114 = some true := by kernel_rfl
@[simp] theorem esz_114 : esz Tryd.prog 114 = 0 := by kernel_rfl
@[simp] theorem conc_114 : Tryd.prog.concrete 114 = true := by kernel_rfl
@[simp] theorem known_114 : knownF Tryd.prog 114 = true := by kernel_rfl
@[simp] theorem zero_114 : azero Tryd.prog 114 = some [] := by kernel_rfl
@[simp] theorem nils_114 : nilPos Tryd.prog 114 = [] := by kernel_rfl
@[simp] theorem eby_114 : ebytes Tryd.prog 114 = 0 := by kernel_rfl
@[simp] theorem info_115 : (Tryd.prog.info? 115).isSome = true := by kernel_rfl
@[simp] theorem agg_115 : aggO Tryd.prog 115 = some true := by kernel_rfl
@[simp] theorem esz_115 : esz Tryd.prog 115 = 0 := by kernel_rfl
@[simp] theorem conc_115 : Tryd.prog.concrete 115 = true := by kernel_rfl
@[simp] theorem known_115 : knownF Tryd.prog 115 = true := by kernel_rfl
@[simp] theorem zero_115 : azero Tryd.prog 115 = some [] := by kernel_rfl
@[simp] theorem nils_115 : nilPos Tryd.prog 115 = [] := by kernel_rfl
@[simp] theorem eby_115 : ebytes Tryd.prog 115 = 0 := by kernel_rfl
@[simp] theorem info_116 : (Tryd.prog.info? 116).isSome = true := by kernel_rfl
@[simp] theorem agg_116 : aggO Tryd.prog 116 = some false := by kernel_rfl
@[simp] theorem esz_116 : esz Tryd.prog 116 = 1 := by kernel_rfl
@[simp] theorem funct_116 : funcT Tryd.prog 116 = true := by kernel_rfl
@[simp] theorem conc_116 : Tryd.prog.concrete 116 = true := by kernel_rfl
@[simp] theorem zero_116 : azero Tryd.prog 116 = some [.nilFunc] := by kernel_rfl
@[simp] theorem nils_116 : nilPos Tryd.prog 116 = [] := by kernel_rfl
@[simp] theorem app_116 : appOk Tryd.prog 116 = true := by kernel_rfl
@[simp] theorem eby_116 : ebytes Tryd.prog 116 = 8 := by kernel_rfl
@[simp] theorem info_117 : (Tryd.prog.info? 117).isSome = true := by kernel_rfl
@[simp] theorem agg_117 : aggO Tryd.prog 117 = some false := by kernel_rfl
@[simp] theorem esz_117 : esz Tryd.prog 117 = 1 := by kernel_rfl
@[simp] theorem ikind_117 : ikind Tryd.prog 117 = some .u8 := by kernel_rfl
@[simp] theorem under_117 : Tryd.prog.underlying 117 = some (.int .u8) := by kernel_rfl
@[simp] theorem conc_117 : Tryd.prog.concrete 117 = true := by kernel_rfl
@[simp] theorem zero_117 : azero Tryd.prog 117 = some [.int .u8 0] := by kernel_rfl
@[simp] theorem nils_117 : nilPos Tryd.prog 117 = [] := by kernel_rfl
@[simp] theorem app_117 : appOk Tryd.prog 117 = true := by kernel_rfl
@[simp] theorem eby_117 : ebytes Tryd.prog 117 = 1 := by kernel_rfl
@[simp] theorem info_118 : (Tryd.prog.info? 118).isSome = true := by kernel_rfl
@[simp] theorem agg_118 : aggO Tryd.prog 118 = some false := by kernel_rfl
@[simp] theorem esz_118 : esz Tryd.prog 118 = 1 := by kernel_rfl
@[simp] theorem ikind_118 : ikind Tryd.prog 118 = some .u8 := by kernel_rfl
@[simp] theorem under_118 : Tryd.prog.underlying 118 = some (.int .u8) := by kernel_rfl
@[simp] theorem conc_118 : Tryd.prog.concrete 118 = true := by kernel_rfl
@[simp] theorem zero_118 : azero Tryd.prog 118 = some [.int .u8 0] := by kernel_rfl
@[simp] theorem nils_118 : nilPos Tryd.prog 118 = [] := by kernel_rfl
@[simp] theorem app_118 : appOk Tryd.prog 118 = true := by kernel_rfl
@[simp] theorem eby_118 : ebytes Tryd.prog 118 = 1 := by kernel_rfl
@[simp] theorem info_119 : (Tryd.prog.info? 119).isSome = true := by kernel_rfl
@[simp] theorem agg_119 : aggO Tryd.prog 119 = some false := by kernel_rfl
@[simp] theorem esz_119 : esz Tryd.prog 119 = 1 := by kernel_rfl
@[simp] theorem funct_119 : funcT Tryd.prog 119 = true := by kernel_rfl
@[simp] theorem conc_119 : Tryd.prog.concrete 119 = true := by kernel_rfl
@[simp] theorem zero_119 : azero Tryd.prog 119 = some [.nilFunc] := by kernel_rfl
@[simp] theorem nils_119 : nilPos Tryd.prog 119 = [] := by kernel_rfl
@[simp] theorem app_119 : appOk Tryd.prog 119 = true := by kernel_rfl
@[simp] theorem eby_119 : ebytes Tryd.prog 119 = 8 := by kernel_rfl
@[simp] theorem info_120 : (Tryd.prog.info? 120).isSome = true := by kernel_rfl
@[simp] theorem agg_120 : aggO Tryd.prog 120 = some false := by kernel_rfl
@[simp] theorem esz_120 : esz Tryd.prog 120 = 1 := by kernel_rfl
@[simp] theorem ikind_120 : ikind Tryd.prog 120 = some .i32 := by kernel_rfl
@[simp] theorem under_120 : Tryd.prog.underlying 120 = some (.int .i32) := by kernel_rfl
@[simp] theorem conc_120 : Tryd.prog.concrete 120 = true := by kernel_rfl
@[simp] theorem zero_120 : azero Tryd.prog 120 = some [.int .i32 0] := by kernel_rfl
@[simp] theorem nils_120 : nilPos Tryd.prog 120 = [] := by kernel_rfl
@[simp] theorem app_120 : appOk Tryd.prog 120 = true := by kernel_rfl
@[simp] theorem eby_120 : ebytes Tryd.prog 120 = 4 := by kernel_rfl
@[simp] theorem info_121 : (Tryd.prog.info? 121).isSome = true := by kernel_rfl
@[simp] theorem agg_121 : aggO Tryd.prog 121 = some false := by kernel_rfl
@[simp] theorem esz_121 : esz Tryd.prog 121 = 1 := by kernel_rfl
@[simp] theorem ikind_121 : ikind Tryd.prog 121 = some .i32 := by kernel_rfl
@[simp] theorem under_121 : Tryd.prog.underlying 121 = some (.int .i32) := by kernel_rfl
@[simp] theorem conc_121 : Tryd.prog.concrete 121 = true := by kernel_rfl
@[simp] theorem zero_121 : azero Tryd.prog 121 = some [.int .i32 0] := by kernel_rfl
@[simp] theorem nils_121 : nilPos Tryd.prog 121 = [] := by kernel_rfl
@[simp] theorem app_121 : appOk Tryd.prog 121 = true := by kernel_rfl
@[simp] theorem eby_121 : ebytes Tryd.prog 121 = 4 := by kernel_rfl
@[simp] theorem info_122 : (Tryd.prog.info? 122).isSome = true := by kernel_rfl
@[simp] theorem agg_122 : aggO Tryd.prog 122 = some true := by kernel_rfl
@[simp] theorem esz_122 : esz Tryd.prog 122 = 11 := by kernel_rfl
@[simp] theorem conc_122 : Tryd.prog.concrete 122 = true := by kernel_rfl
@[simp] theorem foff_122_0 : foff Tryd.prog 122 0 = some 0 := by kernel_rfl
@[simp] theorem ftyp_122_0 : ftyp Tryd.prog 122 0 = 12 := by kernel_rfl
@[simp] theorem foff_122_1 : foff Tryd.prog 122 1 = some 1 := by kernel_rfl
@[simp] theorem ftyp_122_1 : ftyp Tryd.prog 122 1 = 12 := by kernel_rfl
@[simp] theorem foff_122_2 : foff Tryd.prog 122 2 = some 2 := by kernel_rfl
@[simp] theorem ftyp_122_2 : ftyp Tryd.prog 122 2 = 75 := by kernel_rfl
@[simp] theorem foff_122_3 : foff Tryd.prog 122 3 = some 3 := by kernel_rfl
@[simp] theorem ftyp_122_3 : ftyp Tryd.prog 122 3 = 117 := by kernel_rfl
@[simp] theorem foff_122_4 : foff Tryd.prog 122 4 = some 4 := by kernel_rfl
@[simp] theorem ftyp_122_4 : ftyp Tryd.prog 122 4 = 5 := by kernel_rfl
@[simp] theorem foff_122_5 : foff Tryd.prog 122 5 = some 5 := by kernel_rfl
@[simp] theorem ftyp_122_5 : ftyp Tryd.prog 122 5 = 5 := by kernel_rfl
@[simp] theorem foff_122_6 : foff Tryd.prog 122 6 = some 6 := by kernel_rfl
@[simp] theorem ftyp_122_6 : ftyp Tryd.prog 122 6 = 118 := by kernel_rfl
@[simp] theorem foff_122_7 : foff Tryd.prog 122 7 = some 7 := by kernel_rfl
@[simp] theorem ftyp_122_7 : ftyp Tryd.prog 122 7 = 119 := by kernel_rfl
@[simp] theorem foff_122_8 : foff Tryd.prog 122 8 = some 8 := by kernel_rfl
@[simp] theorem ftyp_122_8 : ftyp Tryd.prog 122 8 = 106 := by kernel_rfl
@[simp] theorem foff_122_9 : foff Tryd.prog 122 9 = some 9 := by kernel_rfl
@[simp] theorem ftyp_122_9 : ftyp Tryd.prog 122 9 = 120 := by kernel_rfl
@[simp] theorem foff_122_10 : foff Tryd.prog 122 10 = some 10 := by kernel_rfl
@[simp] theorem ftyp_122_10 : ftyp Tryd.prog 122 10 = 121 := by kernel_rfl
@[simp] theorem known_122 : knownF Tryd.prog 122 = true := by kernel_rfl
@[simp] theorem zero_122 : azero Tryd.prog 122 = some [.int .u64 0, .int .u64 0, .int .u32 0, .int .u8 0, .int .u8 0, .int .u8 0, .int .u8 0, .nilFunc, .nilPtr, .int .i32 0, .int .i32 0] := by kernel_rfl
@[simp] theorem nils_122 : nilPos Tryd.prog 122 = [] := by kernel_rfl
@[simp] theorem app_122 : appOk Tryd.prog 122 = true := by kernel_rfl
@[simp] theorem eby_122 : ebytes Tryd.prog 122 = 48 := by kernel_rfl
@[simp] theorem info_123 : (Tryd.prog.info? 123).isSome = true := by kernel_rfl
@[simp] theorem agg_123 : aggO Tryd.prog 123 = some true := by kernel_rfl
@[simp] theorem esz_123 : esz Tryd.prog 123 = 11 := by kernel_rfl
@[simp] theorem conc_123 : Tryd.prog.concrete 123 = true := by kernel_rfl
@[simp] theorem foff_123_0 : foff Tryd.prog 123 0 = some 0 := by kernel_rfl
@[simp] theorem ftyp_123_0 : ftyp Tryd.prog 123 0 = 12 := by kernel_rfl
@[simp] theorem foff_123_1 : foff Tryd.prog 123 1 = some 1 := by kernel_rfl
@[simp] theorem ftyp_123_1 : ftyp Tryd.prog 123 1 = 12 := by kernel_rfl
@[simp] theorem foff_123_2 : foff Tryd.prog 123 2 = some 2 := by kernel_rfl
@[simp] theorem ftyp_123_2 : ftyp Tryd.prog 123 2 = 75 := by kernel_rfl
@[simp] theorem foff_123_3 : foff Tryd.prog 123 3 = some 3 := by kernel_rfl
@[simp] theorem ftyp_123_3 : ftyp Tryd.prog 123 3 = 117 := by kernel_rfl
@[simp] theorem foff_123_4 : foff Tryd.prog 123 4 = some 4 := by kernel_rfl
@[simp] theorem ftyp_123_4 : ftyp Tryd.prog 123 4 = 5 := by kernel_rfl
@[simp] theorem foff_123_5 : foff Tryd.prog 123 5 = some 5 := by kernel_rfl
@[simp] theorem ftyp_123_5 : ftyp Tryd.prog 123 5 = 5 := by kernel_rfl
@[simp] theorem foff_123_6 : foff Tryd.prog 123 6 = some 6 := by kernel_rfl
@[simp] theorem ftyp_123_6 : ftyp Tryd.prog 123 6 = 118 := by kernel_rfl
@[simp] theorem foff_123_7 : foff Tryd.prog 123 7 = some 7 := by kernel_rfl
@[simp] theorem ftyp_123_7 : ftyp Tryd.prog 123 7 = 119 := by kernel_rfl
@[simp] theorem foff_123_8 : foff Tryd.prog 123 8 = some 8 := by kernel_rfl
@[simp] theorem ftyp_123_8 : ftyp Tryd.prog 123 8 = 106 := by kernel_rfl
@[simp] theorem foff_123_9 : foff Tryd.prog 123 9 = some 9 := by kernel_rfl
@[simp] theorem ftyp_123_9 : ftyp Tryd.prog 123 9 = 120 := by kernel_rfl
@[simp] theorem foff_123_10 : foff Tryd.prog 123 10 = some 10 := by kernel_rfl
@[simp] theorem ftyp_123_10 : ftyp Tryd.prog 123 10 = 121 := by kernel_rfl
@[simp] theorem known_123 : knownF Tryd.prog 123 = true := by kernel_rfl
@[simp] theorem zero_123 : azero Tryd.prog 123 = some [.int .u64 0, .int .u64 0, .int .u32 0, .int .u8 0, .int .u8 0, .int .u8 0, .int .u8 0, .nilFunc, .nilPtr, .int .i32 0, .int .i32 0] := by kernel_rfl
@[simp] theorem nils_123 : nilPos Tryd.prog 123 = [] := by kernel_rfl
@[simp] theorem app_123 : appOk Tryd.prog 123 = true := by kernel_rfl
@[simp] theorem eby_123 : ebytes Tryd.prog 123 = 48 := by kernel_rfl
theorem mixed : Tryd.prog.follows .mixedOrders = true := by kernel_rfl
end Pt
end Go.Proofs.YtjkabaejabibnaaDoor
