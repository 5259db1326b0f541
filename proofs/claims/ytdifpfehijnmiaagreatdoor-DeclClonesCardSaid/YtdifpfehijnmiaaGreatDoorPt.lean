/- The closed facts on the types of this translation that the walk asks; made by program. -/
import Derived.Test.YtdifpfehijnmiaaGreatDoorProg
import Derived.Test.YtdifpfehijnmiaaGreatDoorPvOc
import Derived.KernelRfl
set_option linter.all false
namespace Go.Proofs.YtdifpfehijnmiaaGreatDoor
open Go Go.Pv
namespace Pt
@[simp] theorem info_1 : (Tryz.prog.info? 1).isSome = true := by kernel_rfl
@[simp] theorem agg_1 : aggO Tryz.prog 1 = some false := by kernel_rfl
@[simp] theorem esz_1 : esz Tryz.prog 1 = 1 := by kernel_rfl
@[simp] theorem funct_1 : funcT Tryz.prog 1 = true := by kernel_rfl
@[simp] theorem conc_1 : Tryz.prog.concrete 1 = true := by kernel_rfl
@[simp] theorem zero_1 : azero Tryz.prog 1 = some [.nilFunc] := by kernel_rfl
@[simp] theorem nils_1 : nilPos Tryz.prog 1 = [] := by kernel_rfl
@[simp] theorem app_1 : appOk Tryz.prog 1 = true := by kernel_rfl
@[simp] theorem eby_1 : ebytes Tryz.prog 1 = 8 := by kernel_rfl
@[simp] theorem info_2 : (Tryz.prog.info? 2).isSome = true := by kernel_rfl
@[simp] theorem agg_2 : aggO Tryz.prog 2 = some false := by kernel_rfl
@[simp] theorem esz_2 : esz Tryz.prog 2 = 1 := by kernel_rfl
@[simp] theorem ikind_2 : ikind Tryz.prog 2 = some .i64 := by kernel_rfl
@[simp] theorem under_2 : Tryz.prog.underlying 2 = some (.int .i64) := by kernel_rfl
@[simp] theorem conc_2 : Tryz.prog.concrete 2 = true := by kernel_rfl
@[simp] theorem zero_2 : azero Tryz.prog 2 = some [.int .i64 0] := by kernel_rfl
@[simp] theorem nils_2 : nilPos Tryz.prog 2 = [] := by kernel_rfl
@[simp] theorem app_2 : appOk Tryz.prog 2 = true := by kernel_rfl
@[simp] theorem eby_2 : ebytes Tryz.prog 2 = 8 := by kernel_rfl
@[simp] theorem info_3 : (Tryz.prog.info? 3).isSome = true := by kernel_rfl
@[simp] theorem agg_3 : aggO Tryz.prog 3 = some false := by kernel_rfl
@[simp] theorem esz_3 : esz Tryz.prog 3 = 1 := by kernel_rfl
@[simp] theorem ikind_3 : ikind Tryz.prog 3 = some .i64 := by kernel_rfl
@[simp] theorem under_3 : Tryz.prog.underlying 3 = some (.int .i64) := by kernel_rfl
@[simp] theorem conc_3 : Tryz.prog.concrete 3 = true := by kernel_rfl
@[simp] theorem zero_3 : azero Tryz.prog 3 = some [.int .i64 0] := by kernel_rfl
@[simp] theorem nils_3 : nilPos Tryz.prog 3 = [] := by kernel_rfl
@[simp] theorem app_3 : appOk Tryz.prog 3 = true := by kernel_rfl
@[simp] theorem eby_3 : ebytes Tryz.prog 3 = 8 := by kernel_rfl
@[simp] theorem info_4 : (Tryz.prog.info? 4).isSome = true := by kernel_rfl
@[simp] theorem agg_4 : aggO Tryz.prog 4 = some false := by kernel_rfl
@[simp] theorem esz_4 : esz Tryz.prog 4 = 1 := by kernel_rfl
@[simp] theorem under_4 : Tryz.prog.underlying 4 = some .bool := by kernel_rfl
@[simp] theorem boolt_4 : boolT Tryz.prog 4 = true := by kernel_rfl
@[simp] theorem conc_4 : Tryz.prog.concrete 4 = true := by kernel_rfl
@[simp] theorem zero_4 : azero Tryz.prog 4 = some [.bool false] := by kernel_rfl
@[simp] theorem nils_4 : nilPos Tryz.prog 4 = [] := by kernel_rfl
@[simp] theorem app_4 : appOk Tryz.prog 4 = true := by kernel_rfl
@[simp] theorem eby_4 : ebytes Tryz.prog 4 = 1 := by kernel_rfl
@[simp] theorem info_5 : (Tryz.prog.info? 5).isSome = true := by kernel_rfl
@[simp] theorem agg_5 : aggO Tryz.prog 5 = some false := by kernel_rfl
@[simp] theorem esz_5 : esz Tryz.prog 5 = 1 := by kernel_rfl
@[simp] theorem ikind_5 : ikind Tryz.prog 5 = some .u8 := by kernel_rfl
@[simp] theorem under_5 : Tryz.prog.underlying 5 = some (.int .u8) := by kernel_rfl
@[simp] theorem conc_5 : Tryz.prog.concrete 5 = true := by kernel_rfl
@[simp] theorem zero_5 : azero Tryz.prog 5 = some [.int .u8 0] := by kernel_rfl
@[simp] theorem nils_5 : nilPos Tryz.prog 5 = [] := by kernel_rfl
@[simp] theorem app_5 : appOk Tryz.prog 5 = true := by kernel_rfl
@[simp] theorem eby_5 : ebytes Tryz.prog 5 = 1 := by kernel_rfl
@[simp] theorem info_6 : (Tryz.prog.info? 6).isSome = true := by kernel_rfl
@[simp] theorem agg_6 : aggO Tryz.prog 6 = some false := by kernel_rfl
@[simp] theorem esz_6 : esz Tryz.prog 6 = 1 := by kernel_rfl
@[simp] theorem ikind_6 : ikind Tryz.prog 6 = some .u8 := by kernel_rfl
@[simp] theorem under_6 : Tryz.prog.underlying 6 = some (.int .u8) := by kernel_rfl
@[simp] theorem conc_6 : Tryz.prog.concrete 6 = true := by kernel_rfl
@[simp] theorem zero_6 : azero Tryz.prog 6 = some [.int .u8 0] := by kernel_rfl
@[simp] theorem nils_6 : nilPos Tryz.prog 6 = [] := by kernel_rfl
@[simp] theorem app_6 : appOk Tryz.prog 6 = true := by kernel_rfl
@[simp] theorem eby_6 : ebytes Tryz.prog 6 = 1 := by kernel_rfl
@[simp] theorem info_7 : (Tryz.prog.info? 7).isSome = true := by kernel_rfl
@[simp] theorem agg_7 : aggO Tryz.prog 7 = some true := by kernel_rfl
@[simp] theorem esz_7 : esz Tryz.prog 7 = 4 := by kernel_rfl
@[simp] theorem conc_7 : Tryz.prog.concrete 7 = true := by kernel_rfl
@[simp] theorem foff_7_0 : foff Tryz.prog 7 0 = some 0 := by kernel_rfl
@[simp] theorem ftyp_7_0 : ftyp Tryz.prog 7 0 = 2 := by kernel_rfl
@[simp] theorem foff_7_1 : foff Tryz.prog 7 1 = some 1 := by kernel_rfl
@[simp] theorem ftyp_7_1 : ftyp Tryz.prog 7 1 = 3 := by kernel_rfl
@[simp] theorem foff_7_2 : foff Tryz.prog 7 2 = some 2 := by kernel_rfl
@[simp] theorem ftyp_7_2 : ftyp Tryz.prog 7 2 = 4 := by kernel_rfl
@[simp] theorem foff_7_3 : foff Tryz.prog 7 3 = some 3 := by kernel_rfl
@[simp] theorem ftyp_7_3 : ftyp Tryz.prog 7 3 = 6 := by kernel_rfl
@[simp] theorem known_7 : knownF Tryz.prog 7 = true := by kernel_rfl
@[simp] theorem zero_7 : azero Tryz.prog 7 = some [.int .i64 0, .int .i64 0, .bool false, .int .u8 0] := by kernel_rfl
@[simp] theorem nils_7 : nilPos Tryz.prog 7 = [] := by kernel_rfl
@[simp] theorem app_7 : appOk Tryz.prog 7 = true := by kernel_rfl
@[simp] theorem eby_7 : ebytes Tryz.prog 7 = 24 := by kernel_rfl
@[simp] theorem info_8 : (Tryz.prog.info? 8).isSome = true := by kernel_rfl
@[simp] theorem agg_8 : aggO Tryz.prog 8 = some true := by kernel_rfl
@[simp] theorem esz_8 : esz Tryz.prog 8 = 4 := by kernel_rfl
@[simp] theorem conc_8 : Tryz.prog.concrete 8 = true := by kernel_rfl
@[simp] theorem foff_8_0 : foff Tryz.prog 8 0 = some 0 := by kernel_rfl
@[simp] theorem ftyp_8_0 : ftyp Tryz.prog 8 0 = 2 := by kernel_rfl
@[simp] theorem foff_8_1 : foff Tryz.prog 8 1 = some 1 := by kernel_rfl
@[simp] theorem ftyp_8_1 : ftyp Tryz.prog 8 1 = 3 := by kernel_rfl
@[simp] theorem foff_8_2 : foff Tryz.prog 8 2 = some 2 := by kernel_rfl
@[simp] theorem ftyp_8_2 : ftyp Tryz.prog 8 2 = 4 := by kernel_rfl
@[simp] theorem foff_8_3 : foff Tryz.prog 8 3 = some 3 := by kernel_rfl
@[simp] theorem ftyp_8_3 : ftyp Tryz.prog 8 3 = 6 := by kernel_rfl
@[simp] theorem known_8 : knownF Tryz.prog 8 = true := by kernel_rfl
@[simp] theorem zero_8 : azero Tryz.prog 8 = some [.int .i64 0, .int .i64 0, .bool false, .int .u8 0] := by kernel_rfl
@[simp] theorem nils_8 : nilPos Tryz.prog 8 = [] := by kernel_rfl
@[simp] theorem app_8 : appOk Tryz.prog 8 = true := by kernel_rfl
@[simp] theorem eby_8 : ebytes Tryz.prog 8 = 24 := by kernel_rfl
@[simp] theorem info_9 : (Tryz.prog.info? 9).isSome = true := by kernel_rfl
@[simp] theorem agg_9 : aggO Tryz.prog 9 = some false := by kernel_rfl
@[simp] theorem esz_9 : esz Tryz.prog 9 = 1 := by kernel_rfl
@[simp] theorem under_9 : Tryz.prog.underlying 9 = some .string := by kernel_rfl
@[simp] theorem strt_9 : strT Tryz.prog 9 = true := by kernel_rfl
@[simp] theorem strb_9 : strB Tryz.prog 9 = true := by kernel_rfl
@[simp] theorem conc_9 : Tryz.prog.concrete 9 = true := by kernel_rfl
@[simp] theorem zero_9 : azero Tryz.prog 9 = some [.str []] := by kernel_rfl
@[simp] theorem nils_9 : nilPos Tryz.prog 9 = [] := by kernel_rfl
@[simp] theorem app_9 : appOk Tryz.prog 9 = true := by kernel_rfl
@[simp] theorem eby_9 : ebytes Tryz.prog 9 = 16 := by kernel_rfl
@[simp] theorem info_21 : (Tryz.prog.info? 21).isSome = true := by kernel_rfl
@[simp] theorem agg_21 : aggO Tryz.prog 21 = some false := by kernel_rfl
@[simp] theorem esz_21 : esz Tryz.prog 21 = 1 := by kernel_rfl
@[simp] theorem ikind_21 : ikind Tryz.prog 21 = some .i32 := by kernel_rfl
@[simp] theorem under_21 : Tryz.prog.underlying 21 = some (.int .i32) := by kernel_rfl
@[simp] theorem conc_21 : Tryz.prog.concrete 21 = true := by kernel_rfl
@[simp] theorem zero_21 : azero Tryz.prog 21 = some [.int .i32 0] := by kernel_rfl
@[simp] theorem nils_21 : nilPos Tryz.prog 21 = [] := by kernel_rfl
@[simp] theorem app_21 : appOk Tryz.prog 21 = true := by kernel_rfl
@[simp] theorem eby_21 : ebytes Tryz.prog 21 = 4 := by kernel_rfl
@[simp] theorem info_22 : (Tryz.prog.info? 22).isSome = true := by kernel_rfl
@[simp] theorem agg_22 : aggO Tryz.prog 22 = some false := by kernel_rfl
@[simp] theorem esz_22 : esz Tryz.prog 22 = 1 := by kernel_rfl
@[simp] theorem elem_22 : elemT Tryz.prog 22 = some 51 := by kernel_rfl
@[simp] theorem conc_22 : Tryz.prog.concrete 22 = true := by kernel_rfl
@[simp] theorem zero_22 : azero Tryz.prog 22 = some [.slice []] := by kernel_rfl
@[simp] theorem nils_22 : nilPos Tryz.prog 22 = [0] := by kernel_rfl
@[simp] theorem app_22 : appOk Tryz.prog 22 = true := by kernel_rfl
@[simp] theorem eby_22 : ebytes Tryz.prog 22 = 24 := by kernel_rfl
@[simp] theorem info_23 : (Tryz.prog.info? 23).isSome = true := by kernel_rfl
@[simp] theorem agg_23 : aggO Tryz.prog 23 = some false := by kernel_rfl
@[simp] theorem esz_23 : esz Tryz.prog 23 = 1 := by kernel_rfl
@[simp] theorem elem_23 : elemT Tryz.prog 23 = some 53 := by kernel_rfl
@[simp] theorem conc_23 : Tryz.prog.concrete 23 = true := by kernel_rfl
@[simp] theorem zero_23 : azero Tryz.prog 23 = some [.slice []] := by kernel_rfl
@[simp] theorem nils_23 : nilPos Tryz.prog 23 = [0] := by kernel_rfl
@[simp] theorem app_23 : appOk Tryz.prog 23 = true := by kernel_rfl
@[simp] theorem eby_23 : ebytes Tryz.prog 23 = 24 := by kernel_rfl
@[simp] theorem info_24 : (Tryz.prog.info? 24).isSome = true := by kernel_rfl
@[simp] theorem agg_24 : aggO Tryz.prog 24 = some false := by kernel_rfl
@[simp] theorem esz_24 : esz Tryz.prog 24 = 1 := by kernel_rfl
@[simp] theorem elem_24 : elemT Tryz.prog 24 = some 30 := by kernel_rfl
@[simp] theorem conc_24 : Tryz.prog.concrete 24 = true := by kernel_rfl
@[simp] theorem zero_24 : azero Tryz.prog 24 = some [.slice []] := by kernel_rfl
@[simp] theorem nils_24 : nilPos Tryz.prog 24 = [0] := by kernel_rfl
@[simp] theorem app_24 : appOk Tryz.prog 24 = true := by kernel_rfl
@[simp] theorem eby_24 : ebytes Tryz.prog 24 = 24 := by kernel_rfl
@[simp] theorem info_25 : (Tryz.prog.info? 25).isSome = true := by kernel_rfl
@[simp] theorem agg_25 : aggO Tryz.prog 25 = some false := by kernel_rfl
@[simp] theorem esz_25 : esz Tryz.prog 25 = 1 := by kernel_rfl
@[simp] theorem elem_25 : elemT Tryz.prog 25 = some 9 := by kernel_rfl
@[simp] theorem conc_25 : Tryz.prog.concrete 25 = true := by kernel_rfl
@[simp] theorem zero_25 : azero Tryz.prog 25 = some [.slice []] := by kernel_rfl
@[simp] theorem nils_25 : nilPos Tryz.prog 25 = [0] := by kernel_rfl
@[simp] theorem app_25 : appOk Tryz.prog 25 = true := by kernel_rfl
@[simp] theorem eby_25 : ebytes Tryz.prog 25 = 24 := by kernel_rfl
@[simp] theorem info_26 : (Tryz.prog.info? 26).isSome = true := by kernel_rfl
@[simp] theorem agg_26 : aggO Tryz.prog 26 = some false := by kernel_rfl
@[simp] theorem esz_26 : esz Tryz.prog 26 = 1 := by kernel_rfl
@[simp] theorem elem_26 : elemT Tryz.prog 26 = some 28 := by kernel_rfl
@[simp] theorem conc_26 : Tryz.prog.concrete 26 = true := by kernel_rfl
@[simp] theorem zero_26 : azero Tryz.prog 26 = some [.slice []] := by kernel_rfl
@[simp] theorem nils_26 : nilPos Tryz.prog 26 = [0] := by kernel_rfl
@[simp] theorem app_26 : appOk Tryz.prog 26 = true := by kernel_rfl
@[simp] theorem eby_26 : ebytes Tryz.prog 26 = 24 := by kernel_rfl
@[simp] theorem info_28 : (Tryz.prog.info? 28).isSome = true := by kernel_rfl
@[simp] theorem agg_28 : aggO Tryz.prog 28 = some true := by kernel_rfl
@[simp] theorem esz_28 : esz Tryz.prog 28 = 3 := by kernel_rfl
@[simp] theorem conc_28 : Tryz.prog.concrete 28 = true := by kernel_rfl
@[simp] theorem foff_28_0 : foff Tryz.prog 28 0 = some 0 := by kernel_rfl
@[simp] theorem ftyp_28_0 : ftyp Tryz.prog 28 0 = 9 := by kernel_rfl
@[simp] theorem foff_28_1 : foff Tryz.prog 28 1 = some 1 := by kernel_rfl
@[simp] theorem ftyp_28_1 : ftyp Tryz.prog 28 1 = 26 := by kernel_rfl
@[simp] theorem foff_28_2 : foff Tryz.prog 28 2 = some 2 := by kernel_rfl
@[simp] theorem ftyp_28_2 : ftyp Tryz.prog 28 2 = 3 := by kernel_rfl
@[simp] theorem known_28 : knownF Tryz.prog 28 = true := by kernel_rfl
@[simp] theorem zero_28 : azero Tryz.prog 28 = some [.str [], .slice [], .int .i64 0] := by kernel_rfl
@[simp] theorem nils_28 : nilPos Tryz.prog 28 = [1] := by kernel_rfl
@[simp] theorem app_28 : appOk Tryz.prog 28 = true := by kernel_rfl
@[simp] theorem eby_28 : ebytes Tryz.prog 28 = 48 := by kernel_rfl
@[simp] theorem info_30 : (Tryz.prog.info? 30).isSome = true := by kernel_rfl
@[simp] theorem agg_30 : aggO Tryz.prog 30 = some true := by kernel_rfl
@[simp] theorem esz_30 : esz Tryz.prog 30 = 7 := by kernel_rfl
@[simp] theorem conc_30 : Tryz.prog.concrete 30 = true := by kernel_rfl
@[simp] theorem foff_30_0 : foff Tryz.prog 30 0 = some 0 := by kernel_rfl
@[simp] theorem ftyp_30_0 : ftyp Tryz.prog 30 0 = 9 := by kernel_rfl
@[simp] theorem foff_30_1 : foff Tryz.prog 30 1 = some 1 := by kernel_rfl
@[simp] theorem ftyp_30_1 : ftyp Tryz.prog 30 1 = 22 := by kernel_rfl
@[simp] theorem foff_30_2 : foff Tryz.prog 30 2 = some 2 := by kernel_rfl
@[simp] theorem ftyp_30_2 : ftyp Tryz.prog 30 2 = 23 := by kernel_rfl
@[simp] theorem foff_30_3 : foff Tryz.prog 30 3 = some 3 := by kernel_rfl
@[simp] theorem ftyp_30_3 : ftyp Tryz.prog 30 3 = 28 := by kernel_rfl
@[simp] theorem foff_30_4 : foff Tryz.prog 30 4 = some 6 := by kernel_rfl
@[simp] theorem ftyp_30_4 : ftyp Tryz.prog 30 4 = 3 := by kernel_rfl
@[simp] theorem known_30 : knownF Tryz.prog 30 = true := by kernel_rfl
@[simp] theorem zero_30 : azero Tryz.prog 30 = some [.str [], .slice [], .slice [], .str [], .slice [], .int .i64 0, .int .i64 0] := by kernel_rfl
@[simp] theorem nils_30 : nilPos Tryz.prog 30 = [1, 2, 4] := by kernel_rfl
@[simp] theorem app_30 : appOk Tryz.prog 30 = true := by kernel_rfl
@[simp] theorem eby_30 : ebytes Tryz.prog 30 = 120 := by kernel_rfl
@[simp] theorem info_31 : (Tryz.prog.info? 31).isSome = true := by kernel_rfl
@[simp] theorem agg_31 : aggO Tryz.prog 31 = some false := by kernel_rfl
@[simp] theorem esz_31 : esz Tryz.prog 31 = 1 := by kernel_rfl
@[simp] theorem elem_31 : elemT Tryz.prog 31 = some 33 := by kernel_rfl
@[simp] theorem conc_31 : Tryz.prog.concrete 31 = true := by kernel_rfl
@[simp] theorem zero_31 : azero Tryz.prog 31 = some [.slice []] := by kernel_rfl
@[simp] theorem nils_31 : nilPos Tryz.prog 31 = [0] := by kernel_rfl
@[simp] theorem app_31 : appOk Tryz.prog 31 = true := by kernel_rfl
@[simp] theorem eby_31 : ebytes Tryz.prog 31 = 24 := by kernel_rfl
@[simp] theorem info_33 : (Tryz.prog.info? 33).isSome = true := by kernel_rfl
@[simp] theorem agg_33 : aggO Tryz.prog 33 = some true := by kernel_rfl
@[simp] theorem esz_33 : esz Tryz.prog 33 = 8 := by kernel_rfl
@[simp] theorem conc_33 : Tryz.prog.concrete 33 = true := by kernel_rfl
@[simp] theorem foff_33_0 : foff Tryz.prog 33 0 = some 0 := by kernel_rfl
@[simp] theorem ftyp_33_0 : ftyp Tryz.prog 33 0 = 3 := by kernel_rfl
@[simp] theorem foff_33_1 : foff Tryz.prog 33 1 = some 1 := by kernel_rfl
@[simp] theorem ftyp_33_1 : ftyp Tryz.prog 33 1 = 9 := by kernel_rfl
@[simp] theorem foff_33_2 : foff Tryz.prog 33 2 = some 2 := by kernel_rfl
@[simp] theorem ftyp_33_2 : ftyp Tryz.prog 33 2 = 28 := by kernel_rfl
@[simp] theorem foff_33_3 : foff Tryz.prog 33 3 = some 5 := by kernel_rfl
@[simp] theorem ftyp_33_3 : ftyp Tryz.prog 33 3 = 26 := by kernel_rfl
@[simp] theorem foff_33_4 : foff Tryz.prog 33 4 = some 6 := by kernel_rfl
@[simp] theorem ftyp_33_4 : ftyp Tryz.prog 33 4 = 31 := by kernel_rfl
@[simp] theorem foff_33_5 : foff Tryz.prog 33 5 = some 7 := by kernel_rfl
@[simp] theorem ftyp_33_5 : ftyp Tryz.prog 33 5 = 3 := by kernel_rfl
@[simp] theorem known_33 : knownF Tryz.prog 33 = true := by kernel_rfl
@[simp] theorem zero_33 : azero Tryz.prog 33 = some [.int .i64 0, .str [], .str [], .slice [], .int .i64 0, .slice [], .slice [], .int .i64 0] := by kernel_rfl
@[simp] theorem nils_33 : nilPos Tryz.prog 33 = [3, 5, 6] := by kernel_rfl
@[simp] theorem app_33 : appOk Tryz.prog 33 = true := by kernel_rfl
@[simp] theorem eby_33 : ebytes Tryz.prog 33 = 128 := by kernel_rfl
@[simp] theorem info_35 : (Tryz.prog.info? 35).isSome = true := by kernel_rfl
@[simp] theorem agg_35 : aggO Tryz.prog 35 = some true := by kernel_rfl
@[simp] theorem esz_35 : esz Tryz.prog 35 = 23 := by kernel_rfl
@[simp] theorem conc_35 : Tryz.prog.concrete 35 = true := by kernel_rfl
@[simp] theorem foff_35_0 : foff Tryz.prog 35 0 = some 0 := by kernel_rfl
@[simp] theorem ftyp_35_0 : ftyp Tryz.prog 35 0 = 3 := by kernel_rfl
@[simp] theorem foff_35_1 : foff Tryz.prog 35 1 = some 1 := by kernel_rfl
@[simp] theorem ftyp_35_1 : ftyp Tryz.prog 35 1 = 9 := by kernel_rfl
@[simp] theorem foff_35_2 : foff Tryz.prog 35 2 = some 2 := by kernel_rfl
@[simp] theorem ftyp_35_2 : ftyp Tryz.prog 35 2 = 22 := by kernel_rfl
@[simp] theorem foff_35_3 : foff Tryz.prog 35 3 = some 3 := by kernel_rfl
@[simp] theorem ftyp_35_3 : ftyp Tryz.prog 35 3 = 23 := by kernel_rfl
@[simp] theorem foff_35_4 : foff Tryz.prog 35 4 = some 4 := by kernel_rfl
@[simp] theorem ftyp_35_4 : ftyp Tryz.prog 35 4 = 24 := by kernel_rfl
@[simp] theorem foff_35_5 : foff Tryz.prog 35 5 = some 5 := by kernel_rfl
@[simp] theorem ftyp_35_5 : ftyp Tryz.prog 35 5 = 9 := by kernel_rfl
@[simp] theorem foff_35_6 : foff Tryz.prog 35 6 = some 6 := by kernel_rfl
@[simp] theorem ftyp_35_6 : ftyp Tryz.prog 35 6 = 25 := by kernel_rfl
@[simp] theorem foff_35_7 : foff Tryz.prog 35 7 = some 7 := by kernel_rfl
@[simp] theorem ftyp_35_7 : ftyp Tryz.prog 35 7 = 30 := by kernel_rfl
@[simp] theorem foff_35_8 : foff Tryz.prog 35 8 = some 14 := by kernel_rfl
@[simp] theorem ftyp_35_8 : ftyp Tryz.prog 35 8 = 33 := by kernel_rfl
@[simp] theorem foff_35_9 : foff Tryz.prog 35 9 = some 22 := by kernel_rfl
@[simp] theorem ftyp_35_9 : ftyp Tryz.prog 35 9 = 3 := by kernel_rfl
@[simp] theorem known_35 : knownF Tryz.prog 35 = true := by kernel_rfl
@[simp] theorem zero_35 : azero Tryz.prog 35 = some [.int .i64 0, .str [], .slice [], .slice [], .slice [], .str [], .slice [], .str [], .slice [], .slice [], .str [], .slice [], .int .i64 0, .int .i64 0, .int .i64 0, .str [], .str [], .slice [], .int .i64 0, .slice [], .slice [], .int .i64 0, .int .i64 0] := by kernel_rfl
@[simp] theorem nils_35 : nilPos Tryz.prog 35 = [2, 3, 4, 6, 8, 9, 11, 17, 19, 20] := by kernel_rfl
@[simp] theorem app_35 : appOk Tryz.prog 35 = true := by kernel_rfl
@[simp] theorem eby_35 : ebytes Tryz.prog 35 = 392 := by kernel_rfl
@[simp] theorem info_38 : (Tryz.prog.info? 38).isSome = true := by kernel_rfl
@[simp] theorem agg_38 : aggO Tryz.prog 38 = some false := by kernel_rfl
@[simp] theorem esz_38 : esz Tryz.prog 38 = 1 := by kernel_rfl
@[simp] theorem elem_38 : elemT Tryz.prog 38 = some 35 := by kernel_rfl
@[simp] theorem conc_38 : Tryz.prog.concrete 38 = true := by kernel_rfl
@[simp] theorem zero_38 : azero Tryz.prog 38 = some [.slice []] := by kernel_rfl
@[simp] theorem nils_38 : nilPos Tryz.prog 38 = [0] := by kernel_rfl
@[simp] theorem app_38 : appOk Tryz.prog 38 = true := by kernel_rfl
@[simp] theorem eby_38 : ebytes Tryz.prog 38 = 24 := by kernel_rfl
@[simp] theorem info_40 : (Tryz.prog.info? 40).isSome = true := by kernel_rfl
@[simp] theorem agg_40 : aggO Tryz.prog 40 = some true := by kernel_rfl
@[simp] theorem esz_40 : esz Tryz.prog 40 = 9 := by kernel_rfl
@[simp] theorem conc_40 : Tryz.prog.concrete 40 = true := by kernel_rfl
@[simp] theorem foff_40_0 : foff Tryz.prog 40 0 = some 0 := by kernel_rfl
@[simp] theorem ftyp_40_0 : ftyp Tryz.prog 40 0 = 38 := by kernel_rfl
@[simp] theorem foff_40_1 : foff Tryz.prog 40 1 = some 1 := by kernel_rfl
@[simp] theorem ftyp_40_1 : ftyp Tryz.prog 40 1 = 33 := by kernel_rfl
@[simp] theorem known_40 : knownF Tryz.prog 40 = true := by kernel_rfl
@[simp] theorem zero_40 : azero Tryz.prog 40 = some [.slice [], .int .i64 0, .str [], .str [], .slice [], .int .i64 0, .slice [], .slice [], .int .i64 0] := by kernel_rfl
@[simp] theorem nils_40 : nilPos Tryz.prog 40 = [0, 4, 6, 7] := by kernel_rfl
@[simp] theorem app_40 : appOk Tryz.prog 40 = true := by kernel_rfl
@[simp] theorem eby_40 : ebytes Tryz.prog 40 = 152 := by kernel_rfl
@[simp] theorem info_41 : (Tryz.prog.info? 41).isSome = true := by kernel_rfl
@[simp] theorem agg_41 : aggO Tryz.prog 41 = some false := by kernel_rfl
@[simp] theorem esz_41 : esz Tryz.prog 41 = 1 := by kernel_rfl
@[simp] theorem funct_41 : funcT Tryz.prog 41 = true := by kernel_rfl
@[simp] theorem conc_41 : Tryz.prog.concrete 41 = true := by kernel_rfl
@[simp] theorem zero_41 : azero Tryz.prog 41 = some [.nilFunc] := by kernel_rfl
@[simp] theorem nils_41 : nilPos Tryz.prog 41 = [] := by kernel_rfl
@[simp] theorem app_41 : appOk Tryz.prog 41 = true := by kernel_rfl
@[simp] theorem eby_41 : ebytes Tryz.prog 41 = 8 := by kernel_rfl
@[simp] theorem info_51 : (Tryz.prog.info? 51).isSome = true := by kernel_rfl
@[simp] theorem agg_51 : aggO Tryz.prog 51 = some true := by kernel_rfl
@[simp] theorem esz_51 : esz Tryz.prog 51 = 5 := by kernel_rfl
@[simp] theorem conc_51 : Tryz.prog.concrete 51 = true := by kernel_rfl
@[simp] theorem foff_51_0 : foff Tryz.prog 51 0 = some 0 := by kernel_rfl
@[simp] theorem ftyp_51_0 : ftyp Tryz.prog 51 0 = 9 := by kernel_rfl
@[simp] theorem foff_51_1 : foff Tryz.prog 51 1 = some 1 := by kernel_rfl
@[simp] theorem ftyp_51_1 : ftyp Tryz.prog 51 1 = 28 := by kernel_rfl
@[simp] theorem foff_51_2 : foff Tryz.prog 51 2 = some 4 := by kernel_rfl
@[simp] theorem ftyp_51_2 : ftyp Tryz.prog 51 2 = 3 := by kernel_rfl
@[simp] theorem known_51 : knownF Tryz.prog 51 = true := by kernel_rfl
@[simp] theorem zero_51 : azero Tryz.prog 51 = some [.str [], .str [], .slice [], .int .i64 0, .int .i64 0] := by kernel_rfl
@[simp] theorem nils_51 : nilPos Tryz.prog 51 = [2] := by kernel_rfl
@[simp] theorem app_51 : appOk Tryz.prog 51 = true := by kernel_rfl
@[simp] theorem eby_51 : ebytes Tryz.prog 51 = 72 := by kernel_rfl
@[simp] theorem info_53 : (Tryz.prog.info? 53).isSome = true := by kernel_rfl
@[simp] theorem agg_53 : aggO Tryz.prog 53 = some true := by kernel_rfl
@[simp] theorem esz_53 : esz Tryz.prog 53 = 5 := by kernel_rfl
@[simp] theorem conc_53 : Tryz.prog.concrete 53 = true := by kernel_rfl
@[simp] theorem foff_53_0 : foff Tryz.prog 53 0 = some 0 := by kernel_rfl
@[simp] theorem ftyp_53_0 : ftyp Tryz.prog 53 0 = 9 := by kernel_rfl
@[simp] theorem foff_53_1 : foff Tryz.prog 53 1 = some 1 := by kernel_rfl
@[simp] theorem ftyp_53_1 : ftyp Tryz.prog 53 1 = 28 := by kernel_rfl
@[simp] theorem foff_53_2 : foff Tryz.prog 53 2 = some 4 := by kernel_rfl
@[simp] theorem ftyp_53_2 : ftyp Tryz.prog 53 2 = 3 := by kernel_rfl
@[simp] theorem known_53 : knownF Tryz.prog 53 = true := by kernel_rfl
@[simp] theorem zero_53 : azero Tryz.prog 53 = some [.str [], .str [], .slice [], .int .i64 0, .int .i64 0] := by kernel_rfl
@[simp] theorem nils_53 : nilPos Tryz.prog 53 = [2] := by kernel_rfl
@[simp] theorem app_53 : appOk Tryz.prog 53 = true := by kernel_rfl
@[simp] theorem eby_53 : ebytes Tryz.prog 53 = 72 := by kernel_rfl
@[simp] theorem info_56 : (Tryz.prog.info? 56).isSome = true := by kernel_rfl
@[simp] theorem agg_56 : aggO Tryz.prog 56 = some false := by kernel_rfl
@[simp] theorem esz_56 : esz Tryz.prog 56 = 1 := by kernel_rfl
@[simp] theorem funct_56 : funcT Tryz.prog 56 = true := by kernel_rfl
@[simp] theorem conc_56 : Tryz.prog.concrete 56 = true := by kernel_rfl
@[simp] theorem zero_56 : azero Tryz.prog 56 = some [.nilFunc] := by kernel_rfl
@[simp] theorem nils_56 : nilPos Tryz.prog 56 = [] := by kernel_rfl
@[simp] theorem app_56 : appOk Tryz.prog 56 = true := by kernel_rfl
@[simp] theorem eby_56 : ebytes Tryz.prog 56 = 8 := by kernel_rfl
@[simp] theorem info_58 : (Tryz.prog.info? 58).isSome = true := by kernel_rfl
@[simp] theorem agg_58 : aggO Tryz.prog 58 = some false := by kernel_rfl
@[simp] theorem esz_58 : esz Tryz.prog 58 = 1 := by kernel_rfl
@[simp] theorem funct_58 : funcT Tryz.prog 58 = true := by kernel_rfl
@[simp] theorem conc_58 : Tryz.prog.concrete 58 = true := by kernel_rfl
@[simp] theorem zero_58 : azero Tryz.prog 58 = some [.nilFunc] := by kernel_rfl
@[simp] theorem nils_58 : nilPos Tryz.prog 58 = [] := by kernel_rfl
@[simp] theorem app_58 : appOk Tryz.prog 58 = true := by kernel_rfl
@[simp] theorem eby_58 : ebytes Tryz.prog 58 = 8 := by kernel_rfl
@[simp] theorem info_59 : (Tryz.prog.info? 59).isSome = true := by kernel_rfl
@[simp] theorem agg_59 : aggO Tryz.prog 59 = some false := by kernel_rfl
@[simp] theorem esz_59 : esz Tryz.prog 59 = 1 := by kernel_rfl
@[simp] theorem funct_59 : funcT Tryz.prog 59 = true := by kernel_rfl
@[simp] theorem conc_59 : Tryz.prog.concrete 59 = true := by kernel_rfl
@[simp] theorem zero_59 : azero Tryz.prog 59 = some [.nilFunc] := by kernel_rfl
@[simp] theorem nils_59 : nilPos Tryz.prog 59 = [] := by kernel_rfl
@[simp] theorem app_59 : appOk Tryz.prog 59 = true := by kernel_rfl
@[simp] theorem eby_59 : ebytes Tryz.prog 59 = 8 := by kernel_rfl
@[simp] theorem info_61 : (Tryz.prog.info? 61).isSome = true := by kernel_rfl
@[simp] theorem agg_61 : aggO Tryz.prog 61 = some false := by kernel_rfl
@[simp] theorem esz_61 : esz Tryz.prog 61 = 1 := by kernel_rfl
@[simp] theorem funct_61 : funcT Tryz.prog 61 = true := by kernel_rfl
@[simp] theorem conc_61 : Tryz.prog.concrete 61 = true := by kernel_rfl
@[simp] theorem zero_61 : azero Tryz.prog 61 = some [.nilFunc] := by kernel_rfl
@[simp] theorem nils_61 : nilPos Tryz.prog 61 = [] := by kernel_rfl
@[simp] theorem app_61 : appOk Tryz.prog 61 = true := by kernel_rfl
@[simp] theorem eby_61 : ebytes Tryz.prog 61 = 8 := by kernel_rfl
@[simp] theorem info_63 : (Tryz.prog.info? 63).isSome = true := by kernel_rfl
@[simp] theorem agg_63 : aggO Tryz.prog 63 = some false := by kernel_rfl
@[simp] theorem esz_63 : esz Tryz.prog 63 = 1 := by kernel_rfl
@[simp] theorem funct_63 : funcT Tryz.prog 63 = true := by kernel_rfl
@[simp] theorem conc_63 : Tryz.prog.concrete 63 = true := by kernel_rfl
@[simp] theorem zero_63 : azero Tryz.prog 63 = some [.nilFunc] := by kernel_rfl
@[simp] theorem nils_63 : nilPos Tryz.prog 63 = [] := by kernel_rfl
@[simp] theorem app_63 : appOk Tryz.prog 63 = true := by kernel_rfl
@[simp] theorem eby_63 : ebytes Tryz.prog 63 = 8 := by kernel_rfl
@[simp] theorem info_106 : (Tryz.prog.info? 106).isSome = true := by kernel_rfl
@[simp] theorem agg_106 : aggO Tryz.prog 106 = some false := by kernel_rfl
@[simp] theorem esz_106 : esz Tryz.prog 106 = 1 := by kernel_rfl
@[simp] theorem elem_106 : elemT Tryz.prog 106 = some 26 := by kernel_rfl
@[simp] theorem conc_106 : Tryz.prog.concrete 106 = true := by kernel_rfl
@[simp] theorem zero_106 : azero Tryz.prog 106 = some [.slice []] := by kernel_rfl
@[simp] theorem nils_106 : nilPos Tryz.prog 106 = [0] := by kernel_rfl
@[simp] theorem app_106 : appOk Tryz.prog 106 = true := by kernel_rfl
@[simp] theorem eby_106 : ebytes Tryz.prog 106 = 24 := by kernel_rfl
@[simp] theorem info_122 : (Tryz.prog.info? 122).isSome = true := by kernel_rfl
@[simp] theorem agg_122 : aggO Tryz.prog 122 = some true := by kernel_rfl
@[simp] theorem esz_122 : esz Tryz.prog 122 = 7 := by kernel_rfl
@[simp] theorem arrt_122 : arrT Tryz.prog 122 = some (7, 9) := by kernel_rfl
@[simp] theorem conc_122 : Tryz.prog.concrete 122 = true := by kernel_rfl
@[simp] theorem zero_122 : azero Tryz.prog 122 = some [.str [], .str [], .str [], .str [], .str [], .str [], .str []] := by kernel_rfl
@[simp] theorem nils_122 : nilPos Tryz.prog 122 = [] := by kernel_rfl
@[simp] theorem app_122 : appOk Tryz.prog 122 = true := by kernel_rfl
@[simp] theorem eby_122 : ebytes Tryz.prog 122 = 112 := by kernel_rfl
@[simp] theorem info_127 : (Tryz.prog.info? 127).isSome = true := by kernel_rfl
@[simp] theorem agg_127 : aggO Tryz.prog 127 = some false := by kernel_rfl
@[simp] theorem esz_127 : esz Tryz.prog 127 = 1 := by kernel_rfl
@[simp] theorem ikind_127 : ikind Tryz.prog 127 = some .u64 := by kernel_rfl
@[simp] theorem under_127 : Tryz.prog.underlying 127 = some (.int .u64) := by kernel_rfl
@[simp] theorem conc_127 : Tryz.prog.concrete 127 = true := by kernel_rfl
@[simp] theorem zero_127 : azero Tryz.prog 127 = some [.int .u64 0] := by kernel_rfl
@[simp] theorem nils_127 : nilPos Tryz.prog 127 = [] := by kernel_rfl
@[simp] theorem app_127 : appOk Tryz.prog 127 = true := by kernel_rfl
@[simp] theorem eby_127 : ebytes Tryz.prog 127 = 8 := by kernel_rfl
@[simp] theorem info_145 : (Tryz.prog.info? 145).isSome = true := by kernel_rfl
@[simp] theorem agg_145 : aggO Tryz.prog 145 = some false := by kernel_rfl
@[simp] theorem esz_145 : esz Tryz.prog 145 = 1 := by kernel_rfl
@[simp] theorem ikind_145 : ikind Tryz.prog 145 = some .u32 := by kernel_rfl
@[simp] theorem under_145 : Tryz.prog.underlying 145 = some (.int .u32) := by kernel_rfl
@[simp] theorem conc_145 : Tryz.prog.concrete 145 = true := by kernel_rfl
@[simp] theorem zero_145 : azero Tryz.prog 145 = some [.int .u32 0] := by kernel_rfl
@[simp] theorem nils_145 : nilPos Tryz.prog 145 = [] := by kernel_rfl
@[simp] theorem app_145 : appOk Tryz.prog 145 = true := by kernel_rfl
@[simp] theorem eby_145 : ebytes Tryz.prog 145 = 4 := by kernel_rfl
@[simp] theorem info_148 : (Tryz.prog.info? 148).isSome = true := by kernel_rfl
@[simp] theorem agg_148 : aggO Tryz.prog 148 = some false := by kernel_rfl
@[simp] theorem esz_148 : esz Tryz.prog 148 = 1 := by kernel_rfl
@[simp] theorem ikind_148 : ikind Tryz.prog 148 = some .u64 := by kernel_rfl
@[simp] theorem under_148 : Tryz.prog.underlying 148 = some (.int .u64) := by kernel_rfl
@[simp] theorem conc_148 : Tryz.prog.concrete 148 = true := by kernel_rfl
@[simp] theorem zero_148 : azero Tryz.prog 148 = some [.int .u64 0] := by kernel_rfl
@[simp] theorem nils_148 : nilPos Tryz.prog 148 = [] := by kernel_rfl
@[simp] theorem app_148 : appOk Tryz.prog 148 = true := by kernel_rfl
@[simp] theorem eby_148 : ebytes Tryz.prog 148 = 8 := by kernel_rfl
@[simp] theorem info_152 : (Tryz.prog.info? 152).isSome = true := by kernel_rfl
@[simp] theorem agg_152 : aggO Tryz.prog 152 = some false := by kernel_rfl
@[simp] theorem esz_152 : esz Tryz.prog 152 = 1 := by kernel_rfl
@[simp] theorem elem_152 : elemT Tryz.prog 152 = some 3 := by kernel_rfl
@[simp] theorem conc_152 : Tryz.prog.concrete 152 = true := by kernel_rfl
@[simp] theorem zero_152 : azero Tryz.prog 152 = some [.slice []] := by kernel_rfl
@[simp] theorem nils_152 : nilPos Tryz.prog 152 = [0] := by kernel_rfl
@[simp] theorem app_152 : appOk Tryz.prog 152 = true := by kernel_rfl
@[simp] theorem eby_152 : ebytes Tryz.prog 152 = 24 := by kernel_rfl
theorem mixed : Tryz.prog.follows .mixedOrders = true := by kernel_rfl
end Pt
end Go.Proofs.YtdifpfehijnmiaaGreatDoor
