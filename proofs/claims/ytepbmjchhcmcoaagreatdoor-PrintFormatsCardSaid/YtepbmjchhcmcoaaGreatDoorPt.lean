/- The closed facts on the types of this translation that the walk asks; made by program. -/
import Derived.Test.YtepbmjchhcmcoaaGreatDoorProg
import Derived.Test.YtepbmjchhcmcoaaGreatDoorPvOc
import Derived.KernelRfl
set_option linter.all false
namespace Go.Proofs.YtepbmjchhcmcoaaGreatDoor
open Go Go.Pv
namespace Pt
@[simp] theorem info_1 : (Tryz.prog.info? 1).isSome = true := by kernel_rfl
@[simp] theorem agg_1 : aggO Tryz.prog 1 = some false := by kernel_rfl
@[simp] theorem esz_1 : esz Tryz.prog 1 = 1 := by kernel_rfl
@[simp] theorem funct_1 : funcT Tryz.prog 1 = true := by kernel_rfl
@[simp] theorem conc_1 : Tryz.prog.concrete 1 = true := by kernel_rfl
@[simp] theorem zero_1 : azero Tryz.prog 1 = some [.nilFunc] := by kernel_rfl
@[simp] theorem nils_1 : nilPos Tryz.prog 1 = [] := by kernel_rfl
@[simp] theorem app_1 : appOk Tryz.prog 1 = true := by kernel_rfl
@[simp] theorem eby_1 : ebytes Tryz.prog 1 = 8 := by kernel_rfl
@[simp] theorem info_2 : (Tryz.prog.info? 2).isSome = true := by kernel_rfl
@[simp] theorem agg_2 : aggO Tryz.prog 2 = some false := by kernel_rfl
@[simp] theorem esz_2 : esz Tryz.prog 2 = 1 := by kernel_rfl
@[simp] theorem ikind_2 : ikind Tryz.prog 2 = some .i64 := by kernel_rfl
@[simp] theorem under_2 : Tryz.prog.underlying 2 = some (.int .i64) := by kernel_rfl
@[simp] theorem conc_2 : Tryz.prog.concrete 2 = true := by kernel_rfl
@[simp] theorem zero_2 : azero Tryz.prog 2 = some [.int .i64 0] := by kernel_rfl
@[simp] theorem nils_2 : nilPos Tryz.prog 2 = [] := by kernel_rfl
@[simp] theorem app_2 : appOk Tryz.prog 2 = true := by kernel_rfl
@[simp] theorem eby_2 : ebytes Tryz.prog 2 = 8 := by kernel_rfl
@[simp] theorem info_3 : (Tryz.prog.info? 3).isSome = true := by kernel_rfl
@[simp] theorem agg_3 : aggO Tryz.prog 3 = some false := by kernel_rfl
@[simp] theorem esz_3 : esz Tryz.prog 3 = 1 := by kernel_rfl
@[simp] theorem ikind_3 : ikind Tryz.prog 3 = some .i64 := by kernel_rfl
@[simp] theorem under_3 : Tryz.prog.underlying 3 = some (.int .i64) := by kernel_rfl
@[simp] theorem conc_3 : Tryz.prog.concrete 3 = true := by kernel_rfl
@[simp] theorem zero_3 : azero Tryz.prog 3 = some [.int .i64 0] := by kernel_rfl
@[simp] theorem nils_3 : nilPos Tryz.prog 3 = [] := by kernel_rfl
@[simp] theorem app_3 : appOk Tryz.prog 3 = true := by kernel_rfl
@[simp] theorem eby_3 : ebytes Tryz.prog 3 = 8 := by kernel_rfl
@[simp] theorem info_4 : (Tryz.prog.info? 4).isSome = true := by kernel_rfl
@[simp] theorem agg_4 : aggO Tryz.prog 4 = some false := by kernel_rfl
@[simp] theorem esz_4 : esz Tryz.prog 4 = 1 := by kernel_rfl
@[simp] theorem under_4 : Tryz.prog.underlying 4 = some .bool := by kernel_rfl
@[simp] theorem boolt_4 : boolT Tryz.prog 4 = true := by kernel_rfl
@[simp] theorem conc_4 : Tryz.prog.concrete 4 = true := by kernel_rfl
@[simp] theorem zero_4 : azero Tryz.prog 4 = some [.bool false] := by kernel_rfl
@[simp] theorem nils_4 : nilPos Tryz.prog 4 = [] := by kernel_rfl
@[simp] theorem app_4 : appOk Tryz.prog 4 = true := by kernel_rfl
@[simp] theorem eby_4 : ebytes Tryz.prog 4 = 1 := by kernel_rfl
@[simp] theorem info_5 : (Tryz.prog.info? 5).isSome = true := by kernel_rfl
@[simp] theorem agg_5 : aggO Tryz.prog 5 = some false := by kernel_rfl
@[simp] theorem esz_5 : esz Tryz.prog 5 = 1 := by kernel_rfl
@[simp] theorem ikind_5 : ikind Tryz.prog 5 = some .u8 := by kernel_rfl
@[simp] theorem under_5 : Tryz.prog.underlying 5 = some (.int .u8) := by kernel_rfl
@[simp] theorem conc_5 : Tryz.prog.concrete 5 = true := by kernel_rfl
@[simp] theorem zero_5 : azero Tryz.prog 5 = some [.int .u8 0] := by kernel_rfl
@[simp] theorem nils_5 : nilPos Tryz.prog 5 = [] := by kernel_rfl
@[simp] theorem app_5 : appOk Tryz.prog 5 = true := by kernel_rfl
@[simp] theorem eby_5 : ebytes Tryz.prog 5 = 1 := by kernel_rfl
@[simp] theorem info_6 : (Tryz.prog.info? 6).isSome = true := by kernel_rfl
@[simp] theorem agg_6 : aggO Tryz.prog 6 = some false := by kernel_rfl
@[simp] theorem esz_6 : esz Tryz.prog 6 = 1 := by kernel_rfl
@[simp] theorem ikind_6 : ikind Tryz.prog 6 = some .u8 := by kernel_rfl
@[simp] theorem under_6 : Tryz.prog.underlying 6 = some (.int .u8) := by kernel_rfl
@[simp] theorem conc_6 : Tryz.prog.concrete 6 = true := by kernel_rfl
@[simp] theorem zero_6 : azero Tryz.prog 6 = some [.int .u8 0] := by kernel_rfl
@[simp] theorem nils_6 : nilPos Tryz.prog 6 = [] := by kernel_rfl
@[simp] theorem app_6 : appOk Tryz.prog 6 = true := by kernel_rfl
@[simp] theorem eby_6 : ebytes Tryz.prog 6 = 1 := by kernel_rfl
@[simp] theorem info_7 : (Tryz.prog.info? 7).isSome = true := by kernel_rfl
@[simp] theorem agg_7 : aggO Tryz.prog 7 = some true := by kernel_rfl
@[simp] theorem esz_7 : esz Tryz.prog 7 = 4 := by kernel_rfl
@[simp] theorem conc_7 : Tryz.prog.concrete 7 = true := by kernel_rfl
@[simp] theorem foff_7_0 : foff Tryz.prog 7 0 = some 0 := by kernel_rfl
@[simp] theorem ftyp_7_0 : ftyp Tryz.prog 7 0 = 2 := by kernel_rfl
@[simp] theorem foff_7_1 : foff Tryz.prog 7 1 = some 1 := by kernel_rfl
@[simp] theorem ftyp_7_1 : ftyp Tryz.prog 7 1 = 3 := by kernel_rfl
@[simp] theorem foff_7_2 : foff Tryz.prog 7 2 = some 2 := by kernel_rfl
@[simp] theorem ftyp_7_2 : ftyp Tryz.prog 7 2 = 4 := by kernel_rfl
@[simp] theorem foff_7_3 : foff Tryz.prog 7 3 = some 3 := by kernel_rfl
@[simp] theorem ftyp_7_3 : ftyp Tryz.prog 7 3 = 6 := by kernel_rfl
@[simp] theorem known_7 : knownF Tryz.prog 7 = true := by kernel_rfl
@[simp] theorem zero_7 : azero Tryz.prog 7 = some [.int .i64 0, .int .i64 0, .bool false, .int .u8 0] := by kernel_rfl
@[simp] theorem nils_7 : nilPos Tryz.prog 7 = [] := by kernel_rfl
@[simp] theorem app_7 : appOk Tryz.prog 7 = true := by kernel_rfl
@[simp] theorem eby_7 : ebytes Tryz.prog 7 = 24 := by kernel_rfl
@[simp] theorem info_8 : (Tryz.prog.info? 8).isSome = true := by kernel_rfl
@[simp] theorem agg_8 : aggO Tryz.prog 8 = some true := by kernel_rfl
@[simp] theorem esz_8 : esz Tryz.prog 8 = 4 := by kernel_rfl
@[simp] theorem conc_8 : Tryz.prog.concrete 8 = true := by kernel_rfl
@[simp] theorem foff_8_0 : foff Tryz.prog 8 0 = some 0 := by kernel_rfl
@[simp] theorem ftyp_8_0 : ftyp Tryz.prog 8 0 = 2 := by kernel_rfl
@[simp] theorem foff_8_1 : foff Tryz.prog 8 1 = some 1 := by kernel_rfl
@[simp] theorem ftyp_8_1 : ftyp Tryz.prog 8 1 = 3 := by kernel_rfl
@[simp] theorem foff_8_2 : foff Tryz.prog 8 2 = some 2 := by kernel_rfl
@[simp] theorem ftyp_8_2 : ftyp Tryz.prog 8 2 = 4 := by kernel_rfl
@[simp] theorem foff_8_3 : foff Tryz.prog 8 3 = some 3 := by kernel_rfl
@[simp] theorem ftyp_8_3 : ftyp Tryz.prog 8 3 = 6 := by kernel_rfl
@[simp] theorem known_8 : knownF Tryz.prog 8 = true := by kernel_rfl
@[simp] theorem zero_8 : azero Tryz.prog 8 = some [.int .i64 0, .int .i64 0, .bool false, .int .u8 0] := by kernel_rfl
@[simp] theorem nils_8 : nilPos Tryz.prog 8 = [] := by kernel_rfl
@[simp] theorem app_8 : appOk Tryz.prog 8 = true := by kernel_rfl
@[simp] theorem eby_8 : ebytes Tryz.prog 8 = 24 := by kernel_rfl
@[simp] theorem info_9 : (Tryz.prog.info? 9).isSome = true := by kernel_rfl
@[simp] theorem agg_9 : aggO Tryz.prog 9 = some false := by kernel_rfl
@[simp] theorem esz_9 : esz Tryz.prog 9 = 1 := by kernel_rfl
@[simp] theorem under_9 : Tryz.prog.underlying 9 = some .string := by kernel_rfl
@[simp] theorem strt_9 : strT Tryz.prog 9 = true := by kernel_rfl
@[simp] theorem strb_9 : strB Tryz.prog 9 = true := by kernel_rfl
@[simp] theorem conc_9 : Tryz.prog.concrete 9 = true := by kernel_rfl
@[simp] theorem zero_9 : azero Tryz.prog 9 = some [.str []] := by kernel_rfl
@[simp] theorem nils_9 : nilPos Tryz.prog 9 = [] := by kernel_rfl
@[simp] theorem app_9 : appOk Tryz.prog 9 = true := by kernel_rfl
@[simp] theorem eby_9 : ebytes Tryz.prog 9 = 16 := by kernel_rfl
@[simp] theorem info_17 : (Tryz.prog.info? 17).isSome = true := by kernel_rfl
@[simp] theorem agg_17 : aggO Tryz.prog 17 = some false := by kernel_rfl
@[simp] theorem esz_17 : esz Tryz.prog 17 = 1 := by kernel_rfl
@[simp] theorem conc_17 : Tryz.prog.concrete 17 = true := by kernel_rfl
@[simp] theorem zero_17 : azero Tryz.prog 17 = some [.nilPtr] := by kernel_rfl
@[simp] theorem nils_17 : nilPos Tryz.prog 17 = [] := by kernel_rfl
@[simp] theorem app_17 : appOk Tryz.prog 17 = true := by kernel_rfl
@[simp] theorem eby_17 : ebytes Tryz.prog 17 = 8 := by kernel_rfl
@[simp] theorem info_20 : (Tryz.prog.info? 20).isSome = true := by kernel_rfl
@[simp] theorem agg_20 : aggO Tryz.prog 20 = some false := by kernel_rfl
@[simp] theorem esz_20 : esz Tryz.prog 20 = 1 := by kernel_rfl
@[simp] theorem ifacet_20 : ifaceT Tryz.prog 20 = true := by kernel_rfl
@[simp] theorem zero_20 : azero Tryz.prog 20 = some [.nilIface] := by kernel_rfl
@[simp] theorem nils_20 : nilPos Tryz.prog 20 = [] := by kernel_rfl
@[simp] theorem app_20 : appOk Tryz.prog 20 = true := by kernel_rfl
@[simp] theorem eby_20 : ebytes Tryz.prog 20 = 16 := by kernel_rfl
@[simp] theorem info_21 : (Tryz.prog.info? 21).isSome = true := by kernel_rfl
@[simp] theorem agg_21 : aggO Tryz.prog 21 = some false := by kernel_rfl
@[simp] theorem esz_21 : esz Tryz.prog 21 = 1 := by kernel_rfl
@[simp] theorem ikind_21 : ikind Tryz.prog 21 = some .i32 := by kernel_rfl
@[simp] theorem under_21 : Tryz.prog.underlying 21 = some (.int .i32) := by kernel_rfl
@[simp] theorem conc_21 : Tryz.prog.concrete 21 = true := by kernel_rfl
@[simp] theorem zero_21 : azero Tryz.prog 21 = some [.int .i32 0] := by kernel_rfl
@[simp] theorem nils_21 : nilPos Tryz.prog 21 = [] := by kernel_rfl
@[simp] theorem app_21 : appOk Tryz.prog 21 = true := by kernel_rfl
@[simp] theorem eby_21 : ebytes Tryz.prog 21 = 4 := by kernel_rfl
@[simp] theorem info_22 : (Tryz.prog.info? 22).isSome = true := by kernel_rfl
@[simp] theorem agg_22 : aggO Tryz.prog 22 = some false := by kernel_rfl
@[simp] theorem esz_22 : esz Tryz.prog 22 = 1 := by kernel_rfl
@[simp] theorem elem_22 : elemT Tryz.prog 22 = some 43 := by kernel_rfl
@[simp] theorem conc_22 : Tryz.prog.concrete 22 = true := by kernel_rfl
@[simp] theorem zero_22 : azero Tryz.prog 22 = some [.slice []] := by kernel_rfl
@[simp] theorem nils_22 : nilPos Tryz.prog 22 = [0] := by kernel_rfl
@[simp] theorem app_22 : appOk Tryz.prog 22 = true := by kernel_rfl
@[simp] theorem eby_22 : ebytes Tryz.prog 22 = 24 := by kernel_rfl
@[simp] theorem info_23 : (Tryz.prog.info? 23).isSome = true := by kernel_rfl
@[simp] theorem agg_23 : aggO Tryz.prog 23 = some false := by kernel_rfl
@[simp] theorem esz_23 : esz Tryz.prog 23 = 1 := by kernel_rfl
@[simp] theorem elem_23 : elemT Tryz.prog 23 = some 25 := by kernel_rfl
@[simp] theorem conc_23 : Tryz.prog.concrete 23 = true := by kernel_rfl
@[simp] theorem zero_23 : azero Tryz.prog 23 = some [.slice []] := by kernel_rfl
@[simp] theorem nils_23 : nilPos Tryz.prog 23 = [0] := by kernel_rfl
@[simp] theorem app_23 : appOk Tryz.prog 23 = true := by kernel_rfl
@[simp] theorem eby_23 : ebytes Tryz.prog 23 = 24 := by kernel_rfl
@[simp] theorem info_25 : (Tryz.prog.info? 25).isSome = true := by kernel_rfl
@[simp] theorem agg_25 : aggO Tryz.prog 25 = some true := by kernel_rfl
@[simp] theorem esz_25 : esz Tryz.prog 25 = 3 := by kernel_rfl
@[simp] theorem conc_25 : Tryz.prog.concrete 25 = true := by kernel_rfl
@[simp] theorem foff_25_0 : foff Tryz.prog 25 0 = some 0 := by kernel_rfl
@[simp] theorem ftyp_25_0 : ftyp Tryz.prog 25 0 = 9 := by kernel_rfl
@[simp] theorem foff_25_1 : foff Tryz.prog 25 1 = some 1 := by kernel_rfl
@[simp] theorem ftyp_25_1 : ftyp Tryz.prog 25 1 = 23 := by kernel_rfl
@[simp] theorem foff_25_2 : foff Tryz.prog 25 2 = some 2 := by kernel_rfl
@[simp] theorem ftyp_25_2 : ftyp Tryz.prog 25 2 = 3 := by kernel_rfl
@[simp] theorem known_25 : knownF Tryz.prog 25 = true := by kernel_rfl
@[simp] theorem zero_25 : azero Tryz.prog 25 = some [.str [], .slice [], .int .i64 0] := by kernel_rfl
@[simp] theorem nils_25 : nilPos Tryz.prog 25 = [1] := by kernel_rfl
@[simp] theorem app_25 : appOk Tryz.prog 25 = true := by kernel_rfl
@[simp] theorem eby_25 : ebytes Tryz.prog 25 = 48 := by kernel_rfl
@[simp] theorem info_26 : (Tryz.prog.info? 26).isSome = true := by kernel_rfl
@[simp] theorem agg_26 : aggO Tryz.prog 26 = some false := by kernel_rfl
@[simp] theorem esz_26 : esz Tryz.prog 26 = 1 := by kernel_rfl
@[simp] theorem elem_26 : elemT Tryz.prog 26 = some 28 := by kernel_rfl
@[simp] theorem conc_26 : Tryz.prog.concrete 26 = true := by kernel_rfl
@[simp] theorem zero_26 : azero Tryz.prog 26 = some [.slice []] := by kernel_rfl
@[simp] theorem nils_26 : nilPos Tryz.prog 26 = [0] := by kernel_rfl
@[simp] theorem app_26 : appOk Tryz.prog 26 = true := by kernel_rfl
@[simp] theorem eby_26 : ebytes Tryz.prog 26 = 24 := by kernel_rfl
@[simp] theorem info_28 : (Tryz.prog.info? 28).isSome = true := by kernel_rfl
@[simp] theorem agg_28 : aggO Tryz.prog 28 = some true := by kernel_rfl
@[simp] theorem esz_28 : esz Tryz.prog 28 = 8 := by kernel_rfl
@[simp] theorem conc_28 : Tryz.prog.concrete 28 = true := by kernel_rfl
@[simp] theorem foff_28_0 : foff Tryz.prog 28 0 = some 0 := by kernel_rfl
@[simp] theorem ftyp_28_0 : ftyp Tryz.prog 28 0 = 3 := by kernel_rfl
@[simp] theorem foff_28_1 : foff Tryz.prog 28 1 = some 1 := by kernel_rfl
@[simp] theorem ftyp_28_1 : ftyp Tryz.prog 28 1 = 9 := by kernel_rfl
@[simp] theorem foff_28_2 : foff Tryz.prog 28 2 = some 2 := by kernel_rfl
@[simp] theorem ftyp_28_2 : ftyp Tryz.prog 28 2 = 25 := by kernel_rfl
@[simp] theorem foff_28_3 : foff Tryz.prog 28 3 = some 5 := by kernel_rfl
@[simp] theorem ftyp_28_3 : ftyp Tryz.prog 28 3 = 23 := by kernel_rfl
@[simp] theorem foff_28_4 : foff Tryz.prog 28 4 = some 6 := by kernel_rfl
@[simp] theorem ftyp_28_4 : ftyp Tryz.prog 28 4 = 26 := by kernel_rfl
@[simp] theorem foff_28_5 : foff Tryz.prog 28 5 = some 7 := by kernel_rfl
@[simp] theorem ftyp_28_5 : ftyp Tryz.prog 28 5 = 3 := by kernel_rfl
@[simp] theorem known_28 : knownF Tryz.prog 28 = true := by kernel_rfl
@[simp] theorem zero_28 : azero Tryz.prog 28 = some [.int .i64 0, .str [], .str [], .slice [], .int .i64 0, .slice [], .slice [], .int .i64 0] := by kernel_rfl
@[simp] theorem nils_28 : nilPos Tryz.prog 28 = [3, 5, 6] := by kernel_rfl
@[simp] theorem app_28 : appOk Tryz.prog 28 = true := by kernel_rfl
@[simp] theorem eby_28 : ebytes Tryz.prog 28 = 128 := by kernel_rfl
@[simp] theorem info_30 : (Tryz.prog.info? 30).isSome = true := by kernel_rfl
@[simp] theorem agg_30 : aggO Tryz.prog 30 = some true := by kernel_rfl
@[simp] theorem esz_30 : esz Tryz.prog 30 = 9 := by kernel_rfl
@[simp] theorem conc_30 : Tryz.prog.concrete 30 = true := by kernel_rfl
@[simp] theorem foff_30_0 : foff Tryz.prog 30 0 = some 0 := by kernel_rfl
@[simp] theorem ftyp_30_0 : ftyp Tryz.prog 30 0 = 22 := by kernel_rfl
@[simp] theorem foff_30_1 : foff Tryz.prog 30 1 = some 1 := by kernel_rfl
@[simp] theorem ftyp_30_1 : ftyp Tryz.prog 30 1 = 28 := by kernel_rfl
@[simp] theorem known_30 : knownF Tryz.prog 30 = true := by kernel_rfl
@[simp] theorem zero_30 : azero Tryz.prog 30 = some [.slice [], .int .i64 0, .str [], .str [], .slice [], .int .i64 0, .slice [], .slice [], .int .i64 0] := by kernel_rfl
@[simp] theorem nils_30 : nilPos Tryz.prog 30 = [0, 4, 6, 7] := by kernel_rfl
@[simp] theorem app_30 : appOk Tryz.prog 30 = true := by kernel_rfl
@[simp] theorem eby_30 : ebytes Tryz.prog 30 = 152 := by kernel_rfl
@[simp] theorem info_36 : (Tryz.prog.info? 36).isSome = true := by kernel_rfl
@[simp] theorem agg_36 : aggO Tryz.prog 36 = some false := by kernel_rfl
@[simp] theorem esz_36 : esz Tryz.prog 36 = 1 := by kernel_rfl
@[simp] theorem elem_36 : elemT Tryz.prog 36 = some 69 := by kernel_rfl
@[simp] theorem conc_36 : Tryz.prog.concrete 36 = true := by kernel_rfl
@[simp] theorem zero_36 : azero Tryz.prog 36 = some [.slice []] := by kernel_rfl
@[simp] theorem nils_36 : nilPos Tryz.prog 36 = [0] := by kernel_rfl
@[simp] theorem app_36 : appOk Tryz.prog 36 = true := by kernel_rfl
@[simp] theorem eby_36 : ebytes Tryz.prog 36 = 24 := by kernel_rfl
@[simp] theorem info_37 : (Tryz.prog.info? 37).isSome = true := by kernel_rfl
@[simp] theorem agg_37 : aggO Tryz.prog 37 = some false := by kernel_rfl
@[simp] theorem esz_37 : esz Tryz.prog 37 = 1 := by kernel_rfl
@[simp] theorem elem_37 : elemT Tryz.prog 37 = some 65 := by kernel_rfl
@[simp] theorem conc_37 : Tryz.prog.concrete 37 = true := by kernel_rfl
@[simp] theorem zero_37 : azero Tryz.prog 37 = some [.slice []] := by kernel_rfl
@[simp] theorem nils_37 : nilPos Tryz.prog 37 = [0] := by kernel_rfl
@[simp] theorem app_37 : appOk Tryz.prog 37 = true := by kernel_rfl
@[simp] theorem eby_37 : ebytes Tryz.prog 37 = 24 := by kernel_rfl
@[simp] theorem info_38 : (Tryz.prog.info? 38).isSome = true := by kernel_rfl
@[simp] theorem agg_38 : aggO Tryz.prog 38 = some false := by kernel_rfl
@[simp] theorem esz_38 : esz Tryz.prog 38 = 1 := by kernel_rfl
@[simp] theorem elem_38 : elemT Tryz.prog 38 = some 41 := by kernel_rfl
@[simp] theorem conc_38 : Tryz.prog.concrete 38 = true := by kernel_rfl
@[simp] theorem zero_38 : azero Tryz.prog 38 = some [.slice []] := by kernel_rfl
@[simp] theorem nils_38 : nilPos Tryz.prog 38 = [0] := by kernel_rfl
@[simp] theorem app_38 : appOk Tryz.prog 38 = true := by kernel_rfl
@[simp] theorem eby_38 : ebytes Tryz.prog 38 = 24 := by kernel_rfl
@[simp] theorem info_39 : (Tryz.prog.info? 39).isSome = true := by kernel_rfl
@[simp] theorem agg_39 : aggO Tryz.prog 39 = some false := by kernel_rfl
@[simp] theorem esz_39 : esz Tryz.prog 39 = 1 := by kernel_rfl
@[simp] theorem elem_39 : elemT Tryz.prog 39 = some 9 := by kernel_rfl
@[simp] theorem conc_39 : Tryz.prog.concrete 39 = true := by kernel_rfl
@[simp] theorem zero_39 : azero Tryz.prog 39 = some [.slice []] := by kernel_rfl
@[simp] theorem nils_39 : nilPos Tryz.prog 39 = [0] := by kernel_rfl
@[simp] theorem app_39 : appOk Tryz.prog 39 = true := by kernel_rfl
@[simp] theorem eby_39 : ebytes Tryz.prog 39 = 24 := by kernel_rfl
@[simp] theorem info_41 : (Tryz.prog.info? 41).isSome = true := by kernel_rfl
@[simp] theorem agg_41 : aggO Tryz.prog 41 = some true := by kernel_rfl
@[simp] theorem esz_41 : esz Tryz.prog 41 = 7 := by kernel_rfl
@[simp] theorem conc_41 : Tryz.prog.concrete 41 = true := by kernel_rfl
@[simp] theorem foff_41_0 : foff Tryz.prog 41 0 = some 0 := by kernel_rfl
@[simp] theorem ftyp_41_0 : ftyp Tryz.prog 41 0 = 9 := by kernel_rfl
@[simp] theorem foff_41_1 : foff Tryz.prog 41 1 = some 1 := by kernel_rfl
@[simp] theorem ftyp_41_1 : ftyp Tryz.prog 41 1 = 36 := by kernel_rfl
@[simp] theorem foff_41_2 : foff Tryz.prog 41 2 = some 2 := by kernel_rfl
@[simp] theorem ftyp_41_2 : ftyp Tryz.prog 41 2 = 37 := by kernel_rfl
@[simp] theorem foff_41_3 : foff Tryz.prog 41 3 = some 3 := by kernel_rfl
@[simp] theorem ftyp_41_3 : ftyp Tryz.prog 41 3 = 25 := by kernel_rfl
@[simp] theorem foff_41_4 : foff Tryz.prog 41 4 = some 6 := by kernel_rfl
@[simp] theorem ftyp_41_4 : ftyp Tryz.prog 41 4 = 3 := by kernel_rfl
@[simp] theorem known_41 : knownF Tryz.prog 41 = true := by kernel_rfl
@[simp] theorem zero_41 : azero Tryz.prog 41 = some [.str [], .slice [], .slice [], .str [], .slice [], .int .i64 0, .int .i64 0] := by kernel_rfl
@[simp] theorem nils_41 : nilPos Tryz.prog 41 = [1, 2, 4] := by kernel_rfl
@[simp] theorem app_41 : appOk Tryz.prog 41 = true := by kernel_rfl
@[simp] theorem eby_41 : ebytes Tryz.prog 41 = 120 := by kernel_rfl
@[simp] theorem info_43 : (Tryz.prog.info? 43).isSome = true := by kernel_rfl
@[simp] theorem agg_43 : aggO Tryz.prog 43 = some true := by kernel_rfl
@[simp] theorem esz_43 : esz Tryz.prog 43 = 23 := by kernel_rfl
@[simp] theorem conc_43 : Tryz.prog.concrete 43 = true := by kernel_rfl
@[simp] theorem foff_43_0 : foff Tryz.prog 43 0 = some 0 := by kernel_rfl
@[simp] theorem ftyp_43_0 : ftyp Tryz.prog 43 0 = 3 := by kernel_rfl
@[simp] theorem foff_43_1 : foff Tryz.prog 43 1 = some 1 := by kernel_rfl
@[simp] theorem ftyp_43_1 : ftyp Tryz.prog 43 1 = 9 := by kernel_rfl
@[simp] theorem foff_43_2 : foff Tryz.prog 43 2 = some 2 := by kernel_rfl
@[simp] theorem ftyp_43_2 : ftyp Tryz.prog 43 2 = 36 := by kernel_rfl
@[simp] theorem foff_43_3 : foff Tryz.prog 43 3 = some 3 := by kernel_rfl
@[simp] theorem ftyp_43_3 : ftyp Tryz.prog 43 3 = 37 := by kernel_rfl
@[simp] theorem foff_43_4 : foff Tryz.prog 43 4 = some 4 := by kernel_rfl
@[simp] theorem ftyp_43_4 : ftyp Tryz.prog 43 4 = 38 := by kernel_rfl
@[simp] theorem foff_43_5 : foff Tryz.prog 43 5 = some 5 := by kernel_rfl
@[simp] theorem ftyp_43_5 : ftyp Tryz.prog 43 5 = 9 := by kernel_rfl
@[simp] theorem foff_43_6 : foff Tryz.prog 43 6 = some 6 := by kernel_rfl
@[simp] theorem ftyp_43_6 : ftyp Tryz.prog 43 6 = 39 := by kernel_rfl
@[simp] theorem foff_43_7 : foff Tryz.prog 43 7 = some 7 := by kernel_rfl
@[simp] theorem ftyp_43_7 : ftyp Tryz.prog 43 7 = 41 := by kernel_rfl
@[simp] theorem foff_43_8 : foff Tryz.prog 43 8 = some 14 := by kernel_rfl
@[simp] theorem ftyp_43_8 : ftyp Tryz.prog 43 8 = 28 := by kernel_rfl
@[simp] theorem foff_43_9 : foff Tryz.prog 43 9 = some 22 := by kernel_rfl
@[simp] theorem ftyp_43_9 : ftyp Tryz.prog 43 9 = 3 := by kernel_rfl
@[simp] theorem known_43 : knownF Tryz.prog 43 = true := by kernel_rfl
@[simp] theorem zero_43 : azero Tryz.prog 43 = some [.int .i64 0, .str [], .slice [], .slice [], .slice [], .str [], .slice [], .str [], .slice [], .slice [], .str [], .slice [], .int .i64 0, .int .i64 0, .int .i64 0, .str [], .str [], .slice [], .int .i64 0, .slice [], .slice [], .int .i64 0, .int .i64 0] := by kernel_rfl
@[simp] theorem nils_43 : nilPos Tryz.prog 43 = [2, 3, 4, 6, 8, 9, 11, 17, 19, 20] := by kernel_rfl
@[simp] theorem app_43 : appOk Tryz.prog 43 = true := by kernel_rfl
@[simp] theorem eby_43 : ebytes Tryz.prog 43 = 392 := by kernel_rfl
@[simp] theorem info_45 : (Tryz.prog.info? 45).isSome = true := by kernel_rfl
@[simp] theorem agg_45 : aggO Tryz.prog 45 = some false := by kernel_rfl
@[simp] theorem esz_45 : esz Tryz.prog 45 = 1 := by kernel_rfl
@[simp] theorem ifacet_45 : ifaceT Tryz.prog 45 = true := by kernel_rfl
@[simp] theorem zero_45 : azero Tryz.prog 45 = some [.nilIface] := by kernel_rfl
@[simp] theorem nils_45 : nilPos Tryz.prog 45 = [] := by kernel_rfl
@[simp] theorem app_45 : appOk Tryz.prog 45 = true := by kernel_rfl
@[simp] theorem eby_45 : ebytes Tryz.prog 45 = 16 := by kernel_rfl
@[simp] theorem info_50 : (Tryz.prog.info? 50).isSome = true := by kernel_rfl
@[simp] theorem agg_50 : aggO Tryz.prog 50 = some false := by kernel_rfl
@[simp] theorem esz_50 : esz Tryz.prog 50 = 1 := by kernel_rfl
@[simp] theorem ikind_50 : ikind Tryz.prog 50 = some .i64 := by kernel_rfl
@[simp] theorem under_50 : Tryz.prog.underlying 50 = some (.int .i64) := by kernel_rfl
@[simp] theorem conc_50 : Tryz.prog.concrete 50 = true := by kernel_rfl
@[simp] theorem zero_50 : azero Tryz.prog 50 = some [.int .i64 0] := by kernel_rfl
@[simp] theorem nils_50 : nilPos Tryz.prog 50 = [] := by kernel_rfl
@[simp] theorem app_50 : appOk Tryz.prog 50 = true := by kernel_rfl
@[simp] theorem eby_50 : ebytes Tryz.prog 50 = 8 := by kernel_rfl
@[simp] theorem info_65 : (Tryz.prog.info? 65).isSome = true := by kernel_rfl
@[simp] theorem agg_65 : aggO Tryz.prog 65 = some true := by kernel_rfl
@[simp] theorem esz_65 : esz Tryz.prog 65 = 5 := by kernel_rfl
@[simp] theorem conc_65 : Tryz.prog.concrete 65 = true := by kernel_rfl
@[simp] theorem foff_65_0 : foff Tryz.prog 65 0 = some 0 := by kernel_rfl
@[simp] theorem ftyp_65_0 : ftyp Tryz.prog 65 0 = 9 := by kernel_rfl
@[simp] theorem foff_65_1 : foff Tryz.prog 65 1 = some 1 := by kernel_rfl
@[simp] theorem ftyp_65_1 : ftyp Tryz.prog 65 1 = 25 := by kernel_rfl
@[simp] theorem foff_65_2 : foff Tryz.prog 65 2 = some 4 := by kernel_rfl
@[simp] theorem ftyp_65_2 : ftyp Tryz.prog 65 2 = 3 := by kernel_rfl
@[simp] theorem known_65 : knownF Tryz.prog 65 = true := by kernel_rfl
@[simp] theorem zero_65 : azero Tryz.prog 65 = some [.str [], .str [], .slice [], .int .i64 0, .int .i64 0] := by kernel_rfl
@[simp] theorem nils_65 : nilPos Tryz.prog 65 = [2] := by kernel_rfl
@[simp] theorem app_65 : appOk Tryz.prog 65 = true := by kernel_rfl
@[simp] theorem eby_65 : ebytes Tryz.prog 65 = 72 := by kernel_rfl
@[simp] theorem info_69 : (Tryz.prog.info? 69).isSome = true := by kernel_rfl
@[simp] theorem agg_69 : aggO Tryz.prog 69 = some true := by kernel_rfl
@[simp] theorem esz_69 : esz Tryz.prog 69 = 5 := by kernel_rfl
@[simp] theorem conc_69 : Tryz.prog.concrete 69 = true := by kernel_rfl
@[simp] theorem foff_69_0 : foff Tryz.prog 69 0 = some 0 := by kernel_rfl
@[simp] theorem ftyp_69_0 : ftyp Tryz.prog 69 0 = 9 := by kernel_rfl
@[simp] theorem foff_69_1 : foff Tryz.prog 69 1 = some 1 := by kernel_rfl
@[simp] theorem ftyp_69_1 : ftyp Tryz.prog 69 1 = 25 := by kernel_rfl
@[simp] theorem foff_69_2 : foff Tryz.prog 69 2 = some 4 := by kernel_rfl
@[simp] theorem ftyp_69_2 : ftyp Tryz.prog 69 2 = 3 := by kernel_rfl
@[simp] theorem known_69 : knownF Tryz.prog 69 = true := by kernel_rfl
@[simp] theorem zero_69 : azero Tryz.prog 69 = some [.str [], .str [], .slice [], .int .i64 0, .int .i64 0] := by kernel_rfl
@[simp] theorem nils_69 : nilPos Tryz.prog 69 = [2] := by kernel_rfl
@[simp] theorem app_69 : appOk Tryz.prog 69 = true := by kernel_rfl
@[simp] theorem eby_69 : ebytes Tryz.prog 69 = 72 := by kernel_rfl
@[simp] theorem info_75 : (Tryz.prog.info? 75).isSome = true := by kernel_rfl
@[simp] theorem agg_75 : aggO Tryz.prog 75 = some false := by kernel_rfl
@[simp] theorem esz_75 : esz Tryz.prog 75 = 1 := by kernel_rfl
@[simp] theorem elem_75 : elemT Tryz.prog 75 = some 121 := by kernel_rfl
@[simp] theorem conc_75 : Tryz.prog.concrete 75 = true := by kernel_rfl
@[simp] theorem zero_75 : azero Tryz.prog 75 = some [.slice []] := by kernel_rfl
@[simp] theorem nils_75 : nilPos Tryz.prog 75 = [0] := by kernel_rfl
@[simp] theorem app_75 : appOk Tryz.prog 75 = true := by kernel_rfl
@[simp] theorem eby_75 : ebytes Tryz.prog 75 = 24 := by kernel_rfl
@[simp] theorem info_77 : (Tryz.prog.info? 77).isSome = true := by kernel_rfl
@[simp] theorem agg_77 : aggO Tryz.prog 77 = some true := by kernel_rfl
@[simp] theorem esz_77 : esz Tryz.prog 77 = 3 := by kernel_rfl
@[simp] theorem conc_77 : Tryz.prog.concrete 77 = true := by kernel_rfl
@[simp] theorem foff_77_0 : foff Tryz.prog 77 0 = some 0 := by kernel_rfl
@[simp] theorem ftyp_77_0 : ftyp Tryz.prog 77 0 = 75 := by kernel_rfl
@[simp] theorem foff_77_1 : foff Tryz.prog 77 1 = some 1 := by kernel_rfl
@[simp] theorem ftyp_77_1 : ftyp Tryz.prog 77 1 = 3 := by kernel_rfl
@[simp] theorem foff_77_2 : foff Tryz.prog 77 2 = some 2 := by kernel_rfl
@[simp] theorem ftyp_77_2 : ftyp Tryz.prog 77 2 = 4 := by kernel_rfl
@[simp] theorem known_77 : knownF Tryz.prog 77 = true := by kernel_rfl
@[simp] theorem zero_77 : azero Tryz.prog 77 = some [.slice [], .int .i64 0, .bool false] := by kernel_rfl
@[simp] theorem nils_77 : nilPos Tryz.prog 77 = [0] := by kernel_rfl
@[simp] theorem app_77 : appOk Tryz.prog 77 = true := by kernel_rfl
@[simp] theorem eby_77 : ebytes Tryz.prog 77 = 40 := by kernel_rfl
@[simp] theorem info_90 : (Tryz.prog.info? 90).isSome = true := by kernel_rfl
@[simp] theorem agg_90 : aggO Tryz.prog 90 = some false := by kernel_rfl
@[simp] theorem esz_90 : esz Tryz.prog 90 = 1 := by kernel_rfl
@[simp] theorem conc_90 : Tryz.prog.concrete 90 = true := by kernel_rfl
@[simp] theorem zero_90 : azero Tryz.prog 90 = some [.nilPtr] := by kernel_rfl
@[simp] theorem nils_90 : nilPos Tryz.prog 90 = [] := by kernel_rfl
@[simp] theorem app_90 : appOk Tryz.prog 90 = true := by kernel_rfl
@[simp] theorem eby_90 : ebytes Tryz.prog 90 = 8 := by kernel_rfl
@[simp] theorem info_92 : (Tryz.prog.info? 92).isSome = true := by kernel_rfl
@[simp] theorem agg_92 : aggO Tryz.prog 92 = some true := by kernel_rfl
@[simp] theorem esz_92 : esz Tryz.prog 92 = 2 := by kernel_rfl
@[simp] theorem conc_92 : Tryz.prog.concrete 92 = true := by kernel_rfl
@[simp] theorem foff_92_0 : foff Tryz.prog 92 0 = some 0 := by kernel_rfl
@[simp] theorem ftyp_92_0 : ftyp Tryz.prog 92 0 = 50 := by kernel_rfl
@[simp] theorem foff_92_1 : foff Tryz.prog 92 1 = some 1 := by kernel_rfl
@[simp] theorem ftyp_92_1 : ftyp Tryz.prog 92 1 = 3 := by kernel_rfl
@[simp] theorem known_92 : knownF Tryz.prog 92 = true := by kernel_rfl
@[simp] theorem flats_92 : flatS Tryz.prog 92 = some [50, 3] := by kernel_rfl
@[simp] theorem zero_92 : azero Tryz.prog 92 = some [.int .i64 0, .int .i64 0] := by kernel_rfl
@[simp] theorem nils_92 : nilPos Tryz.prog 92 = [] := by kernel_rfl
@[simp] theorem app_92 : appOk Tryz.prog 92 = true := by kernel_rfl
@[simp] theorem eby_92 : ebytes Tryz.prog 92 = 16 := by kernel_rfl
@[simp] theorem info_93 : (Tryz.prog.info? 93).isSome = true := by kernel_rfl
@[simp] theorem agg_93 : aggO Tryz.prog 93 = some false := by kernel_rfl
@[simp] theorem esz_93 : esz Tryz.prog 93 = 1 := by kernel_rfl
@[simp] theorem conc_93 : Tryz.prog.concrete 93 = true := by kernel_rfl
@[simp] theorem zero_93 : azero Tryz.prog 93 = some [.nilPtr] := by kernel_rfl
@[simp] theorem nils_93 : nilPos Tryz.prog 93 = [] := by kernel_rfl
@[simp] theorem app_93 : appOk Tryz.prog 93 = true := by kernel_rfl
@[simp] theorem eby_93 : ebytes Tryz.prog 93 = 8 := by kernel_rfl
@[simp] theorem info_118 : (Tryz.prog.info? 118).isSome = true := by kernel_rfl
@[simp] theorem agg_118 : aggO Tryz.prog 118 = some true := by kernel_rfl
@[simp] theorem esz_118 : esz Tryz.prog 118 = 2 := by kernel_rfl
@[simp] theorem conc_118 : Tryz.prog.concrete 118 = true := by kernel_rfl
@[simp] theorem foff_118_0 : foff Tryz.prog 118 0 = some 0 := by kernel_rfl
@[simp] theorem ftyp_118_0 : ftyp Tryz.prog 118 0 = 75 := by kernel_rfl
@[simp] theorem foff_118_1 : foff Tryz.prog 118 1 = some 1 := by kernel_rfl
@[simp] theorem ftyp_118_1 : ftyp Tryz.prog 118 1 = 3 := by kernel_rfl
@[simp] theorem known_118 : knownF Tryz.prog 118 = true := by kernel_rfl
@[simp] theorem zero_118 : azero Tryz.prog 118 = some [.slice [], .int .i64 0] := by kernel_rfl
@[simp] theorem nils_118 : nilPos Tryz.prog 118 = [0] := by kernel_rfl
@[simp] theorem app_118 : appOk Tryz.prog 118 = true := by kernel_rfl
@[simp] theorem eby_118 : ebytes Tryz.prog 118 = 32 := by kernel_rfl
@[simp] theorem info_121 : (Tryz.prog.info? 121).isSome = true := by kernel_rfl
@[simp] theorem agg_121 : aggO Tryz.prog 121 = some true := by kernel_rfl
@[simp] theorem esz_121 : esz Tryz.prog 121 = 3 := by kernel_rfl
@[simp] theorem conc_121 : Tryz.prog.concrete 121 = true := by kernel_rfl
@[simp] theorem foff_121_0 : foff Tryz.prog 121 0 = some 0 := by kernel_rfl
@[simp] theorem ftyp_121_0 : ftyp Tryz.prog 121 0 = 3 := by kernel_rfl
@[simp] theorem foff_121_1 : foff Tryz.prog 121 1 = some 1 := by kernel_rfl
@[simp] theorem ftyp_121_1 : ftyp Tryz.prog 121 1 = 9 := by kernel_rfl
@[simp] theorem foff_121_2 : foff Tryz.prog 121 2 = some 2 := by kernel_rfl
@[simp] theorem ftyp_121_2 : ftyp Tryz.prog 121 2 = 3 := by kernel_rfl
@[simp] theorem known_121 : knownF Tryz.prog 121 = true := by kernel_rfl
@[simp] theorem flats_121 : flatS Tryz.prog 121 = some [3, 9, 3] := by kernel_rfl
@[simp] theorem zero_121 : azero Tryz.prog 121 = some [.int .i64 0, .str [], .int .i64 0] := by kernel_rfl
@[simp] theorem nils_121 : nilPos Tryz.prog 121 = [] := by kernel_rfl
@[simp] theorem app_121 : appOk Tryz.prog 121 = true := by kernel_rfl
@[simp] theorem eby_121 : ebytes Tryz.prog 121 = 32 := by kernel_rfl
@[simp] theorem info_134 : (Tryz.prog.info? 134).isSome = true := by kernel_rfl
@[simp] theorem agg_134 : aggO Tryz.prog 134 = some false := by kernel_rfl
@[simp] theorem esz_134 : esz Tryz.prog 134 = 1 := by kernel_rfl
@[simp] theorem conc_134 : Tryz.prog.concrete 134 = true := by kernel_rfl
@[simp] theorem zero_134 : azero Tryz.prog 134 = some [.nilPtr] := by kernel_rfl
@[simp] theorem nils_134 : nilPos Tryz.prog 134 = [] := by kernel_rfl
@[simp] theorem app_134 : appOk Tryz.prog 134 = true := by kernel_rfl
@[simp] theorem eby_134 : ebytes Tryz.prog 134 = 8 := by kernel_rfl
@[simp] theorem info_135 : (Tryz.prog.info? 135).isSome = true := by kernel_rfl
@[simp] theorem agg_135 : aggO Tryz.prog 135 = some false := by kernel_rfl
@[simp] theorem esz_135 : esz Tryz.prog 135 = 1 := by kernel_rfl
@[simp] theorem ikind_135 : ikind Tryz.prog 135 = some .u64 := by kernel_rfl
@[simp] theorem under_135 : Tryz.prog.underlying 135 = some (.int .u64) := by kernel_rfl
@[simp] theorem conc_135 : Tryz.prog.concrete 135 = true := by kernel_rfl
@[simp] theorem zero_135 : azero Tryz.prog 135 = some [.int .u64 0] := by kernel_rfl
@[simp] theorem nils_135 : nilPos Tryz.prog 135 = [] := by kernel_rfl
@[simp] theorem app_135 : appOk Tryz.prog 135 = true := by kernel_rfl
@[simp] theorem eby_135 : ebytes Tryz.prog 135 = 8 := by kernel_rfl
@[simp] theorem info_137 : (Tryz.prog.info? 137).isSome = true := by kernel_rfl
@[simp] theorem agg_137 : aggO Tryz.prog 137 = some true := by kernel_rfl
@[simp] theorem esz_137 : esz Tryz.prog 137 = 3 := by kernel_rfl
@[simp] theorem conc_137 : Tryz.prog.concrete 137 = true := by kernel_rfl
@[simp] theorem foff_137_0 : foff Tryz.prog 137 0 = some 0 := by kernel_rfl
@[simp] theorem ftyp_137_0 : ftyp Tryz.prog 137 0 = 17 := by kernel_rfl
@[simp] theorem foff_137_1 : foff Tryz.prog 137 1 = some 1 := by kernel_rfl
@[simp] theorem ftyp_137_1 : ftyp Tryz.prog 137 1 = 134 := by kernel_rfl
@[simp] theorem foff_137_2 : foff Tryz.prog 137 2 = some 2 := by kernel_rfl
@[simp] theorem ftyp_137_2 : ftyp Tryz.prog 137 2 = 135 := by kernel_rfl
@[simp] theorem known_137 : knownF Tryz.prog 137 = true := by kernel_rfl
@[simp] theorem zero_137 : azero Tryz.prog 137 = some [.nilPtr, .nilPtr, .int .u64 0] := by kernel_rfl
@[simp] theorem nils_137 : nilPos Tryz.prog 137 = [] := by kernel_rfl
@[simp] theorem app_137 : appOk Tryz.prog 137 = true := by kernel_rfl
@[simp] theorem eby_137 : ebytes Tryz.prog 137 = 24 := by kernel_rfl
@[simp] theorem info_140 : (Tryz.prog.info? 140).isSome = true := by kernel_rfl
@[simp] theorem agg_140 : aggO Tryz.prog 140 = some false := by kernel_rfl
@[simp] theorem esz_140 : esz Tryz.prog 140 = 1 := by kernel_rfl
@[simp] theorem ifacet_140 : ifaceT Tryz.prog 140 = true := by kernel_rfl
@[simp] theorem zero_140 : azero Tryz.prog 140 = some [.nilIface] := by kernel_rfl
@[simp] theorem nils_140 : nilPos Tryz.prog 140 = [] := by kernel_rfl
@[simp] theorem app_140 : appOk Tryz.prog 140 = true := by kernel_rfl
@[simp] theorem eby_140 : ebytes Tryz.prog 140 = 16 := by kernel_rfl
@[simp] theorem info_142 : (Tryz.prog.info? 142).isSome = true := by kernel_rfl
@[simp] theorem agg_142 : aggO Tryz.prog 142 = some false := by kernel_rfl
@[simp] theorem esz_142 : esz Tryz.prog 142 = 1 := by kernel_rfl
@[simp] theorem ikind_142 : ikind Tryz.prog 142 = some .u8 := by kernel_rfl
@[simp] theorem under_142 : Tryz.prog.underlying 142 = some (.int .u8) := by kernel_rfl
@[simp] theorem conc_142 : Tryz.prog.concrete 142 = true := by kernel_rfl
@[simp] theorem zero_142 : azero Tryz.prog 142 = some [.int .u8 0] := by kernel_rfl
@[simp] theorem nils_142 : nilPos Tryz.prog 142 = [] := by kernel_rfl
@[simp] theorem app_142 : appOk Tryz.prog 142 = true := by kernel_rfl
@[simp] theorem eby_142 : ebytes Tryz.prog 142 = 1 := by kernel_rfl
@[simp] theorem info_153 : (Tryz.prog.info? 153).isSome = true := by kernel_rfl
@[simp] theorem agg_153 : aggO Tryz.prog 153 = some false := by kernel_rfl
@[simp] theorem esz_153 : esz Tryz.prog 153 = 1 := by kernel_rfl
@[simp] theorem conc_153 : Tryz.prog.concrete 153 = true := by kernel_rfl
@[simp] theorem zero_153 : azero Tryz.prog 153 = some [.nilPtr] := by kernel_rfl
@[simp] theorem nils_153 : nilPos Tryz.prog 153 = [] := by kernel_rfl
@[simp] theorem app_153 : appOk Tryz.prog 153 = true := by kernel_rfl
@[simp] theorem eby_153 : ebytes Tryz.prog 153 = 8 := by kernel_rfl
@[simp] theorem info_154 : (Tryz.prog.info? 154).isSome = true := by kernel_rfl
@[simp] theorem agg_154 : aggO Tryz.prog 154 = some false := by kernel_rfl
@[simp] theorem esz_154 : esz Tryz.prog 154 = 1 := by kernel_rfl
@[simp] theorem elem_154 : elemT Tryz.prog 154 = some 5 := by kernel_rfl
@[simp] theorem bytest_154 : bytesT Tryz.prog 154 = true := by kernel_rfl
@[simp] theorem conc_154 : Tryz.prog.concrete 154 = true := by kernel_rfl
@[simp] theorem zero_154 : azero Tryz.prog 154 = some [.slice []] := by kernel_rfl
@[simp] theorem nils_154 : nilPos Tryz.prog 154 = [0] := by kernel_rfl
@[simp] theorem app_154 : appOk Tryz.prog 154 = true := by kernel_rfl
@[simp] theorem eby_154 : ebytes Tryz.prog 154 = 24 := by kernel_rfl
@[simp] theorem info_156 : (Tryz.prog.info? 156).isSome = true := by kernel_rfl
@[simp] theorem agg_156 : aggO Tryz.prog 156 = some true := by kernel_rfl
@[simp] theorem esz_156 : esz Tryz.prog 156 = 2 := by kernel_rfl
@[simp] theorem conc_156 : Tryz.prog.concrete 156 = true := by kernel_rfl
@[simp] theorem foff_156_0 : foff Tryz.prog 156 0 = some 0 := by kernel_rfl
@[simp] theorem ftyp_156_0 : ftyp Tryz.prog 156 0 = 153 := by kernel_rfl
@[simp] theorem foff_156_1 : foff Tryz.prog 156 1 = some 1 := by kernel_rfl
@[simp] theorem ftyp_156_1 : ftyp Tryz.prog 156 1 = 154 := by kernel_rfl
@[simp] theorem known_156 : knownF Tryz.prog 156 = true := by kernel_rfl
@[simp] theorem zero_156 : azero Tryz.prog 156 = some [.nilPtr, .slice []] := by kernel_rfl
@[simp] theorem nils_156 : nilPos Tryz.prog 156 = [1] := by kernel_rfl
@[simp] theorem app_156 : appOk Tryz.prog 156 = true := by kernel_rfl
@[simp] theorem eby_156 : ebytes Tryz.prog 156 = 32 := by kernel_rfl
@[simp] theorem info_161 : (Tryz.prog.info? 161).isSome = true := by kernel_rfl
@[simp] theorem agg_161 : aggO Tryz.prog 161 = some false := by kernel_rfl
@[simp] theorem esz_161 : esz Tryz.prog 161 = 1 := by kernel_rfl
@[simp] theorem elem_161 : elemT Tryz.prog 161 = some 192 := by kernel_rfl
@[simp] theorem conc_161 : Tryz.prog.concrete 161 = true := by kernel_rfl
@[simp] theorem zero_161 : azero Tryz.prog 161 = some [.slice []] := by kernel_rfl
@[simp] theorem nils_161 : nilPos Tryz.prog 161 = [0] := by kernel_rfl
@[simp] theorem app_161 : appOk Tryz.prog 161 = true := by kernel_rfl
@[simp] theorem eby_161 : ebytes Tryz.prog 161 = 24 := by kernel_rfl
@[simp] theorem info_164 : (Tryz.prog.info? 164).isSome = true := by kernel_rfl
@[simp] theorem agg_164 : aggO Tryz.prog 164 = some false := by kernel_rfl
@[simp] theorem esz_164 : esz Tryz.prog 164 = 1 := by kernel_rfl
@[simp] theorem conc_164 : Tryz.prog.concrete 164 = true := by kernel_rfl
@[simp] theorem zero_164 : azero Tryz.prog 164 = some [.nilPtr] := by kernel_rfl
@[simp] theorem nils_164 : nilPos Tryz.prog 164 = [] := by kernel_rfl
@[simp] theorem app_164 : appOk Tryz.prog 164 = true := by kernel_rfl
@[simp] theorem eby_164 : ebytes Tryz.prog 164 = 8 := by kernel_rfl
@[simp] theorem info_167 : (Tryz.prog.info? 167).isSome = true := by kernel_rfl
@[simp] theorem agg_167 : aggO Tryz.prog 167 = some true := by kernel_rfl
@[simp] theorem esz_167 : esz Tryz.prog 167 = 1 := by kernel_rfl
@[simp] theorem conc_167 : Tryz.prog.concrete 167 = true := by kernel_rfl
@[simp] theorem foff_167_0 : foff Tryz.prog 167 0 = some 0 := by kernel_rfl
@[simp] theorem ftyp_167_0 : ftyp Tryz.prog 167 0 = 164 := by kernel_rfl
@[simp] theorem known_167 : knownF Tryz.prog 167 = true := by kernel_rfl
@[simp] theorem zero_167 : azero Tryz.prog 167 = some [.nilPtr] := by kernel_rfl
@[simp] theorem nils_167 : nilPos Tryz.prog 167 = [] := by kernel_rfl
@[simp] theorem app_167 : appOk Tryz.prog 167 = true := by kernel_rfl
@[simp] theorem eby_167 : ebytes Tryz.prog 167 = 8 := by kernel_rfl
@[simp] theorem info_192 : (Tryz.prog.info? 192).isSome = true := by kernel_rfl
@[simp] theorem agg_192 : aggO Tryz.prog 192 = some true := by kernel_rfl
@[simp] theorem esz_192 : esz Tryz.prog 192 = 3 := by kernel_rfl
@[simp] theorem conc_192 : Tryz.prog.concrete 192 = true := by kernel_rfl
@[simp] theorem foff_192_0 : foff Tryz.prog 192 0 = some 0 := by kernel_rfl
@[simp] theorem ftyp_192_0 : ftyp Tryz.prog 192 0 = 3 := by kernel_rfl
@[simp] theorem foff_192_1 : foff Tryz.prog 192 1 = some 1 := by kernel_rfl
@[simp] theorem ftyp_192_1 : ftyp Tryz.prog 192 1 = 9 := by kernel_rfl
@[simp] theorem foff_192_2 : foff Tryz.prog 192 2 = some 2 := by kernel_rfl
@[simp] theorem ftyp_192_2 : ftyp Tryz.prog 192 2 = 3 := by kernel_rfl
@[simp] theorem known_192 : knownF Tryz.prog 192 = true := by kernel_rfl
@[simp] theorem flats_192 : flatS Tryz.prog 192 = some [3, 9, 3] := by kernel_rfl
@[simp] theorem zero_192 : azero Tryz.prog 192 = some [.int .i64 0, .str [], .int .i64 0] := by kernel_rfl
@[simp] theorem nils_192 : nilPos Tryz.prog 192 = [] := by kernel_rfl
@[simp] theorem app_192 : appOk Tryz.prog 192 = true := by kernel_rfl
@[simp] theorem eby_192 : ebytes Tryz.prog 192 = 32 := by kernel_rfl
@[simp] theorem info_198 : (Tryz.prog.info? 198).isSome = true := by kernel_rfl
@[simp] theorem agg_198 : aggO Tryz.prog 198 = some true := by kernel_rfl
@[simp] theorem esz_198 : esz Tryz.prog 198 = 2 := by kernel_rfl
@[simp] theorem conc_198 : Tryz.prog.concrete 198 = true := by kernel_rfl
@[simp] theorem foff_198_0 : foff Tryz.prog 198 0 = some 0 := by kernel_rfl
@[simp] theorem ftyp_198_0 : ftyp Tryz.prog 198 0 = 161 := by kernel_rfl
@[simp] theorem foff_198_1 : foff Tryz.prog 198 1 = some 1 := by kernel_rfl
@[simp] theorem ftyp_198_1 : ftyp Tryz.prog 198 1 = 45 := by kernel_rfl
@[simp] theorem known_198 : knownF Tryz.prog 198 = true := by kernel_rfl
@[simp] theorem zero_198 : azero Tryz.prog 198 = some [.slice [], .nilIface] := by kernel_rfl
@[simp] theorem nils_198 : nilPos Tryz.prog 198 = [0] := by kernel_rfl
@[simp] theorem app_198 : appOk Tryz.prog 198 = true := by kernel_rfl
@[simp] theorem eby_198 : ebytes Tryz.prog 198 = 40 := by kernel_rfl
@[simp] theorem info_220 : (Tryz.prog.info? 220).isSome = true := by kernel_rfl
@[simp] theorem agg_220 : aggO Tryz.prog 220 = some true := by kernel_rfl
@[simp] theorem esz_220 : esz Tryz.prog 220 = 7 := by kernel_rfl
@[simp] theorem arrt_220 : arrT Tryz.prog 220 = some (7, 9) := by kernel_rfl
@[simp] theorem conc_220 : Tryz.prog.concrete 220 = true := by kernel_rfl
@[simp] theorem zero_220 : azero Tryz.prog 220 = some [.str [], .str [], .str [], .str [], .str [], .str [], .str []] := by kernel_rfl
@[simp] theorem nils_220 : nilPos Tryz.prog 220 = [] := by kernel_rfl
@[simp] theorem app_220 : appOk Tryz.prog 220 = true := by kernel_rfl
@[simp] theorem eby_220 : ebytes Tryz.prog 220 = 112 := by kernel_rfl
theorem mixed : Tryz.prog.follows .mixedOrders = true := by kernel_rfl
end Pt
end Go.Proofs.YtepbmjchhcmcoaaGreatDoor
