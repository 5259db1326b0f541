/- The closed facts on the types of this translation that the walk asks; made by program. -/
import Derived.Test.YtpjkdaechknogaaGreatDoorProg
import Derived.Test.YtpjkdaechknogaaGreatDoorPvOc
import Derived.KernelRfl
set_option linter.all false
namespace Go.Proofs.YtpjkdaechknogaaGreatDoor
open Go Go.Pv
namespace Pt
@[simp] theorem info_1 : (Tryz.prog.info? 1).isSome = true := by kernel_rfl
@[simp] theorem agg_1 : aggO Tryz.prog 1 = some false := by kernel_rfl
@[simp] theorem esz_1 : esz Tryz.prog 1 = 1 := by kernel_rfl
@[simp] theorem funct_1 : funcT Tryz.prog 1 = true := by kernel_rfl
@[simp] theorem conc_1 : Tryz.prog.concrete 1 = true := by kernel_rfl
@[simp] theorem zero_1 : azero Tryz.prog 1 = some [.nilFunc] := by kernel_rfl
@[simp] theorem nils_1 : nilPos Tryz.prog 1 = [] := by kernel_rfl
@[simp] theorem app_1 : appOk Tryz.prog 1 = true := by kernel_rfl
@[simp] theorem eby_1 : ebytes Tryz.prog 1 = 8 := by kernel_rfl
@[simp] theorem info_2 : (Tryz.prog.info? 2).isSome = true := by kernel_rfl
@[simp] theorem agg_2 : aggO Tryz.prog 2 = some false := by kernel_rfl
@[simp] theorem esz_2 : esz Tryz.prog 2 = 1 := by kernel_rfl
@[simp] theorem ikind_2 : ikind Tryz.prog 2 = some .i64 := by kernel_rfl
@[simp] theorem under_2 : Tryz.prog.underlying 2 = some (.int .i64) := by kernel_rfl
@[simp] theorem conc_2 : Tryz.prog.concrete 2 = true := by kernel_rfl
@[simp] theorem zero_2 : azero Tryz.prog 2 = some [.int .i64 0] := by kernel_rfl
@[simp] theorem nils_2 : nilPos Tryz.prog 2 = [] := by kernel_rfl
@[simp] theorem app_2 : appOk Tryz.prog 2 = true := by kernel_rfl
@[simp] theorem eby_2 : ebytes Tryz.prog 2 = 8 := by kernel_rfl
@[simp] theorem info_3 : (Tryz.prog.info? 3).isSome = true := by kernel_rfl
@[simp] theorem agg_3 : aggO Tryz.prog 3 = some false := by kernel_rfl
@[simp] theorem esz_3 : esz Tryz.prog 3 = 1 := by kernel_rfl
@[simp] theorem ikind_3 : ikind Tryz.prog 3 = some .i64 := by kernel_rfl
@[simp] theorem under_3 : Tryz.prog.underlying 3 = some (.int .i64) := by kernel_rfl
@[simp] theorem conc_3 : Tryz.prog.concrete 3 = true := by kernel_rfl
@[simp] theorem zero_3 : azero Tryz.prog 3 = some [.int .i64 0] := by kernel_rfl
@[simp] theorem nils_3 : nilPos Tryz.prog 3 = [] := by kernel_rfl
@[simp] theorem app_3 : appOk Tryz.prog 3 = true := by kernel_rfl
@[simp] theorem eby_3 : ebytes Tryz.prog 3 = 8 := by kernel_rfl
@[simp] theorem info_4 : (Tryz.prog.info? 4).isSome = true := by kernel_rfl
@[simp] theorem agg_4 : aggO Tryz.prog 4 = some false := by kernel_rfl
@[simp] theorem esz_4 : esz Tryz.prog 4 = 1 := by kernel_rfl
@[simp] theorem under_4 : Tryz.prog.underlying 4 = some .bool := by kernel_rfl
@[simp] theorem boolt_4 : boolT Tryz.prog 4 = true := by kernel_rfl
@[simp] theorem conc_4 : Tryz.prog.concrete 4 = true := by kernel_rfl
@[simp] theorem zero_4 : azero Tryz.prog 4 = some [.bool false] := by kernel_rfl
@[simp] theorem nils_4 : nilPos Tryz.prog 4 = [] := by kernel_rfl
@[simp] theorem app_4 : appOk Tryz.prog 4 = true := by kernel_rfl
@[simp] theorem eby_4 : ebytes Tryz.prog 4 = 1 := by kernel_rfl
@[simp] theorem info_5 : (Tryz.prog.info? 5).isSome = true := by kernel_rfl
@[simp] theorem agg_5 : aggO Tryz.prog 5 = some false := by kernel_rfl
@[simp] theorem esz_5 : esz Tryz.prog 5 = 1 := by kernel_rfl
@[simp] theorem ikind_5 : ikind Tryz.prog 5 = some .u8 := by kernel_rfl
@[simp] theorem under_5 : Tryz.prog.underlying 5 = some (.int .u8) := by kernel_rfl
@[simp] theorem conc_5 : Tryz.prog.concrete 5 = true := by kernel_rfl
@[simp] theorem zero_5 : azero Tryz.prog 5 = some [.int .u8 0] := by kernel_rfl
@[simp] theorem nils_5 : nilPos Tryz.prog 5 = [] := by kernel_rfl
@[simp] theorem app_5 : appOk Tryz.prog 5 = true := by kernel_rfl
@[simp] theorem eby_5 : ebytes Tryz.prog 5 = 1 := by kernel_rfl
@[simp] theorem info_6 : (Tryz.prog.info? 6).isSome = true := by kernel_rfl
@[simp] theorem agg_6 : aggO Tryz.prog 6 = some false := by kernel_rfl
@[simp] theorem esz_6 : esz Tryz.prog 6 = 1 := by kernel_rfl
@[simp] theorem ikind_6 : ikind Tryz.prog 6 = some .u8 := by kernel_rfl
@[simp] theorem under_6 : Tryz.prog.underlying 6 = some (.int .u8) := by kernel_rfl
@[simp] theorem conc_6 : Tryz.prog.concrete 6 = true := by kernel_rfl
@[simp] theorem zero_6 : azero Tryz.prog 6 = some [.int .u8 0] := by kernel_rfl
@[simp] theorem nils_6 : nilPos Tryz.prog 6 = [] := by kernel_rfl
@[simp] theorem app_6 : appOk Tryz.prog 6 = true := by kernel_rfl
@[simp] theorem eby_6 : ebytes Tryz.prog 6 = 1 := by kernel_rfl
@[simp] theorem info_7 : (Tryz.prog.info? 7).isSome = true := by kernel_rfl
@[simp] theorem agg_7 : aggO Tryz.prog 7 = some true := by kernel_rfl
@[simp] theorem esz_7 : esz Tryz.prog 7 = 4 := by kernel_rfl
@[simp] theorem conc_7 : Tryz.prog.concrete 7 = true := by kernel_rfl
@[simp] theorem foff_7_0 : foff Tryz.prog 7 0 = some 0 := by kernel_rfl
@[simp] theorem ftyp_7_0 : ftyp Tryz.prog 7 0 = 2 := by kernel_rfl
@[simp] theorem foff_7_1 : foff Tryz.prog 7 1 = some 1 := by kernel_rfl
@[simp] theorem ftyp_7_1 : ftyp Tryz.prog 7 1 = 3 := by kernel_rfl
@[simp] theorem foff_7_2 : foff Tryz.prog 7 2 = some 2 := by kernel_rfl
@[simp] theorem ftyp_7_2 : ftyp Tryz.prog 7 2 = 4 := by kernel_rfl
@[simp] theorem foff_7_3 : foff Tryz.prog 7 3 = some 3 := by kernel_rfl
@[simp] theorem ftyp_7_3 : ftyp Tryz.prog 7 3 = 6 := by kernel_rfl
@[simp] theorem known_7 : knownF Tryz.prog 7 = true := by kernel_rfl
@[simp] theorem zero_7 : azero Tryz.prog 7 = some [.int .i64 0, .int .i64 0, .bool false, .int .u8 0] := by kernel_rfl
@[simp] theorem nils_7 : nilPos Tryz.prog 7 = [] := by kernel_rfl
@[simp] theorem app_7 : appOk Tryz.prog 7 = true := by kernel_rfl
@[simp] theorem eby_7 : ebytes Tryz.prog 7 = 24 := by kernel_rfl
@[simp] theorem info_9 : (Tryz.prog.info? 9).isSome = true := by kernel_rfl
@[simp] theorem agg_9 : aggO Tryz.prog 9 = some false := by kernel_rfl
@[simp] theorem esz_9 : esz Tryz.prog 9 = 1 := by kernel_rfl
@[simp] theorem under_9 : Tryz.prog.underlying 9 = some .string := by kernel_rfl
@[simp] theorem strt_9 : strT Tryz.prog 9 = true := by kernel_rfl
@[simp] theorem strb_9 : strB Tryz.prog 9 = true := by kernel_rfl
@[simp] theorem conc_9 : Tryz.prog.concrete 9 = true := by kernel_rfl
@[simp] theorem zero_9 : azero Tryz.prog 9 = some [.str []] := by kernel_rfl
@[simp] theorem nils_9 : nilPos Tryz.prog 9 = [] := by kernel_rfl
@[simp] theorem app_9 : appOk Tryz.prog 9 = true := by kernel_rfl
@[simp] theorem eby_9 : ebytes Tryz.prog 9 = 16 := by kernel_rfl
@[simp] theorem info_17 : (Tryz.prog.info? 17).isSome = true := by kernel_rfl
@[simp] theorem agg_17 : aggO Tryz.prog 17 = some false := by kernel_rfl
@[simp] theorem esz_17 : esz Tryz.prog 17 = 1 := by kernel_rfl
@[simp] theorem conc_17 : Tryz.prog.concrete 17 = true := by kernel_rfl
@[simp] theorem zero_17 : azero Tryz.prog 17 = some [.nilPtr] := by kernel_rfl
@[simp] theorem nils_17 : nilPos Tryz.prog 17 = [] := by kernel_rfl
@[simp] theorem app_17 : appOk Tryz.prog 17 = true := by kernel_rfl
@[simp] theorem eby_17 : ebytes Tryz.prog 17 = 8 := by kernel_rfl
@[simp] theorem info_20 : (Tryz.prog.info? 20).isSome = true := by kernel_rfl
@[simp] theorem agg_20 : aggO Tryz.prog 20 = some false := by kernel_rfl
@[simp] theorem esz_20 : esz Tryz.prog 20 = 1 := by kernel_rfl
@[simp] theorem ifacet_20 : ifaceT Tryz.prog 20 = true := by kernel_rfl
@[simp] theorem zero_20 : azero Tryz.prog 20 = some [.nilIface] := by kernel_rfl
@[simp] theorem nils_20 : nilPos Tryz.prog 20 = [] := by kernel_rfl
@[simp] theorem app_20 : appOk Tryz.prog 20 = true := by kernel_rfl
@[simp] theorem eby_20 : ebytes Tryz.prog 20 = 16 := by kernel_rfl
@[simp] theorem info_21 : (Tryz.prog.info? 21).isSome = true := by kernel_rfl
@[simp] theorem agg_21 : aggO Tryz.prog 21 = some false := by kernel_rfl
@[simp] theorem esz_21 : esz Tryz.prog 21 = 1 := by kernel_rfl
@[simp] theorem ikind_21 : ikind Tryz.prog 21 = some .i32 := by kernel_rfl
@[simp] theorem under_21 : Tryz.prog.underlying 21 = some (.int .i32) := by kernel_rfl
@[simp] theorem conc_21 : Tryz.prog.concrete 21 = true := by kernel_rfl
@[simp] theorem zero_21 : azero Tryz.prog 21 = some [.int .i32 0] := by kernel_rfl
@[simp] theorem nils_21 : nilPos Tryz.prog 21 = [] := by kernel_rfl
@[simp] theorem app_21 : appOk Tryz.prog 21 = true := by kernel_rfl
@[simp] theorem eby_21 : ebytes Tryz.prog 21 = 4 := by kernel_rfl
@[simp] theorem info_23 : (Tryz.prog.info? 23).isSome = true := by kernel_rfl
@[simp] theorem agg_23 : aggO Tryz.prog 23 = some false := by kernel_rfl
@[simp] theorem esz_23 : esz Tryz.prog 23 = 1 := by kernel_rfl
@[simp] theorem elem_23 : elemT Tryz.prog 23 = some 25 := by kernel_rfl
@[simp] theorem conc_23 : Tryz.prog.concrete 23 = true := by kernel_rfl
@[simp] theorem zero_23 : azero Tryz.prog 23 = some [.slice []] := by kernel_rfl
@[simp] theorem nils_23 : nilPos Tryz.prog 23 = [0] := by kernel_rfl
@[simp] theorem app_23 : appOk Tryz.prog 23 = true := by kernel_rfl
@[simp] theorem eby_23 : ebytes Tryz.prog 23 = 24 := by kernel_rfl
@[simp] theorem info_25 : (Tryz.prog.info? 25).isSome = true := by kernel_rfl
@[simp] theorem agg_25 : aggO Tryz.prog 25 = some true := by kernel_rfl
@[simp] theorem esz_25 : esz Tryz.prog 25 = 3 := by kernel_rfl
@[simp] theorem conc_25 : Tryz.prog.concrete 25 = true := by kernel_rfl
@[simp] theorem foff_25_0 : foff Tryz.prog 25 0 = some 0 := by kernel_rfl
@[simp] theorem ftyp_25_0 : ftyp Tryz.prog 25 0 = 9 := by kernel_rfl
@[simp] theorem foff_25_1 : foff Tryz.prog 25 1 = some 1 := by kernel_rfl
@[simp] theorem ftyp_25_1 : ftyp Tryz.prog 25 1 = 23 := by kernel_rfl
@[simp] theorem foff_25_2 : foff Tryz.prog 25 2 = some 2 := by kernel_rfl
@[simp] theorem ftyp_25_2 : ftyp Tryz.prog 25 2 = 3 := by kernel_rfl
@[simp] theorem known_25 : knownF Tryz.prog 25 = true := by kernel_rfl
@[simp] theorem zero_25 : azero Tryz.prog 25 = some [.str [], .slice [], .int .i64 0] := by kernel_rfl
@[simp] theorem nils_25 : nilPos Tryz.prog 25 = [1] := by kernel_rfl
@[simp] theorem app_25 : appOk Tryz.prog 25 = true := by kernel_rfl
@[simp] theorem eby_25 : ebytes Tryz.prog 25 = 48 := by kernel_rfl
@[simp] theorem info_26 : (Tryz.prog.info? 26).isSome = true := by kernel_rfl
@[simp] theorem agg_26 : aggO Tryz.prog 26 = some false := by kernel_rfl
@[simp] theorem esz_26 : esz Tryz.prog 26 = 1 := by kernel_rfl
@[simp] theorem elem_26 : elemT Tryz.prog 26 = some 28 := by kernel_rfl
@[simp] theorem conc_26 : Tryz.prog.concrete 26 = true := by kernel_rfl
@[simp] theorem zero_26 : azero Tryz.prog 26 = some [.slice []] := by kernel_rfl
@[simp] theorem nils_26 : nilPos Tryz.prog 26 = [0] := by kernel_rfl
@[simp] theorem app_26 : appOk Tryz.prog 26 = true := by kernel_rfl
@[simp] theorem eby_26 : ebytes Tryz.prog 26 = 24 := by kernel_rfl
@[simp] theorem info_28 : (Tryz.prog.info? 28).isSome = true := by kernel_rfl
@[simp] theorem agg_28 : aggO Tryz.prog 28 = some true := by kernel_rfl
@[simp] theorem esz_28 : esz Tryz.prog 28 = 8 := by kernel_rfl
@[simp] theorem conc_28 : Tryz.prog.concrete 28 = true := by kernel_rfl
@[simp] theorem foff_28_0 : foff Tryz.prog 28 0 = some 0 := by kernel_rfl
@[simp] theorem ftyp_28_0 : ftyp Tryz.prog 28 0 = 3 := by kernel_rfl
@[simp] theorem foff_28_1 : foff Tryz.prog 28 1 = some 1 := by kernel_rfl
@[simp] theorem ftyp_28_1 : ftyp Tryz.prog 28 1 = 9 := by kernel_rfl
@[simp] theorem foff_28_2 : foff Tryz.prog 28 2 = some 2 := by kernel_rfl
@[simp] theorem ftyp_28_2 : ftyp Tryz.prog 28 2 = 25 := by kernel_rfl
@[simp] theorem foff_28_3 : foff Tryz.prog 28 3 = some 5 := by kernel_rfl
@[simp] theorem ftyp_28_3 : ftyp Tryz.prog 28 3 = 23 := by kernel_rfl
@[simp] theorem foff_28_4 : foff Tryz.prog 28 4 = some 6 := by kernel_rfl
@[simp] theorem ftyp_28_4 : ftyp Tryz.prog 28 4 = 26 := by kernel_rfl
@[simp] theorem foff_28_5 : foff Tryz.prog 28 5 = some 7 := by kernel_rfl
@[simp] theorem ftyp_28_5 : ftyp Tryz.prog 28 5 = 3 := by kernel_rfl
@[simp] theorem known_28 : knownF Tryz.prog 28 = true := by kernel_rfl
@[simp] theorem zero_28 : azero Tryz.prog 28 = some [.int .i64 0, .str [], .str [], .slice [], .int .i64 0, .slice [], .slice [], .int .i64 0] := by kernel_rfl
@[simp] theorem nils_28 : nilPos Tryz.prog 28 = [3, 5, 6] := by kernel_rfl
@[simp] theorem app_28 : appOk Tryz.prog 28 = true := by kernel_rfl
@[simp] theorem eby_28 : ebytes Tryz.prog 28 = 128 := by kernel_rfl
@[simp] theorem info_30 : (Tryz.prog.info? 30).isSome = true := by kernel_rfl
@[simp] theorem agg_30 : aggO Tryz.prog 30 = some false := by kernel_rfl
@[simp] theorem esz_30 : esz Tryz.prog 30 = 1 := by kernel_rfl
@[simp] theorem ifacet_30 : ifaceT Tryz.prog 30 = true := by kernel_rfl
@[simp] theorem zero_30 : azero Tryz.prog 30 = some [.nilIface] := by kernel_rfl
@[simp] theorem nils_30 : nilPos Tryz.prog 30 = [] := by kernel_rfl
@[simp] theorem app_30 : appOk Tryz.prog 30 = true := by kernel_rfl
@[simp] theorem eby_30 : ebytes Tryz.prog 30 = 16 := by kernel_rfl
@[simp] theorem info_37 : (Tryz.prog.info? 37).isSome = true := by kernel_rfl
@[simp] theorem agg_37 : aggO Tryz.prog 37 = some false := by kernel_rfl
@[simp] theorem esz_37 : esz Tryz.prog 37 = 1 := by kernel_rfl
@[simp] theorem funct_37 : funcT Tryz.prog 37 = true := by kernel_rfl
@[simp] theorem conc_37 : Tryz.prog.concrete 37 = true := by kernel_rfl
@[simp] theorem zero_37 : azero Tryz.prog 37 = some [.nilFunc] := by kernel_rfl
@[simp] theorem nils_37 : nilPos Tryz.prog 37 = [] := by kernel_rfl
@[simp] theorem app_37 : appOk Tryz.prog 37 = true := by kernel_rfl
@[simp] theorem eby_37 : ebytes Tryz.prog 37 = 8 := by kernel_rfl
@[simp] theorem info_38 : (Tryz.prog.info? 38).isSome = true := by kernel_rfl
@[simp] theorem agg_38 : aggO Tryz.prog 38 = some false := by kernel_rfl
@[simp] theorem esz_38 : esz Tryz.prog 38 = 1 := by kernel_rfl
@[simp] theorem funct_38 : funcT Tryz.prog 38 = true := by kernel_rfl
@[simp] theorem conc_38 : Tryz.prog.concrete 38 = true := by kernel_rfl
@[simp] theorem zero_38 : azero Tryz.prog 38 = some [.nilFunc] := by kernel_rfl
@[simp] theorem nils_38 : nilPos Tryz.prog 38 = [] := by kernel_rfl
@[simp] theorem app_38 : appOk Tryz.prog 38 = true := by kernel_rfl
@[simp] theorem eby_38 : ebytes Tryz.prog 38 = 8 := by kernel_rfl
@[simp] theorem info_41 : (Tryz.prog.info? 41).isSome = true := by kernel_rfl
@[simp] theorem agg_41 : aggO Tryz.prog 41 = some false := by kernel_rfl
@[simp] theorem esz_41 : esz Tryz.prog 41 = 1 := by kernel_rfl
@[simp] theorem elem_41 : elemT Tryz.prog 41 = some 77 := by kernel_rfl
@[simp] theorem conc_41 : Tryz.prog.concrete 41 = true := by kernel_rfl
@[simp] theorem zero_41 : azero Tryz.prog 41 = some [.slice []] := by kernel_rfl
@[simp] theorem nils_41 : nilPos Tryz.prog 41 = [0] := by kernel_rfl
@[simp] theorem app_41 : appOk Tryz.prog 41 = true := by kernel_rfl
@[simp] theorem eby_41 : ebytes Tryz.prog 41 = 24 := by kernel_rfl
@[simp] theorem info_44 : (Tryz.prog.info? 44).isSome = true := by kernel_rfl
@[simp] theorem agg_44 : aggO Tryz.prog 44 = some false := by kernel_rfl
@[simp] theorem esz_44 : esz Tryz.prog 44 = 1 := by kernel_rfl
@[simp] theorem conc_44 : Tryz.prog.concrete 44 = true := by kernel_rfl
@[simp] theorem zero_44 : azero Tryz.prog 44 = some [.nilPtr] := by kernel_rfl
@[simp] theorem nils_44 : nilPos Tryz.prog 44 = [] := by kernel_rfl
@[simp] theorem app_44 : appOk Tryz.prog 44 = true := by kernel_rfl
@[simp] theorem eby_44 : ebytes Tryz.prog 44 = 8 := by kernel_rfl
@[simp] theorem info_52 : (Tryz.prog.info? 52).isSome = true := by kernel_rfl
@[simp] theorem agg_52 : aggO Tryz.prog 52 = some false := by kernel_rfl
@[simp] theorem esz_52 : esz Tryz.prog 52 = 1 := by kernel_rfl
@[simp] theorem elem_52 : elemT Tryz.prog 52 = some 102 := by kernel_rfl
@[simp] theorem conc_52 : Tryz.prog.concrete 52 = true := by kernel_rfl
@[simp] theorem zero_52 : azero Tryz.prog 52 = some [.slice []] := by kernel_rfl
@[simp] theorem nils_52 : nilPos Tryz.prog 52 = [0] := by kernel_rfl
@[simp] theorem app_52 : appOk Tryz.prog 52 = true := by kernel_rfl
@[simp] theorem eby_52 : ebytes Tryz.prog 52 = 24 := by kernel_rfl
@[simp] theorem info_54 : (Tryz.prog.info? 54).isSome = true := by kernel_rfl
@[simp] theorem agg_54 : aggO Tryz.prog 54 = some true := by kernel_rfl
@[simp] theorem esz_54 : esz Tryz.prog 54 = 3 := by kernel_rfl
@[simp] theorem conc_54 : Tryz.prog.concrete 54 = true := by kernel_rfl
@[simp] theorem foff_54_0 : foff Tryz.prog 54 0 = some 0 := by kernel_rfl
@[simp] theorem ftyp_54_0 : ftyp Tryz.prog 54 0 = 52 := by kernel_rfl
@[simp] theorem foff_54_1 : foff Tryz.prog 54 1 = some 1 := by kernel_rfl
@[simp] theorem ftyp_54_1 : ftyp Tryz.prog 54 1 = 3 := by kernel_rfl
@[simp] theorem foff_54_2 : foff Tryz.prog 54 2 = some 2 := by kernel_rfl
@[simp] theorem ftyp_54_2 : ftyp Tryz.prog 54 2 = 4 := by kernel_rfl
@[simp] theorem known_54 : knownF Tryz.prog 54 = true := by kernel_rfl
@[simp] theorem zero_54 : azero Tryz.prog 54 = some [.slice [], .int .i64 0, .bool false] := by kernel_rfl
@[simp] theorem nils_54 : nilPos Tryz.prog 54 = [0] := by kernel_rfl
@[simp] theorem app_54 : appOk Tryz.prog 54 = true := by kernel_rfl
@[simp] theorem eby_54 : ebytes Tryz.prog 54 = 40 := by kernel_rfl
@[simp] theorem info_62 : (Tryz.prog.info? 62).isSome = true := by kernel_rfl
@[simp] theorem agg_62 : aggO Tryz.prog 62 = some false := by kernel_rfl
@[simp] theorem esz_62 : esz Tryz.prog 62 = 1 := by kernel_rfl
@[simp] theorem ikind_62 : ikind Tryz.prog 62 = some .i64 := by kernel_rfl
@[simp] theorem under_62 : Tryz.prog.underlying 62 = some (.int .i64) := by kernel_rfl
@[simp] theorem conc_62 : Tryz.prog.concrete 62 = true := by kernel_rfl
@[simp] theorem zero_62 : azero Tryz.prog 62 = some [.int .i64 0] := by kernel_rfl
@[simp] theorem nils_62 : nilPos Tryz.prog 62 = [] := by kernel_rfl
@[simp] theorem app_62 : appOk Tryz.prog 62 = true := by kernel_rfl
@[simp] theorem eby_62 : ebytes Tryz.prog 62 = 8 := by kernel_rfl
@[simp] theorem info_77 : (Tryz.prog.info? 77).isSome = true := by kernel_rfl
@[simp] theorem agg_77 : aggO Tryz.prog 77 = some true := by kernel_rfl
@[simp] theorem esz_77 : esz Tryz.prog 77 = 3 := by kernel_rfl
@[simp] theorem conc_77 : Tryz.prog.concrete 77 = true := by kernel_rfl
@[simp] theorem foff_77_0 : foff Tryz.prog 77 0 = some 0 := by kernel_rfl
@[simp] theorem ftyp_77_0 : ftyp Tryz.prog 77 0 = 3 := by kernel_rfl
@[simp] theorem foff_77_1 : foff Tryz.prog 77 1 = some 1 := by kernel_rfl
@[simp] theorem ftyp_77_1 : ftyp Tryz.prog 77 1 = 9 := by kernel_rfl
@[simp] theorem foff_77_2 : foff Tryz.prog 77 2 = some 2 := by kernel_rfl
@[simp] theorem ftyp_77_2 : ftyp Tryz.prog 77 2 = 3 := by kernel_rfl
@[simp] theorem known_77 : knownF Tryz.prog 77 = true := by kernel_rfl
@[simp] theorem flats_77 : flatS Tryz.prog 77 = some [3, 9, 3] := by kernel_rfl
@[simp] theorem zero_77 : azero Tryz.prog 77 = some [.int .i64 0, .str [], .int .i64 0] := by kernel_rfl
@[simp] theorem nils_77 : nilPos Tryz.prog 77 = [] := by kernel_rfl
@[simp] theorem app_77 : appOk Tryz.prog 77 = true := by kernel_rfl
@[simp] theorem eby_77 : ebytes Tryz.prog 77 = 32 := by kernel_rfl
@[simp] theorem info_84 : (Tryz.prog.info? 84).isSome = true := by kernel_rfl
@[simp] theorem agg_84 : aggO Tryz.prog 84 = some true := by kernel_rfl
@[simp] theorem esz_84 : esz Tryz.prog 84 = 2 := by kernel_rfl
@[simp] theorem conc_84 : Tryz.prog.concrete 84 = true := by kernel_rfl
@[simp] theorem foff_84_0 : foff Tryz.prog 84 0 = some 0 := by kernel_rfl
@[simp] theorem ftyp_84_0 : ftyp Tryz.prog 84 0 = 41 := by kernel_rfl
@[simp] theorem foff_84_1 : foff Tryz.prog 84 1 = some 1 := by kernel_rfl
@[simp] theorem ftyp_84_1 : ftyp Tryz.prog 84 1 = 30 := by kernel_rfl
@[simp] theorem known_84 : knownF Tryz.prog 84 = true := by kernel_rfl
@[simp] theorem zero_84 : azero Tryz.prog 84 = some [.slice [], .nilIface] := by kernel_rfl
@[simp] theorem nils_84 : nilPos Tryz.prog 84 = [0] := by kernel_rfl
@[simp] theorem app_84 : appOk Tryz.prog 84 = true := by kernel_rfl
@[simp] theorem eby_84 : ebytes Tryz.prog 84 = 40 := by kernel_rfl
@[simp] theorem info_92 : (Tryz.prog.info? 92).isSome = true := by kernel_rfl
@[simp] theorem agg_92 : aggO Tryz.prog 92 = some true := by kernel_rfl
@[simp] theorem esz_92 : esz Tryz.prog 92 = 2 := by kernel_rfl
@[simp] theorem conc_92 : Tryz.prog.concrete 92 = true := by kernel_rfl
@[simp] theorem foff_92_0 : foff Tryz.prog 92 0 = some 0 := by kernel_rfl
@[simp] theorem ftyp_92_0 : ftyp Tryz.prog 92 0 = 52 := by kernel_rfl
@[simp] theorem foff_92_1 : foff Tryz.prog 92 1 = some 1 := by kernel_rfl
@[simp] theorem ftyp_92_1 : ftyp Tryz.prog 92 1 = 3 := by kernel_rfl
@[simp] theorem known_92 : knownF Tryz.prog 92 = true := by kernel_rfl
@[simp] theorem zero_92 : azero Tryz.prog 92 = some [.slice [], .int .i64 0] := by kernel_rfl
@[simp] theorem nils_92 : nilPos Tryz.prog 92 = [0] := by kernel_rfl
@[simp] theorem app_92 : appOk Tryz.prog 92 = true := by kernel_rfl
@[simp] theorem eby_92 : ebytes Tryz.prog 92 = 32 := by kernel_rfl
@[simp] theorem info_102 : (Tryz.prog.info? 102).isSome = true := by kernel_rfl
@[simp] theorem agg_102 : aggO Tryz.prog 102 = some true := by kernel_rfl
@[simp] theorem esz_102 : esz Tryz.prog 102 = 3 := by kernel_rfl
@[simp] theorem conc_102 : Tryz.prog.concrete 102 = true := by kernel_rfl
@[simp] theorem foff_102_0 : foff Tryz.prog 102 0 = some 0 := by kernel_rfl
@[simp] theorem ftyp_102_0 : ftyp Tryz.prog 102 0 = 3 := by kernel_rfl
@[simp] theorem foff_102_1 : foff Tryz.prog 102 1 = some 1 := by kernel_rfl
@[simp] theorem ftyp_102_1 : ftyp Tryz.prog 102 1 = 9 := by kernel_rfl
@[simp] theorem foff_102_2 : foff Tryz.prog 102 2 = some 2 := by kernel_rfl
@[simp] theorem ftyp_102_2 : ftyp Tryz.prog 102 2 = 3 := by kernel_rfl
@[simp] theorem known_102 : knownF Tryz.prog 102 = true := by kernel_rfl
@[simp] theorem flats_102 : flatS Tryz.prog 102 = some [3, 9, 3] := by kernel_rfl
@[simp] theorem zero_102 : azero Tryz.prog 102 = some [.int .i64 0, .str [], .int .i64 0] := by kernel_rfl
@[simp] theorem nils_102 : nilPos Tryz.prog 102 = [] := by kernel_rfl
@[simp] theorem app_102 : appOk Tryz.prog 102 = true := by kernel_rfl
@[simp] theorem eby_102 : ebytes Tryz.prog 102 = 32 := by kernel_rfl
@[simp] theorem info_106 : (Tryz.prog.info? 106).isSome = true := by kernel_rfl
@[simp] theorem agg_106 : aggO Tryz.prog 106 = some false := by kernel_rfl
@[simp] theorem esz_106 : esz Tryz.prog 106 = 1 := by kernel_rfl
@[simp] theorem conc_106 : Tryz.prog.concrete 106 = true := by kernel_rfl
@[simp] theorem zero_106 : azero Tryz.prog 106 = some [.nilPtr] := by kernel_rfl
@[simp] theorem nils_106 : nilPos Tryz.prog 106 = [] := by kernel_rfl
@[simp] theorem app_106 : appOk Tryz.prog 106 = true := by kernel_rfl
@[simp] theorem eby_106 : ebytes Tryz.prog 106 = 8 := by kernel_rfl
@[simp] theorem info_108 : (Tryz.prog.info? 108).isSome = true := by kernel_rfl
@[simp] theorem agg_108 : aggO Tryz.prog 108 = some true := by kernel_rfl
@[simp] theorem esz_108 : esz Tryz.prog 108 = 2 := by kernel_rfl
@[simp] theorem conc_108 : Tryz.prog.concrete 108 = true := by kernel_rfl
@[simp] theorem foff_108_0 : foff Tryz.prog 108 0 = some 0 := by kernel_rfl
@[simp] theorem ftyp_108_0 : ftyp Tryz.prog 108 0 = 62 := by kernel_rfl
@[simp] theorem foff_108_1 : foff Tryz.prog 108 1 = some 1 := by kernel_rfl
@[simp] theorem ftyp_108_1 : ftyp Tryz.prog 108 1 = 3 := by kernel_rfl
@[simp] theorem known_108 : knownF Tryz.prog 108 = true := by kernel_rfl
@[simp] theorem flats_108 : flatS Tryz.prog 108 = some [62, 3] := by kernel_rfl
@[simp] theorem zero_108 : azero Tryz.prog 108 = some [.int .i64 0, .int .i64 0] := by kernel_rfl
@[simp] theorem nils_108 : nilPos Tryz.prog 108 = [] := by kernel_rfl
@[simp] theorem app_108 : appOk Tryz.prog 108 = true := by kernel_rfl
@[simp] theorem eby_108 : ebytes Tryz.prog 108 = 16 := by kernel_rfl
@[simp] theorem info_109 : (Tryz.prog.info? 109).isSome = true := by kernel_rfl
@[simp] theorem agg_109 : aggO Tryz.prog 109 = some false := by kernel_rfl
@[simp] theorem esz_109 : esz Tryz.prog 109 = 1 := by kernel_rfl
@[simp] theorem conc_109 : Tryz.prog.concrete 109 = true := by kernel_rfl
@[simp] theorem zero_109 : azero Tryz.prog 109 = some [.nilPtr] := by kernel_rfl
@[simp] theorem nils_109 : nilPos Tryz.prog 109 = [] := by kernel_rfl
@[simp] theorem app_109 : appOk Tryz.prog 109 = true := by kernel_rfl
@[simp] theorem eby_109 : ebytes Tryz.prog 109 = 8 := by kernel_rfl
@[simp] theorem info_110 : (Tryz.prog.info? 110).isSome = true := by kernel_rfl
@[simp] theorem agg_110 : aggO Tryz.prog 110 = some false := by kernel_rfl
@[simp] theorem esz_110 : esz Tryz.prog 110 = 1 := by kernel_rfl
@[simp] theorem elem_110 : elemT Tryz.prog 110 = some 9 := by kernel_rfl
@[simp] theorem conc_110 : Tryz.prog.concrete 110 = true := by kernel_rfl
@[simp] theorem zero_110 : azero Tryz.prog 110 = some [.slice []] := by kernel_rfl
@[simp] theorem nils_110 : nilPos Tryz.prog 110 = [0] := by kernel_rfl
@[simp] theorem app_110 : appOk Tryz.prog 110 = true := by kernel_rfl
@[simp] theorem eby_110 : ebytes Tryz.prog 110 = 24 := by kernel_rfl
@[simp] theorem info_113 : (Tryz.prog.info? 113).isSome = true := by kernel_rfl
@[simp] theorem agg_113 : aggO Tryz.prog 113 = some false := by kernel_rfl
@[simp] theorem esz_113 : esz Tryz.prog 113 = 1 := by kernel_rfl
@[simp] theorem ikind_113 : ikind Tryz.prog 113 = some .u64 := by kernel_rfl
@[simp] theorem under_113 : Tryz.prog.underlying 113 = some (.int .u64) := by kernel_rfl
@[simp] theorem conc_113 : Tryz.prog.concrete 113 = true := by kernel_rfl
@[simp] theorem zero_113 : azero Tryz.prog 113 = some [.int .u64 0] := by kernel_rfl
@[simp] theorem nils_113 : nilPos Tryz.prog 113 = [] := by kernel_rfl
@[simp] theorem app_113 : appOk Tryz.prog 113 = true := by kernel_rfl
@[simp] theorem eby_113 : ebytes Tryz.prog 113 = 8 := by kernel_rfl
@[simp] theorem info_122 : (Tryz.prog.info? 122).isSome = true := by kernel_rfl
@[simp] theorem agg_122 : aggO Tryz.prog 122 = some false := by kernel_rfl
@[simp] theorem esz_122 : esz Tryz.prog 122 = 1 := by kernel_rfl
@[simp] theorem conc_122 : Tryz.prog.concrete 122 = true := by kernel_rfl
@[simp] theorem zero_122 : azero Tryz.prog 122 = some [.nilPtr] := by kernel_rfl
@[simp] theorem nils_122 : nilPos Tryz.prog 122 = [] := by kernel_rfl
@[simp] theorem app_122 : appOk Tryz.prog 122 = true := by kernel_rfl
@[simp] theorem eby_122 : ebytes Tryz.prog 122 = 8 := by kernel_rfl
@[simp] theorem info_123 : (Tryz.prog.info? 123).isSome = true := by kernel_rfl
@[simp] theorem agg_123 : aggO Tryz.prog 123 = some false := by kernel_rfl
@[simp] theorem esz_123 : esz Tryz.prog 123 = 1 := by kernel_rfl
@[simp] theorem ikind_123 : ikind Tryz.prog 123 = some .u64 := by kernel_rfl
@[simp] theorem under_123 : Tryz.prog.underlying 123 = some (.int .u64) := by kernel_rfl
@[simp] theorem conc_123 : Tryz.prog.concrete 123 = true := by kernel_rfl
@[simp] theorem zero_123 : azero Tryz.prog 123 = some [.int .u64 0] := by kernel_rfl
@[simp] theorem nils_123 : nilPos Tryz.prog 123 = [] := by kernel_rfl
@[simp] theorem app_123 : appOk Tryz.prog 123 = true := by kernel_rfl
@[simp] theorem eby_123 : ebytes Tryz.prog 123 = 8 := by kernel_rfl
@[simp] theorem info_125 : (Tryz.prog.info? 125).isSome = true := by kernel_rfl
@[simp] theorem agg_125 : aggO Tryz.prog 125 = some true := by kernel_rfl
@[simp] theorem esz_125 : esz Tryz.prog 125 = 3 := by kernel_rfl
@[simp] theorem conc_125 : Tryz.prog.concrete 125 = true := by kernel_rfl
@[simp] theorem foff_125_0 : foff Tryz.prog 125 0 = some 0 := by kernel_rfl
@[simp] theorem ftyp_125_0 : ftyp Tryz.prog 125 0 = 17 := by kernel_rfl
@[simp] theorem foff_125_1 : foff Tryz.prog 125 1 = some 1 := by kernel_rfl
@[simp] theorem ftyp_125_1 : ftyp Tryz.prog 125 1 = 122 := by kernel_rfl
@[simp] theorem foff_125_2 : foff Tryz.prog 125 2 = some 2 := by kernel_rfl
@[simp] theorem ftyp_125_2 : ftyp Tryz.prog 125 2 = 123 := by kernel_rfl
@[simp] theorem known_125 : knownF Tryz.prog 125 = true := by kernel_rfl
@[simp] theorem zero_125 : azero Tryz.prog 125 = some [.nilPtr, .nilPtr, .int .u64 0] := by kernel_rfl
@[simp] theorem nils_125 : nilPos Tryz.prog 125 = [] := by kernel_rfl
@[simp] theorem app_125 : appOk Tryz.prog 125 = true := by kernel_rfl
@[simp] theorem eby_125 : ebytes Tryz.prog 125 = 24 := by kernel_rfl
@[simp] theorem info_128 : (Tryz.prog.info? 128).isSome = true := by kernel_rfl
@[simp] theorem agg_128 : aggO Tryz.prog 128 = some false := by kernel_rfl
@[simp] theorem esz_128 : esz Tryz.prog 128 = 1 := by kernel_rfl
@[simp] theorem ifacet_128 : ifaceT Tryz.prog 128 = true := by kernel_rfl
@[simp] theorem zero_128 : azero Tryz.prog 128 = some [.nilIface] := by kernel_rfl
@[simp] theorem nils_128 : nilPos Tryz.prog 128 = [] := by kernel_rfl
@[simp] theorem app_128 : appOk Tryz.prog 128 = true := by kernel_rfl
@[simp] theorem eby_128 : ebytes Tryz.prog 128 = 16 := by kernel_rfl
@[simp] theorem info_130 : (Tryz.prog.info? 130).isSome = true := by kernel_rfl
@[simp] theorem agg_130 : aggO Tryz.prog 130 = some false := by kernel_rfl
@[simp] theorem esz_130 : esz Tryz.prog 130 = 1 := by kernel_rfl
@[simp] theorem ikind_130 : ikind Tryz.prog 130 = some .u8 := by kernel_rfl
@[simp] theorem under_130 : Tryz.prog.underlying 130 = some (.int .u8) := by kernel_rfl
@[simp] theorem conc_130 : Tryz.prog.concrete 130 = true := by kernel_rfl
@[simp] theorem zero_130 : azero Tryz.prog 130 = some [.int .u8 0] := by kernel_rfl
@[simp] theorem nils_130 : nilPos Tryz.prog 130 = [] := by kernel_rfl
@[simp] theorem app_130 : appOk Tryz.prog 130 = true := by kernel_rfl
@[simp] theorem eby_130 : ebytes Tryz.prog 130 = 1 := by kernel_rfl
@[simp] theorem info_135 : (Tryz.prog.info? 135).isSome = true := by kernel_rfl
@[simp] theorem agg_135 : aggO Tryz.prog 135 = some false := by kernel_rfl
@[simp] theorem esz_135 : esz Tryz.prog 135 = 1 := by kernel_rfl
@[simp] theorem ikind_135 : ikind Tryz.prog 135 = some .u32 := by kernel_rfl
@[simp] theorem under_135 : Tryz.prog.underlying 135 = some (.int .u32) := by kernel_rfl
@[simp] theorem conc_135 : Tryz.prog.concrete 135 = true := by kernel_rfl
@[simp] theorem zero_135 : azero Tryz.prog 135 = some [.int .u32 0] := by kernel_rfl
@[simp] theorem nils_135 : nilPos Tryz.prog 135 = [] := by kernel_rfl
@[simp] theorem app_135 : appOk Tryz.prog 135 = true := by kernel_rfl
@[simp] theorem eby_135 : ebytes Tryz.prog 135 = 4 := by kernel_rfl
@[simp] theorem info_138 : (Tryz.prog.info? 138).isSome = true := by kernel_rfl
@[simp] theorem agg_138 : aggO Tryz.prog 138 = some false := by kernel_rfl
@[simp] theorem esz_138 : esz Tryz.prog 138 = 1 := by kernel_rfl
@[simp] theorem ikind_138 : ikind Tryz.prog 138 = some .u64 := by kernel_rfl
@[simp] theorem under_138 : Tryz.prog.underlying 138 = some (.int .u64) := by kernel_rfl
@[simp] theorem conc_138 : Tryz.prog.concrete 138 = true := by kernel_rfl
@[simp] theorem zero_138 : azero Tryz.prog 138 = some [.int .u64 0] := by kernel_rfl
@[simp] theorem nils_138 : nilPos Tryz.prog 138 = [] := by kernel_rfl
@[simp] theorem app_138 : appOk Tryz.prog 138 = true := by kernel_rfl
@[simp] theorem eby_138 : ebytes Tryz.prog 138 = 8 := by kernel_rfl
@[simp] theorem info_149 : (Tryz.prog.info? 149).isSome = true := by kernel_rfl
@[simp] theorem agg_149 : aggO Tryz.prog 149 = some true := by kernel_rfl
@[simp] theorem esz_149 : esz Tryz.prog 149 = 7 := by kernel_rfl
@[simp] theorem arrt_149 : arrT Tryz.prog 149 = some (7, 9) := by kernel_rfl
@[simp] theorem conc_149 : Tryz.prog.concrete 149 = true := by kernel_rfl
@[simp] theorem zero_149 : azero Tryz.prog 149 = some [.str [], .str [], .str [], .str [], .str [], .str [], .str []] := by kernel_rfl
@[simp] theorem nils_149 : nilPos Tryz.prog 149 = [] := by kernel_rfl
@[simp] theorem app_149 : appOk Tryz.prog 149 = true := by kernel_rfl
@[simp] theorem eby_149 : ebytes Tryz.prog 149 = 112 := by kernel_rfl
@[simp] theorem info_171 : (Tryz.prog.info? 171).isSome = true := by kernel_rfl
@[simp] theorem agg_171 : aggO Tryz.prog 171 = some false := by kernel_rfl
@[simp] theorem esz_171 : esz Tryz.prog 171 = 1 := by kernel_rfl
@[simp] theorem elem_171 : elemT Tryz.prog 171 = some 3 := by kernel_rfl
@[simp] theorem conc_171 : Tryz.prog.concrete 171 = true := by kernel_rfl
@[simp] theorem zero_171 : azero Tryz.prog 171 = some [.slice []] := by kernel_rfl
@[simp] theorem nils_171 : nilPos Tryz.prog 171 = [0] := by kernel_rfl
@[simp] theorem app_171 : appOk Tryz.prog 171 = true := by kernel_rfl
@[simp] theorem eby_171 : ebytes Tryz.prog 171 = 24 := by kernel_rfl
theorem mixed : Tryz.prog.follows .mixedOrders = true := by kernel_rfl
end Pt
end Go.Proofs.YtpjkdaechknogaaGreatDoor
