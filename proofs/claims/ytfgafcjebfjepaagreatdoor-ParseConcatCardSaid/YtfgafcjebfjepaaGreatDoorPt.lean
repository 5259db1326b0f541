/- The closed facts on the types of this translation that the walk asks; made by program. -/
import Derived.Test.YtfgafcjebfjepaaGreatDoorProg
import Derived.Test.YtfgafcjebfjepaaGreatDoorPvO
import Derived.KernelRfl
set_option linter.all false
namespace Go.Proofs.YtfgafcjebfjepaaGreatDoor
open Go Go.Pv
namespace Pt
@[simp] theorem info_1 : (Tryz.prog.info? 1).isSome = true := by kernel_rfl
@[simp] theorem agg_1 : aggO Tryz.prog 1 = some false := by kernel_rfl
@[simp] theorem esz_1 : esz Tryz.prog 1 = 1 := by kernel_rfl
@[simp] theorem funct_1 : funcT Tryz.prog 1 = true := by kernel_rfl
@[simp] theorem conc_1 : Tryz.prog.concrete 1 = true := by kernel_rfl
@[simp] theorem zero_1 : azero Tryz.prog 1 = some [.nilFunc] := by kernel_rfl
@[simp] theorem nils_1 : nilPos Tryz.prog 1 = [] := by kernel_rfl
@[simp] theorem app_1 : appOk Tryz.prog 1 = true := by kernel_rfl
@[simp] theorem eby_1 : ebytes Tryz.prog 1 = 8 := by kernel_rfl
@[simp] theorem info_2 : (Tryz.prog.info? 2).isSome = true := by kernel_rfl
@[simp] theorem agg_2 : aggO Tryz.prog 2 = some false := by kernel_rfl
@[simp] theorem esz_2 : esz Tryz.prog 2 = 1 := by kernel_rfl
@[simp] theorem ikind_2 : ikind Tryz.prog 2 = some .i64 := by kernel_rfl
@[simp] theorem under_2 : Tryz.prog.underlying 2 = some (.int .i64) := by kernel_rfl
@[simp] theorem conc_2 : Tryz.prog.concrete 2 = true := by kernel_rfl
@[simp] theorem zero_2 : azero Tryz.prog 2 = some [.int .i64 0] := by kernel_rfl
@[simp] theorem nils_2 : nilPos Tryz.prog 2 = [] := by kernel_rfl
@[simp] theorem app_2 : appOk Tryz.prog 2 = true := by kernel_rfl
@[simp] theorem eby_2 : ebytes Tryz.prog 2 = 8 := by kernel_rfl
@[simp] theorem info_3 : (Tryz.prog.info? 3).isSome = true := by kernel_rfl
@[simp] theorem agg_3 : aggO Tryz.prog 3 = some false := by kernel_rfl
@[simp] theorem esz_3 : esz Tryz.prog 3 = 1 := by kernel_rfl
@[simp] theorem ikind_3 : ikind Tryz.prog 3 = some .i64 := by kernel_rfl
@[simp] theorem under_3 : Tryz.prog.underlying 3 = some (.int .i64) := by kernel_rfl
@[simp] theorem conc_3 : Tryz.prog.concrete 3 = true := by kernel_rfl
@[simp] theorem zero_3 : azero Tryz.prog 3 = some [.int .i64 0] := by kernel_rfl
@[simp] theorem nils_3 : nilPos Tryz.prog 3 = [] := by kernel_rfl
@[simp] theorem app_3 : appOk Tryz.prog 3 = true := by kernel_rfl
@[simp] theorem eby_3 : ebytes Tryz.prog 3 = 8 := by kernel_rfl
@[simp] theorem info_4 : (Tryz.prog.info? 4).isSome = true := by kernel_rfl
@[simp] theorem agg_4 : aggO Tryz.prog 4 = some false := by kernel_rfl
@[simp] theorem esz_4 : esz Tryz.prog 4 = 1 := by kernel_rfl
@[simp] theorem under_4 : Tryz.prog.underlying 4 = some .bool := by kernel_rfl
@[simp] theorem boolt_4 : boolT Tryz.prog 4 = true := by kernel_rfl
@[simp] theorem conc_4 : Tryz.prog.concrete 4 = true := by kernel_rfl
@[simp] theorem zero_4 : azero Tryz.prog 4 = some [.bool false] := by kernel_rfl
@[simp] theorem nils_4 : nilPos Tryz.prog 4 = [] := by kernel_rfl
@[simp] theorem app_4 : appOk Tryz.prog 4 = true := by kernel_rfl
@[simp] theorem eby_4 : ebytes Tryz.prog 4 = 1 := by kernel_rfl
@[simp] theorem info_5 : (Tryz.prog.info? 5).isSome = true := by kernel_rfl
@[simp] theorem agg_5 : aggO Tryz.prog 5 = some false := by kernel_rfl
@[simp] theorem esz_5 : esz Tryz.prog 5 = 1 := by kernel_rfl
@[simp] theorem ikind_5 : ikind Tryz.prog 5 = some .u8 := by kernel_rfl
@[simp] theorem under_5 : Tryz.prog.underlying 5 = some (.int .u8) := by kernel_rfl
@[simp] theorem conc_5 : Tryz.prog.concrete 5 = true := by kernel_rfl
@[simp] theorem zero_5 : azero Tryz.prog 5 = some [.int .u8 0] := by kernel_rfl
@[simp] theorem nils_5 : nilPos Tryz.prog 5 = [] := by kernel_rfl
@[simp] theorem app_5 : appOk Tryz.prog 5 = true := by kernel_rfl
@[simp] theorem eby_5 : ebytes Tryz.prog 5 = 1 := by kernel_rfl
@[simp] theorem info_6 : (Tryz.prog.info? 6).isSome = true := by kernel_rfl
@[simp] theorem agg_6 : aggO Tryz.prog 6 = some false := by kernel_rfl
@[simp] theorem esz_6 : esz Tryz.prog 6 = 1 := by kernel_rfl
@[simp] theorem ikind_6 : ikind Tryz.prog 6 = some .u8 := by kernel_rfl
@[simp] theorem under_6 : Tryz.prog.underlying 6 = some (.int .u8) := by kernel_rfl
@[simp] theorem conc_6 : Tryz.prog.concrete 6 = true := by kernel_rfl
@[simp] theorem zero_6 : azero Tryz.prog 6 = some [.int .u8 0] := by kernel_rfl
@[simp] theorem nils_6 : nilPos Tryz.prog 6 = [] := by kernel_rfl
@[simp] theorem app_6 : appOk Tryz.prog 6 = true := by kernel_rfl
@[simp] theorem eby_6 : ebytes Tryz.prog 6 = 1 := by kernel_rfl
@[simp] theorem info_7 : (Tryz.prog.info? 7).isSome = true := by kernel_rfl
@[simp] theorem agg_7 : aggO Tryz.prog 7 = some true := by kernel_rfl
@[simp] theorem esz_7 : esz Tryz.prog 7 = 4 := by kernel_rfl
@[simp] theorem conc_7 : Tryz.prog.concrete 7 = true := by kernel_rfl
@[simp] theorem foff_7_0 : foff Tryz.prog 7 0 = some 0 := by kernel_rfl
@[simp] theorem ftyp_7_0 : ftyp Tryz.prog 7 0 = 2 := by kernel_rfl
@[simp] theorem foff_7_1 : foff Tryz.prog 7 1 = some 1 := by kernel_rfl
@[simp] theorem ftyp_7_1 : ftyp Tryz.prog 7 1 = 3 := by kernel_rfl
@[simp] theorem foff_7_2 : foff Tryz.prog 7 2 = some 2 := by kernel_rfl
@[simp] theorem ftyp_7_2 : ftyp Tryz.prog 7 2 = 4 := by kernel_rfl
@[simp] theorem foff_7_3 : foff Tryz.prog 7 3 = some 3 := by kernel_rfl
@[simp] theorem ftyp_7_3 : ftyp Tryz.prog 7 3 = 6 := by kernel_rfl
@[simp] theorem known_7 : knownF Tryz.prog 7 = true := by kernel_rfl
@[simp] theorem zero_7 : azero Tryz.prog 7 = some [.int .i64 0, .int .i64 0, .bool false, .int .u8 0] := by kernel_rfl
@[simp] theorem nils_7 : nilPos Tryz.prog 7 = [] := by kernel_rfl
@[simp] theorem app_7 : appOk Tryz.prog 7 = true := by kernel_rfl
@[simp] theorem eby_7 : ebytes Tryz.prog 7 = 24 := by kernel_rfl
@[simp] theorem info_8 : (Tryz.prog.info? 8).isSome = true := by kernel_rfl
@[simp] theorem agg_8 : aggO Tryz.prog 8 = some true := by kernel_rfl
@[simp] theorem esz_8 : esz Tryz.prog 8 = 4 := by kernel_rfl
@[simp] theorem conc_8 : Tryz.prog.concrete 8 = true := by kernel_rfl
@[simp] theorem foff_8_0 : foff Tryz.prog 8 0 = some 0 := by kernel_rfl
@[simp] theorem ftyp_8_0 : ftyp Tryz.prog 8 0 = 2 := by kernel_rfl
@[simp] theorem foff_8_1 : foff Tryz.prog 8 1 = some 1 := by kernel_rfl
@[simp] theorem ftyp_8_1 : ftyp Tryz.prog 8 1 = 3 := by kernel_rfl
@[simp] theorem foff_8_2 : foff Tryz.prog 8 2 = some 2 := by kernel_rfl
@[simp] theorem ftyp_8_2 : ftyp Tryz.prog 8 2 = 4 := by kernel_rfl
@[simp] theorem foff_8_3 : foff Tryz.prog 8 3 = some 3 := by kernel_rfl
@[simp] theorem ftyp_8_3 : ftyp Tryz.prog 8 3 = 6 := by kernel_rfl
@[simp] theorem known_8 : knownF Tryz.prog 8 = true := by kernel_rfl
@[simp] theorem zero_8 : azero Tryz.prog 8 = some [.int .i64 0, .int .i64 0, .bool false, .int .u8 0] := by kernel_rfl
@[simp] theorem nils_8 : nilPos Tryz.prog 8 = [] := by kernel_rfl
@[simp] theorem app_8 : appOk Tryz.prog 8 = true := by kernel_rfl
@[simp] theorem eby_8 : ebytes Tryz.prog 8 = 24 := by kernel_rfl
@[simp] theorem info_9 : (Tryz.prog.info? 9).isSome = true := by kernel_rfl
@[simp] theorem agg_9 : aggO Tryz.prog 9 = some false := by kernel_rfl
@[simp] theorem esz_9 : esz Tryz.prog 9 = 1 := by kernel_rfl
@[simp] theorem under_9 : Tryz.prog.underlying 9 = some .string := by kernel_rfl
@[simp] theorem strt_9 : strT Tryz.prog 9 = true := by kernel_rfl
@[simp] theorem strb_9 : strB Tryz.prog 9 = true := by kernel_rfl
@[simp] theorem conc_9 : Tryz.prog.concrete 9 = true := by kernel_rfl
@[simp] theorem zero_9 : azero Tryz.prog 9 = some [.str []] := by kernel_rfl
@[simp] theorem nils_9 : nilPos Tryz.prog 9 = [] := by kernel_rfl
@[simp] theorem app_9 : appOk Tryz.prog 9 = true := by kernel_rfl
@[simp] theorem eby_9 : ebytes Tryz.prog 9 = 16 := by kernel_rfl
@[simp] theorem info_17 : (Tryz.prog.info? 17).isSome = true := by kernel_rfl
@[simp] theorem agg_17 : aggO Tryz.prog 17 = some false := by kernel_rfl
@[simp] theorem esz_17 : esz Tryz.prog 17 = 1 := by kernel_rfl
@[simp] theorem conc_17 : Tryz.prog.concrete 17 = true := by kernel_rfl
@[simp] theorem zero_17 : azero Tryz.prog 17 = some [.nilPtr] := by kernel_rfl
@[simp] theorem nils_17 : nilPos Tryz.prog 17 = [] := by kernel_rfl
@[simp] theorem app_17 : appOk Tryz.prog 17 = true := by kernel_rfl
@[simp] theorem eby_17 : ebytes Tryz.prog 17 = 8 := by kernel_rfl
@[simp] theorem info_20 : (Tryz.prog.info? 20).isSome = true := by kernel_rfl
@[simp] theorem agg_20 : aggO Tryz.prog 20 = some false := by kernel_rfl
@[simp] theorem esz_20 : esz Tryz.prog 20 = 1 := by kernel_rfl
@[simp] theorem ifacet_20 : ifaceT Tryz.prog 20 = true := by kernel_rfl
@[simp] theorem zero_20 : azero Tryz.prog 20 = some [.nilIface] := by kernel_rfl
@[simp] theorem nils_20 : nilPos Tryz.prog 20 = [] := by kernel_rfl
@[simp] theorem app_20 : appOk Tryz.prog 20 = true := by kernel_rfl
@[simp] theorem eby_20 : ebytes Tryz.prog 20 = 16 := by kernel_rfl
@[simp] theorem info_21 : (Tryz.prog.info? 21).isSome = true := by kernel_rfl
@[simp] theorem agg_21 : aggO Tryz.prog 21 = some false := by kernel_rfl
@[simp] theorem esz_21 : esz Tryz.prog 21 = 1 := by kernel_rfl
@[simp] theorem ikind_21 : ikind Tryz.prog 21 = some .i32 := by kernel_rfl
@[simp] theorem under_21 : Tryz.prog.underlying 21 = some (.int .i32) := by kernel_rfl
@[simp] theorem conc_21 : Tryz.prog.concrete 21 = true := by kernel_rfl
@[simp] theorem zero_21 : azero Tryz.prog 21 = some [.int .i32 0] := by kernel_rfl
@[simp] theorem nils_21 : nilPos Tryz.prog 21 = [] := by kernel_rfl
@[simp] theorem app_21 : appOk Tryz.prog 21 = true := by kernel_rfl
@[simp] theorem eby_21 : ebytes Tryz.prog 21 = 4 := by kernel_rfl
@[simp] theorem info_23 : (Tryz.prog.info? 23).isSome = true := by kernel_rfl
@[simp] theorem agg_23 : aggO Tryz.prog 23 = some false := by kernel_rfl
@[simp] theorem esz_23 : esz Tryz.prog 23 = 1 := by kernel_rfl
@[simp] theorem elem_23 : elemT Tryz.prog 23 = some 45 := by kernel_rfl
@[simp] theorem conc_23 : Tryz.prog.concrete 23 = true := by kernel_rfl
@[simp] theorem zero_23 : azero Tryz.prog 23 = some [.slice []] := by kernel_rfl
@[simp] theorem nils_23 : nilPos Tryz.prog 23 = [0] := by kernel_rfl
@[simp] theorem app_23 : appOk Tryz.prog 23 = true := by kernel_rfl
@[simp] theorem eby_23 : ebytes Tryz.prog 23 = 24 := by kernel_rfl
@[simp] theorem info_24 : (Tryz.prog.info? 24).isSome = true := by kernel_rfl
@[simp] theorem agg_24 : aggO Tryz.prog 24 = some false := by kernel_rfl
@[simp] theorem esz_24 : esz Tryz.prog 24 = 1 := by kernel_rfl
@[simp] theorem elem_24 : elemT Tryz.prog 24 = some 26 := by kernel_rfl
@[simp] theorem conc_24 : Tryz.prog.concrete 24 = true := by kernel_rfl
@[simp] theorem zero_24 : azero Tryz.prog 24 = some [.slice []] := by kernel_rfl
@[simp] theorem nils_24 : nilPos Tryz.prog 24 = [0] := by kernel_rfl
@[simp] theorem app_24 : appOk Tryz.prog 24 = true := by kernel_rfl
@[simp] theorem eby_24 : ebytes Tryz.prog 24 = 24 := by kernel_rfl
@[simp] theorem info_26 : (Tryz.prog.info? 26).isSome = true := by kernel_rfl
@[simp] theorem agg_26 : aggO Tryz.prog 26 = some true := by kernel_rfl
@[simp] theorem esz_26 : esz Tryz.prog 26 = 3 := by kernel_rfl
@[simp] theorem conc_26 : Tryz.prog.concrete 26 = true := by kernel_rfl
@[simp] theorem foff_26_0 : foff Tryz.prog 26 0 = some 0 := by kernel_rfl
@[simp] theorem ftyp_26_0 : ftyp Tryz.prog 26 0 = 9 := by kernel_rfl
@[simp] theorem foff_26_1 : foff Tryz.prog 26 1 = some 1 := by kernel_rfl
@[simp] theorem ftyp_26_1 : ftyp Tryz.prog 26 1 = 24 := by kernel_rfl
@[simp] theorem foff_26_2 : foff Tryz.prog 26 2 = some 2 := by kernel_rfl
@[simp] theorem ftyp_26_2 : ftyp Tryz.prog 26 2 = 3 := by kernel_rfl
@[simp] theorem known_26 : knownF Tryz.prog 26 = true := by kernel_rfl
@[simp] theorem zero_26 : azero Tryz.prog 26 = some [.str [], .slice [], .int .i64 0] := by kernel_rfl
@[simp] theorem nils_26 : nilPos Tryz.prog 26 = [1] := by kernel_rfl
@[simp] theorem app_26 : appOk Tryz.prog 26 = true := by kernel_rfl
@[simp] theorem eby_26 : ebytes Tryz.prog 26 = 48 := by kernel_rfl
@[simp] theorem info_27 : (Tryz.prog.info? 27).isSome = true := by kernel_rfl
@[simp] theorem agg_27 : aggO Tryz.prog 27 = some false := by kernel_rfl
@[simp] theorem esz_27 : esz Tryz.prog 27 = 1 := by kernel_rfl
@[simp] theorem elem_27 : elemT Tryz.prog 27 = some 29 := by kernel_rfl
@[simp] theorem conc_27 : Tryz.prog.concrete 27 = true := by kernel_rfl
@[simp] theorem zero_27 : azero Tryz.prog 27 = some [.slice []] := by kernel_rfl
@[simp] theorem nils_27 : nilPos Tryz.prog 27 = [0] := by kernel_rfl
@[simp] theorem app_27 : appOk Tryz.prog 27 = true := by kernel_rfl
@[simp] theorem eby_27 : ebytes Tryz.prog 27 = 24 := by kernel_rfl
@[simp] theorem info_29 : (Tryz.prog.info? 29).isSome = true := by kernel_rfl
@[simp] theorem agg_29 : aggO Tryz.prog 29 = some true := by kernel_rfl
@[simp] theorem esz_29 : esz Tryz.prog 29 = 8 := by kernel_rfl
@[simp] theorem conc_29 : Tryz.prog.concrete 29 = true := by kernel_rfl
@[simp] theorem foff_29_0 : foff Tryz.prog 29 0 = some 0 := by kernel_rfl
@[simp] theorem ftyp_29_0 : ftyp Tryz.prog 29 0 = 3 := by kernel_rfl
@[simp] theorem foff_29_1 : foff Tryz.prog 29 1 = some 1 := by kernel_rfl
@[simp] theorem ftyp_29_1 : ftyp Tryz.prog 29 1 = 9 := by kernel_rfl
@[simp] theorem foff_29_2 : foff Tryz.prog 29 2 = some 2 := by kernel_rfl
@[simp] theorem ftyp_29_2 : ftyp Tryz.prog 29 2 = 26 := by kernel_rfl
@[simp] theorem foff_29_3 : foff Tryz.prog 29 3 = some 5 := by kernel_rfl
@[simp] theorem ftyp_29_3 : ftyp Tryz.prog 29 3 = 24 := by kernel_rfl
@[simp] theorem foff_29_4 : foff Tryz.prog 29 4 = some 6 := by kernel_rfl
@[simp] theorem ftyp_29_4 : ftyp Tryz.prog 29 4 = 27 := by kernel_rfl
@[simp] theorem foff_29_5 : foff Tryz.prog 29 5 = some 7 := by kernel_rfl
@[simp] theorem ftyp_29_5 : ftyp Tryz.prog 29 5 = 3 := by kernel_rfl
@[simp] theorem known_29 : knownF Tryz.prog 29 = true := by kernel_rfl
@[simp] theorem zero_29 : azero Tryz.prog 29 = some [.int .i64 0, .str [], .str [], .slice [], .int .i64 0, .slice [], .slice [], .int .i64 0] := by kernel_rfl
@[simp] theorem nils_29 : nilPos Tryz.prog 29 = [3, 5, 6] := by kernel_rfl
@[simp] theorem app_29 : appOk Tryz.prog 29 = true := by kernel_rfl
@[simp] theorem eby_29 : ebytes Tryz.prog 29 = 128 := by kernel_rfl
@[simp] theorem info_31 : (Tryz.prog.info? 31).isSome = true := by kernel_rfl
@[simp] theorem agg_31 : aggO Tryz.prog 31 = some true := by kernel_rfl
@[simp] theorem esz_31 : esz Tryz.prog 31 = 9 := by kernel_rfl
@[simp] theorem conc_31 : Tryz.prog.concrete 31 = true := by kernel_rfl
@[simp] theorem foff_31_0 : foff Tryz.prog 31 0 = some 0 := by kernel_rfl
@[simp] theorem ftyp_31_0 : ftyp Tryz.prog 31 0 = 23 := by kernel_rfl
@[simp] theorem foff_31_1 : foff Tryz.prog 31 1 = some 1 := by kernel_rfl
@[simp] theorem ftyp_31_1 : ftyp Tryz.prog 31 1 = 29 := by kernel_rfl
@[simp] theorem known_31 : knownF Tryz.prog 31 = true := by kernel_rfl
@[simp] theorem zero_31 : azero Tryz.prog 31 = some [.slice [], .int .i64 0, .str [], .str [], .slice [], .int .i64 0, .slice [], .slice [], .int .i64 0] := by kernel_rfl
@[simp] theorem nils_31 : nilPos Tryz.prog 31 = [0, 4, 6, 7] := by kernel_rfl
@[simp] theorem app_31 : appOk Tryz.prog 31 = true := by kernel_rfl
@[simp] theorem eby_31 : ebytes Tryz.prog 31 = 152 := by kernel_rfl
@[simp] theorem info_37 : (Tryz.prog.info? 37).isSome = true := by kernel_rfl
@[simp] theorem agg_37 : aggO Tryz.prog 37 = some false := by kernel_rfl
@[simp] theorem esz_37 : esz Tryz.prog 37 = 1 := by kernel_rfl
@[simp] theorem funct_37 : funcT Tryz.prog 37 = true := by kernel_rfl
@[simp] theorem conc_37 : Tryz.prog.concrete 37 = true := by kernel_rfl
@[simp] theorem zero_37 : azero Tryz.prog 37 = some [.nilFunc] := by kernel_rfl
@[simp] theorem nils_37 : nilPos Tryz.prog 37 = [] := by kernel_rfl
@[simp] theorem app_37 : appOk Tryz.prog 37 = true := by kernel_rfl
@[simp] theorem eby_37 : ebytes Tryz.prog 37 = 8 := by kernel_rfl
@[simp] theorem info_38 : (Tryz.prog.info? 38).isSome = true := by kernel_rfl
@[simp] theorem agg_38 : aggO Tryz.prog 38 = some false := by kernel_rfl
@[simp] theorem esz_38 : esz Tryz.prog 38 = 1 := by kernel_rfl
@[simp] theorem elem_38 : elemT Tryz.prog 38 = some 9 := by kernel_rfl
@[simp] theorem conc_38 : Tryz.prog.concrete 38 = true := by kernel_rfl
@[simp] theorem zero_38 : azero Tryz.prog 38 = some [.slice []] := by kernel_rfl
@[simp] theorem nils_38 : nilPos Tryz.prog 38 = [0] := by kernel_rfl
@[simp] theorem app_38 : appOk Tryz.prog 38 = true := by kernel_rfl
@[simp] theorem eby_38 : ebytes Tryz.prog 38 = 24 := by kernel_rfl
@[simp] theorem info_39 : (Tryz.prog.info? 39).isSome = true := by kernel_rfl
@[simp] theorem agg_39 : aggO Tryz.prog 39 = some false := by kernel_rfl
@[simp] theorem esz_39 : esz Tryz.prog 39 = 1 := by kernel_rfl
@[simp] theorem elem_39 : elemT Tryz.prog 39 = some 107 := by kernel_rfl
@[simp] theorem conc_39 : Tryz.prog.concrete 39 = true := by kernel_rfl
@[simp] theorem zero_39 : azero Tryz.prog 39 = some [.slice []] := by kernel_rfl
@[simp] theorem nils_39 : nilPos Tryz.prog 39 = [0] := by kernel_rfl
@[simp] theorem app_39 : appOk Tryz.prog 39 = true := by kernel_rfl
@[simp] theorem eby_39 : ebytes Tryz.prog 39 = 24 := by kernel_rfl
@[simp] theorem info_40 : (Tryz.prog.info? 40).isSome = true := by kernel_rfl
@[simp] theorem agg_40 : aggO Tryz.prog 40 = some false := by kernel_rfl
@[simp] theorem esz_40 : esz Tryz.prog 40 = 1 := by kernel_rfl
@[simp] theorem elem_40 : elemT Tryz.prog 40 = some 111 := by kernel_rfl
@[simp] theorem conc_40 : Tryz.prog.concrete 40 = true := by kernel_rfl
@[simp] theorem zero_40 : azero Tryz.prog 40 = some [.slice []] := by kernel_rfl
@[simp] theorem nils_40 : nilPos Tryz.prog 40 = [0] := by kernel_rfl
@[simp] theorem app_40 : appOk Tryz.prog 40 = true := by kernel_rfl
@[simp] theorem eby_40 : ebytes Tryz.prog 40 = 24 := by kernel_rfl
@[simp] theorem info_41 : (Tryz.prog.info? 41).isSome = true := by kernel_rfl
@[simp] theorem agg_41 : aggO Tryz.prog 41 = some false := by kernel_rfl
@[simp] theorem esz_41 : esz Tryz.prog 41 = 1 := by kernel_rfl
@[simp] theorem elem_41 : elemT Tryz.prog 41 = some 43 := by kernel_rfl
@[simp] theorem conc_41 : Tryz.prog.concrete 41 = true := by kernel_rfl
@[simp] theorem zero_41 : azero Tryz.prog 41 = some [.slice []] := by kernel_rfl
@[simp] theorem nils_41 : nilPos Tryz.prog 41 = [0] := by kernel_rfl
@[simp] theorem app_41 : appOk Tryz.prog 41 = true := by kernel_rfl
@[simp] theorem eby_41 : ebytes Tryz.prog 41 = 24 := by kernel_rfl
@[simp] theorem info_43 : (Tryz.prog.info? 43).isSome = true := by kernel_rfl
@[simp] theorem agg_43 : aggO Tryz.prog 43 = some true := by kernel_rfl
@[simp] theorem esz_43 : esz Tryz.prog 43 = 7 := by kernel_rfl
@[simp] theorem conc_43 : Tryz.prog.concrete 43 = true := by kernel_rfl
@[simp] theorem foff_43_0 : foff Tryz.prog 43 0 = some 0 := by kernel_rfl
@[simp] theorem ftyp_43_0 : ftyp Tryz.prog 43 0 = 9 := by kernel_rfl
@[simp] theorem foff_43_1 : foff Tryz.prog 43 1 = some 1 := by kernel_rfl
@[simp] theorem ftyp_43_1 : ftyp Tryz.prog 43 1 = 39 := by kernel_rfl
@[simp] theorem foff_43_2 : foff Tryz.prog 43 2 = some 2 := by kernel_rfl
@[simp] theorem ftyp_43_2 : ftyp Tryz.prog 43 2 = 40 := by kernel_rfl
@[simp] theorem foff_43_3 : foff Tryz.prog 43 3 = some 3 := by kernel_rfl
@[simp] theorem ftyp_43_3 : ftyp Tryz.prog 43 3 = 26 := by kernel_rfl
@[simp] theorem foff_43_4 : foff Tryz.prog 43 4 = some 6 := by kernel_rfl
@[simp] theorem ftyp_43_4 : ftyp Tryz.prog 43 4 = 3 := by kernel_rfl
@[simp] theorem known_43 : knownF Tryz.prog 43 = true := by kernel_rfl
@[simp] theorem zero_43 : azero Tryz.prog 43 = some [.str [], .slice [], .slice [], .str [], .slice [], .int .i64 0, .int .i64 0] := by kernel_rfl
@[simp] theorem nils_43 : nilPos Tryz.prog 43 = [1, 2, 4] := by kernel_rfl
@[simp] theorem app_43 : appOk Tryz.prog 43 = true := by kernel_rfl
@[simp] theorem eby_43 : ebytes Tryz.prog 43 = 120 := by kernel_rfl
@[simp] theorem info_45 : (Tryz.prog.info? 45).isSome = true := by kernel_rfl
@[simp] theorem agg_45 : aggO Tryz.prog 45 = some true := by kernel_rfl
@[simp] theorem esz_45 : esz Tryz.prog 45 = 23 := by kernel_rfl
@[simp] theorem conc_45 : Tryz.prog.concrete 45 = true := by kernel_rfl
@[simp] theorem foff_45_0 : foff Tryz.prog 45 0 = some 0 := by kernel_rfl
@[simp] theorem ftyp_45_0 : ftyp Tryz.prog 45 0 = 3 := by kernel_rfl
@[simp] theorem foff_45_1 : foff Tryz.prog 45 1 = some 1 := by kernel_rfl
@[simp] theorem ftyp_45_1 : ftyp Tryz.prog 45 1 = 9 := by kernel_rfl
@[simp] theorem foff_45_2 : foff Tryz.prog 45 2 = some 2 := by kernel_rfl
@[simp] theorem ftyp_45_2 : ftyp Tryz.prog 45 2 = 39 := by kernel_rfl
@[simp] theorem foff_45_3 : foff Tryz.prog 45 3 = some 3 := by kernel_rfl
@[simp] theorem ftyp_45_3 : ftyp Tryz.prog 45 3 = 40 := by kernel_rfl
@[simp] theorem foff_45_4 : foff Tryz.prog 45 4 = some 4 := by kernel_rfl
@[simp] theorem ftyp_45_4 : ftyp Tryz.prog 45 4 = 41 := by kernel_rfl
@[simp] theorem foff_45_5 : foff Tryz.prog 45 5 = some 5 := by kernel_rfl
@[simp] theorem ftyp_45_5 : ftyp Tryz.prog 45 5 = 9 := by kernel_rfl
@[simp] theorem foff_45_6 : foff Tryz.prog 45 6 = some 6 := by kernel_rfl
@[simp] theorem ftyp_45_6 : ftyp Tryz.prog 45 6 = 38 := by kernel_rfl
@[simp] theorem foff_45_7 : foff Tryz.prog 45 7 = some 7 := by kernel_rfl
@[simp] theorem ftyp_45_7 : ftyp Tryz.prog 45 7 = 43 := by kernel_rfl
@[simp] theorem foff_45_8 : foff Tryz.prog 45 8 = some 14 := by kernel_rfl
@[simp] theorem ftyp_45_8 : ftyp Tryz.prog 45 8 = 29 := by kernel_rfl
@[simp] theorem foff_45_9 : foff Tryz.prog 45 9 = some 22 := by kernel_rfl
@[simp] theorem ftyp_45_9 : ftyp Tryz.prog 45 9 = 3 := by kernel_rfl
@[simp] theorem known_45 : knownF Tryz.prog 45 = true := by kernel_rfl
@[simp] theorem zero_45 : azero Tryz.prog 45 = some [.int .i64 0, .str [], .slice [], .slice [], .slice [], .str [], .slice [], .str [], .slice [], .slice [], .str [], .slice [], .int .i64 0, .int .i64 0, .int .i64 0, .str [], .str [], .slice [], .int .i64 0, .slice [], .slice [], .int .i64 0, .int .i64 0] := by kernel_rfl
@[simp] theorem nils_45 : nilPos Tryz.prog 45 = [2, 3, 4, 6, 8, 9, 11, 17, 19, 20] := by kernel_rfl
@[simp] theorem app_45 : appOk Tryz.prog 45 = true := by kernel_rfl
@[simp] theorem eby_45 : ebytes Tryz.prog 45 = 392 := by kernel_rfl
@[simp] theorem info_49 : (Tryz.prog.info? 49).isSome = true := by kernel_rfl
@[simp] theorem agg_49 : aggO Tryz.prog 49 = some false := by kernel_rfl
@[simp] theorem esz_49 : esz Tryz.prog 49 = 1 := by kernel_rfl
@[simp] theorem ifacet_49 : ifaceT Tryz.prog 49 = true := by kernel_rfl
@[simp] theorem zero_49 : azero Tryz.prog 49 = some [.nilIface] := by kernel_rfl
@[simp] theorem nils_49 : nilPos Tryz.prog 49 = [] := by kernel_rfl
@[simp] theorem app_49 : appOk Tryz.prog 49 = true := by kernel_rfl
@[simp] theorem eby_49 : ebytes Tryz.prog 49 = 16 := by kernel_rfl
@[simp] theorem info_56 : (Tryz.prog.info? 56).isSome = true := by kernel_rfl
@[simp] theorem agg_56 : aggO Tryz.prog 56 = some false := by kernel_rfl
@[simp] theorem esz_56 : esz Tryz.prog 56 = 1 := by kernel_rfl
@[simp] theorem elem_56 : elemT Tryz.prog 56 = some 88 := by kernel_rfl
@[simp] theorem conc_56 : Tryz.prog.concrete 56 = true := by kernel_rfl
@[simp] theorem zero_56 : azero Tryz.prog 56 = some [.slice []] := by kernel_rfl
@[simp] theorem nils_56 : nilPos Tryz.prog 56 = [0] := by kernel_rfl
@[simp] theorem app_56 : appOk Tryz.prog 56 = true := by kernel_rfl
@[simp] theorem eby_56 : ebytes Tryz.prog 56 = 24 := by kernel_rfl
@[simp] theorem info_58 : (Tryz.prog.info? 58).isSome = true := by kernel_rfl
@[simp] theorem agg_58 : aggO Tryz.prog 58 = some true := by kernel_rfl
@[simp] theorem esz_58 : esz Tryz.prog 58 = 2 := by kernel_rfl
@[simp] theorem conc_58 : Tryz.prog.concrete 58 = true := by kernel_rfl
@[simp] theorem foff_58_0 : foff Tryz.prog 58 0 = some 0 := by kernel_rfl
@[simp] theorem ftyp_58_0 : ftyp Tryz.prog 58 0 = 56 := by kernel_rfl
@[simp] theorem foff_58_1 : foff Tryz.prog 58 1 = some 1 := by kernel_rfl
@[simp] theorem ftyp_58_1 : ftyp Tryz.prog 58 1 = 3 := by kernel_rfl
@[simp] theorem known_58 : knownF Tryz.prog 58 = true := by kernel_rfl
@[simp] theorem zero_58 : azero Tryz.prog 58 = some [.slice [], .int .i64 0] := by kernel_rfl
@[simp] theorem nils_58 : nilPos Tryz.prog 58 = [0] := by kernel_rfl
@[simp] theorem app_58 : appOk Tryz.prog 58 = true := by kernel_rfl
@[simp] theorem eby_58 : ebytes Tryz.prog 58 = 32 := by kernel_rfl
@[simp] theorem info_63 : (Tryz.prog.info? 63).isSome = true := by kernel_rfl
@[simp] theorem agg_63 : aggO Tryz.prog 63 = some false := by kernel_rfl
@[simp] theorem esz_63 : esz Tryz.prog 63 = 1 := by kernel_rfl
@[simp] theorem funct_63 : funcT Tryz.prog 63 = true := by kernel_rfl
@[simp] theorem conc_63 : Tryz.prog.concrete 63 = true := by kernel_rfl
@[simp] theorem zero_63 : azero Tryz.prog 63 = some [.nilFunc] := by kernel_rfl
@[simp] theorem nils_63 : nilPos Tryz.prog 63 = [] := by kernel_rfl
@[simp] theorem app_63 : appOk Tryz.prog 63 = true := by kernel_rfl
@[simp] theorem eby_63 : ebytes Tryz.prog 63 = 8 := by kernel_rfl
@[simp] theorem info_66 : (Tryz.prog.info? 66).isSome = true := by kernel_rfl
@[simp] theorem agg_66 : aggO Tryz.prog 66 = some true := by kernel_rfl
@[simp] theorem esz_66 : esz Tryz.prog 66 = 3 := by kernel_rfl
@[simp] theorem conc_66 : Tryz.prog.concrete 66 = true := by kernel_rfl
@[simp] theorem foff_66_0 : foff Tryz.prog 66 0 = some 0 := by kernel_rfl
@[simp] theorem ftyp_66_0 : ftyp Tryz.prog 66 0 = 56 := by kernel_rfl
@[simp] theorem foff_66_1 : foff Tryz.prog 66 1 = some 1 := by kernel_rfl
@[simp] theorem ftyp_66_1 : ftyp Tryz.prog 66 1 = 3 := by kernel_rfl
@[simp] theorem foff_66_2 : foff Tryz.prog 66 2 = some 2 := by kernel_rfl
@[simp] theorem ftyp_66_2 : ftyp Tryz.prog 66 2 = 4 := by kernel_rfl
@[simp] theorem known_66 : knownF Tryz.prog 66 = true := by kernel_rfl
@[simp] theorem zero_66 : azero Tryz.prog 66 = some [.slice [], .int .i64 0, .bool false] := by kernel_rfl
@[simp] theorem nils_66 : nilPos Tryz.prog 66 = [0] := by kernel_rfl
@[simp] theorem app_66 : appOk Tryz.prog 66 = true := by kernel_rfl
@[simp] theorem eby_66 : ebytes Tryz.prog 66 = 40 := by kernel_rfl
@[simp] theorem info_88 : (Tryz.prog.info? 88).isSome = true := by kernel_rfl
@[simp] theorem agg_88 : aggO Tryz.prog 88 = some true := by kernel_rfl
@[simp] theorem esz_88 : esz Tryz.prog 88 = 3 := by kernel_rfl
@[simp] theorem conc_88 : Tryz.prog.concrete 88 = true := by kernel_rfl
@[simp] theorem foff_88_0 : foff Tryz.prog 88 0 = some 0 := by kernel_rfl
@[simp] theorem ftyp_88_0 : ftyp Tryz.prog 88 0 = 3 := by kernel_rfl
@[simp] theorem foff_88_1 : foff Tryz.prog 88 1 = some 1 := by kernel_rfl
@[simp] theorem ftyp_88_1 : ftyp Tryz.prog 88 1 = 9 := by kernel_rfl
@[simp] theorem foff_88_2 : foff Tryz.prog 88 2 = some 2 := by kernel_rfl
@[simp] theorem ftyp_88_2 : ftyp Tryz.prog 88 2 = 3 := by kernel_rfl
@[simp] theorem known_88 : knownF Tryz.prog 88 = true := by kernel_rfl
@[simp] theorem flats_88 : flatS Tryz.prog 88 = some [3, 9, 3] := by kernel_rfl
@[simp] theorem zero_88 : azero Tryz.prog 88 = some [.int .i64 0, .str [], .int .i64 0] := by kernel_rfl
@[simp] theorem nils_88 : nilPos Tryz.prog 88 = [] := by kernel_rfl
@[simp] theorem app_88 : appOk Tryz.prog 88 = true := by kernel_rfl
@[simp] theorem eby_88 : ebytes Tryz.prog 88 = 32 := by kernel_rfl
@[simp] theorem info_95 : (Tryz.prog.info? 95).isSome = true := by kernel_rfl
@[simp] theorem agg_95 : aggO Tryz.prog 95 = some false := by kernel_rfl
@[simp] theorem esz_95 : esz Tryz.prog 95 = 1 := by kernel_rfl
@[simp] theorem ikind_95 : ikind Tryz.prog 95 = some .i64 := by kernel_rfl
@[simp] theorem under_95 : Tryz.prog.underlying 95 = some (.int .i64) := by kernel_rfl
@[simp] theorem conc_95 : Tryz.prog.concrete 95 = true := by kernel_rfl
@[simp] theorem zero_95 : azero Tryz.prog 95 = some [.int .i64 0] := by kernel_rfl
@[simp] theorem nils_95 : nilPos Tryz.prog 95 = [] := by kernel_rfl
@[simp] theorem app_95 : appOk Tryz.prog 95 = true := by kernel_rfl
@[simp] theorem eby_95 : ebytes Tryz.prog 95 = 8 := by kernel_rfl
@[simp] theorem info_102 : (Tryz.prog.info? 102).isSome = true := by kernel_rfl
@[simp] theorem agg_102 : aggO Tryz.prog 102 = some false := by kernel_rfl
@[simp] theorem esz_102 : esz Tryz.prog 102 = 1 := by kernel_rfl
@[simp] theorem funct_102 : funcT Tryz.prog 102 = true := by kernel_rfl
@[simp] theorem conc_102 : Tryz.prog.concrete 102 = true := by kernel_rfl
@[simp] theorem zero_102 : azero Tryz.prog 102 = some [.nilFunc] := by kernel_rfl
@[simp] theorem nils_102 : nilPos Tryz.prog 102 = [] := by kernel_rfl
@[simp] theorem app_102 : appOk Tryz.prog 102 = true := by kernel_rfl
@[simp] theorem eby_102 : ebytes Tryz.prog 102 = 8 := by kernel_rfl
@[simp] theorem info_103 : (Tryz.prog.info? 103).isSome = true := by kernel_rfl
@[simp] theorem agg_103 : aggO Tryz.prog 103 = some false := by kernel_rfl
@[simp] theorem esz_103 : esz Tryz.prog 103 = 1 := by kernel_rfl
@[simp] theorem funct_103 : funcT Tryz.prog 103 = true := by kernel_rfl
@[simp] theorem conc_103 : Tryz.prog.concrete 103 = true := by kernel_rfl
@[simp] theorem zero_103 : azero Tryz.prog 103 = some [.nilFunc] := by kernel_rfl
@[simp] theorem nils_103 : nilPos Tryz.prog 103 = [] := by kernel_rfl
@[simp] theorem app_103 : appOk Tryz.prog 103 = true := by kernel_rfl
@[simp] theorem eby_103 : ebytes Tryz.prog 103 = 8 := by kernel_rfl
@[simp] theorem info_107 : (Tryz.prog.info? 107).isSome = true := by kernel_rfl
@[simp] theorem agg_107 : aggO Tryz.prog 107 = some true := by kernel_rfl
@[simp] theorem esz_107 : esz Tryz.prog 107 = 5 := by kernel_rfl
@[simp] theorem conc_107 : Tryz.prog.concrete 107 = true := by kernel_rfl
@[simp] theorem foff_107_0 : foff Tryz.prog 107 0 = some 0 := by kernel_rfl
@[simp] theorem ftyp_107_0 : ftyp Tryz.prog 107 0 = 9 := by kernel_rfl
@[simp] theorem foff_107_1 : foff Tryz.prog 107 1 = some 1 := by kernel_rfl
@[simp] theorem ftyp_107_1 : ftyp Tryz.prog 107 1 = 26 := by kernel_rfl
@[simp] theorem foff_107_2 : foff Tryz.prog 107 2 = some 4 := by kernel_rfl
@[simp] theorem ftyp_107_2 : ftyp Tryz.prog 107 2 = 3 := by kernel_rfl
@[simp] theorem known_107 : knownF Tryz.prog 107 = true := by kernel_rfl
@[simp] theorem zero_107 : azero Tryz.prog 107 = some [.str [], .str [], .slice [], .int .i64 0, .int .i64 0] := by kernel_rfl
@[simp] theorem nils_107 : nilPos Tryz.prog 107 = [2] := by kernel_rfl
@[simp] theorem app_107 : appOk Tryz.prog 107 = true := by kernel_rfl
@[simp] theorem eby_107 : ebytes Tryz.prog 107 = 72 := by kernel_rfl
@[simp] theorem info_108 : (Tryz.prog.info? 108).isSome = true := by kernel_rfl
@[simp] theorem agg_108 : aggO Tryz.prog 108 = some false := by kernel_rfl
@[simp] theorem esz_108 : esz Tryz.prog 108 = 1 := by kernel_rfl
@[simp] theorem funct_108 : funcT Tryz.prog 108 = true := by kernel_rfl
@[simp] theorem conc_108 : Tryz.prog.concrete 108 = true := by kernel_rfl
@[simp] theorem zero_108 : azero Tryz.prog 108 = some [.nilFunc] := by kernel_rfl
@[simp] theorem nils_108 : nilPos Tryz.prog 108 = [] := by kernel_rfl
@[simp] theorem app_108 : appOk Tryz.prog 108 = true := by kernel_rfl
@[simp] theorem eby_108 : ebytes Tryz.prog 108 = 8 := by kernel_rfl
@[simp] theorem info_111 : (Tryz.prog.info? 111).isSome = true := by kernel_rfl
@[simp] theorem agg_111 : aggO Tryz.prog 111 = some true := by kernel_rfl
@[simp] theorem esz_111 : esz Tryz.prog 111 = 5 := by kernel_rfl
@[simp] theorem conc_111 : Tryz.prog.concrete 111 = true := by kernel_rfl
@[simp] theorem foff_111_0 : foff Tryz.prog 111 0 = some 0 := by kernel_rfl
@[simp] theorem ftyp_111_0 : ftyp Tryz.prog 111 0 = 9 := by kernel_rfl
@[simp] theorem foff_111_1 : foff Tryz.prog 111 1 = some 1 := by kernel_rfl
@[simp] theorem ftyp_111_1 : ftyp Tryz.prog 111 1 = 26 := by kernel_rfl
@[simp] theorem foff_111_2 : foff Tryz.prog 111 2 = some 4 := by kernel_rfl
@[simp] theorem ftyp_111_2 : ftyp Tryz.prog 111 2 = 3 := by kernel_rfl
@[simp] theorem known_111 : knownF Tryz.prog 111 = true := by kernel_rfl
@[simp] theorem zero_111 : azero Tryz.prog 111 = some [.str [], .str [], .slice [], .int .i64 0, .int .i64 0] := by kernel_rfl
@[simp] theorem nils_111 : nilPos Tryz.prog 111 = [2] := by kernel_rfl
@[simp] theorem app_111 : appOk Tryz.prog 111 = true := by kernel_rfl
@[simp] theorem eby_111 : ebytes Tryz.prog 111 = 72 := by kernel_rfl
@[simp] theorem info_112 : (Tryz.prog.info? 112).isSome = true := by kernel_rfl
@[simp] theorem agg_112 : aggO Tryz.prog 112 = some false := by kernel_rfl
@[simp] theorem esz_112 : esz Tryz.prog 112 = 1 := by kernel_rfl
@[simp] theorem funct_112 : funcT Tryz.prog 112 = true := by kernel_rfl
@[simp] theorem conc_112 : Tryz.prog.concrete 112 = true := by kernel_rfl
@[simp] theorem zero_112 : azero Tryz.prog 112 = some [.nilFunc] := by kernel_rfl
@[simp] theorem nils_112 : nilPos Tryz.prog 112 = [] := by kernel_rfl
@[simp] theorem app_112 : appOk Tryz.prog 112 = true := by kernel_rfl
@[simp] theorem eby_112 : ebytes Tryz.prog 112 = 8 := by kernel_rfl
@[simp] theorem info_129 : (Tryz.prog.info? 129).isSome = true := by kernel_rfl
@[simp] theorem agg_129 : aggO Tryz.prog 129 = some false := by kernel_rfl
@[simp] theorem esz_129 : esz Tryz.prog 129 = 1 := by kernel_rfl
@[simp] theorem elem_129 : elemT Tryz.prog 129 = some 167 := by kernel_rfl
@[simp] theorem conc_129 : Tryz.prog.concrete 129 = true := by kernel_rfl
@[simp] theorem zero_129 : azero Tryz.prog 129 = some [.slice []] := by kernel_rfl
@[simp] theorem nils_129 : nilPos Tryz.prog 129 = [0] := by kernel_rfl
@[simp] theorem app_129 : appOk Tryz.prog 129 = true := by kernel_rfl
@[simp] theorem eby_129 : ebytes Tryz.prog 129 = 24 := by kernel_rfl
@[simp] theorem info_132 : (Tryz.prog.info? 132).isSome = true := by kernel_rfl
@[simp] theorem agg_132 : aggO Tryz.prog 132 = some false := by kernel_rfl
@[simp] theorem esz_132 : esz Tryz.prog 132 = 1 := by kernel_rfl
@[simp] theorem conc_132 : Tryz.prog.concrete 132 = true := by kernel_rfl
@[simp] theorem zero_132 : azero Tryz.prog 132 = some [.nilPtr] := by kernel_rfl
@[simp] theorem nils_132 : nilPos Tryz.prog 132 = [] := by kernel_rfl
@[simp] theorem app_132 : appOk Tryz.prog 132 = true := by kernel_rfl
@[simp] theorem eby_132 : ebytes Tryz.prog 132 = 8 := by kernel_rfl
@[simp] theorem info_135 : (Tryz.prog.info? 135).isSome = true := by kernel_rfl
@[simp] theorem agg_135 : aggO Tryz.prog 135 = some true := by kernel_rfl
@[simp] theorem esz_135 : esz Tryz.prog 135 = 1 := by kernel_rfl
@[simp] theorem conc_135 : Tryz.prog.concrete 135 = true := by kernel_rfl
@[simp] theorem foff_135_0 : foff Tryz.prog 135 0 = some 0 := by kernel_rfl
@[simp] theorem ftyp_135_0 : ftyp Tryz.prog 135 0 = 132 := by kernel_rfl
@[simp] theorem known_135 : knownF Tryz.prog 135 = true := by kernel_rfl
@[simp] theorem zero_135 : azero Tryz.prog 135 = some [.nilPtr] := by kernel_rfl
@[simp] theorem nils_135 : nilPos Tryz.prog 135 = [] := by kernel_rfl
@[simp] theorem app_135 : appOk Tryz.prog 135 = true := by kernel_rfl
@[simp] theorem eby_135 : ebytes Tryz.prog 135 = 8 := by kernel_rfl
@[simp] theorem info_137 : (Tryz.prog.info? 137).isSome = true := by kernel_rfl
@[simp] theorem agg_137 : aggO Tryz.prog 137 = some false := by kernel_rfl
@[simp] theorem esz_137 : esz Tryz.prog 137 = 1 := by kernel_rfl
@[simp] theorem conc_137 : Tryz.prog.concrete 137 = true := by kernel_rfl
@[simp] theorem info_152 : (Tryz.prog.info? 152).isSome = true := by kernel_rfl
@[simp] theorem agg_152 : aggO Tryz.prog 152 = some false := by kernel_rfl
@[simp] theorem esz_152 : esz Tryz.prog 152 = 1 := by kernel_rfl
@[simp] theorem conc_152 : Tryz.prog.concrete 152 = true := by kernel_rfl
@[simp] theorem zero_152 : azero Tryz.prog 152 = some [.nilPtr] := by kernel_rfl
@[simp] theorem nils_152 : nilPos Tryz.prog 152 = [] := by kernel_rfl
@[simp] theorem app_152 : appOk Tryz.prog 152 = true := by kernel_rfl
@[simp] theorem eby_152 : ebytes Tryz.prog 152 = 8 := by kernel_rfl
@[simp] theorem info_154 : (Tryz.prog.info? 154).isSome = true := by kernel_rfl
@[simp] theorem agg_154 : aggO Tryz.prog 154 = some true := by kernel_rfl
@[simp] theorem esz_154 : esz Tryz.prog 154 = 2 := by kernel_rfl
@[simp] theorem conc_154 : Tryz.prog.concrete 154 = true := by kernel_rfl
@[simp] theorem foff_154_0 : foff Tryz.prog 154 0 = some 0 := by kernel_rfl
@[simp] theorem ftyp_154_0 : ftyp Tryz.prog 154 0 = 95 := by kernel_rfl
@[simp] theorem foff_154_1 : foff Tryz.prog 154 1 = some 1 := by kernel_rfl
@[simp] theorem ftyp_154_1 : ftyp Tryz.prog 154 1 = 3 := by kernel_rfl
@[simp] theorem known_154 : knownF Tryz.prog 154 = true := by kernel_rfl
@[simp] theorem flats_154 : flatS Tryz.prog 154 = some [95, 3] := by kernel_rfl
@[simp] theorem zero_154 : azero Tryz.prog 154 = some [.int .i64 0, .int .i64 0] := by kernel_rfl
@[simp] theorem nils_154 : nilPos Tryz.prog 154 = [] := by kernel_rfl
@[simp] theorem app_154 : appOk Tryz.prog 154 = true := by kernel_rfl
@[simp] theorem eby_154 : ebytes Tryz.prog 154 = 16 := by kernel_rfl
@[simp] theorem info_155 : (Tryz.prog.info? 155).isSome = true := by kernel_rfl
@[simp] theorem agg_155 : aggO Tryz.prog 155 = some false := by kernel_rfl
@[simp] theorem esz_155 : esz Tryz.prog 155 = 1 := by kernel_rfl
@[simp] theorem conc_155 : Tryz.prog.concrete 155 = true := by kernel_rfl
@[simp] theorem zero_155 : azero Tryz.prog 155 = some [.nilPtr] := by kernel_rfl
@[simp] theorem nils_155 : nilPos Tryz.prog 155 = [] := by kernel_rfl
@[simp] theorem app_155 : appOk Tryz.prog 155 = true := by kernel_rfl
@[simp] theorem eby_155 : ebytes Tryz.prog 155 = 8 := by kernel_rfl
@[simp] theorem info_167 : (Tryz.prog.info? 167).isSome = true := by kernel_rfl
@[simp] theorem agg_167 : aggO Tryz.prog 167 = some true := by kernel_rfl
@[simp] theorem esz_167 : esz Tryz.prog 167 = 3 := by kernel_rfl
@[simp] theorem conc_167 : Tryz.prog.concrete 167 = true := by kernel_rfl
@[simp] theorem foff_167_0 : foff Tryz.prog 167 0 = some 0 := by kernel_rfl
@[simp] theorem ftyp_167_0 : ftyp Tryz.prog 167 0 = 3 := by kernel_rfl
@[simp] theorem foff_167_1 : foff Tryz.prog 167 1 = some 1 := by kernel_rfl
@[simp] theorem ftyp_167_1 : ftyp Tryz.prog 167 1 = 9 := by kernel_rfl
@[simp] theorem foff_167_2 : foff Tryz.prog 167 2 = some 2 := by kernel_rfl
@[simp] theorem ftyp_167_2 : ftyp Tryz.prog 167 2 = 3 := by kernel_rfl
@[simp] theorem known_167 : knownF Tryz.prog 167 = true := by kernel_rfl
@[simp] theorem flats_167 : flatS Tryz.prog 167 = some [3, 9, 3] := by kernel_rfl
@[simp] theorem zero_167 : azero Tryz.prog 167 = some [.int .i64 0, .str [], .int .i64 0] := by kernel_rfl
@[simp] theorem nils_167 : nilPos Tryz.prog 167 = [] := by kernel_rfl
@[simp] theorem app_167 : appOk Tryz.prog 167 = true := by kernel_rfl
@[simp] theorem eby_167 : ebytes Tryz.prog 167 = 32 := by kernel_rfl
@[simp] theorem info_173 : (Tryz.prog.info? 173).isSome = true := by kernel_rfl
@[simp] theorem agg_173 : aggO Tryz.prog 173 = some true := by kernel_rfl
@[simp] theorem esz_173 : esz Tryz.prog 173 = 2 := by kernel_rfl
@[simp] theorem conc_173 : Tryz.prog.concrete 173 = true := by kernel_rfl
@[simp] theorem foff_173_0 : foff Tryz.prog 173 0 = some 0 := by kernel_rfl
@[simp] theorem ftyp_173_0 : ftyp Tryz.prog 173 0 = 129 := by kernel_rfl
@[simp] theorem foff_173_1 : foff Tryz.prog 173 1 = some 1 := by kernel_rfl
@[simp] theorem ftyp_173_1 : ftyp Tryz.prog 173 1 = 49 := by kernel_rfl
@[simp] theorem known_173 : knownF Tryz.prog 173 = true := by kernel_rfl
@[simp] theorem zero_173 : azero Tryz.prog 173 = some [.slice [], .nilIface] := by kernel_rfl
@[simp] theorem nils_173 : nilPos Tryz.prog 173 = [0] := by kernel_rfl
@[simp] theorem app_173 : appOk Tryz.prog 173 = true := by kernel_rfl
@[simp] theorem eby_173 : ebytes Tryz.prog 173 = 40 := by kernel_rfl
@[simp] theorem info_184 : (Tryz.prog.info? 184).isSome = true := by kernel_rfl
@[simp] theorem agg_184 : aggO Tryz.prog 184 = some false := by kernel_rfl
@[simp] theorem esz_184 : esz Tryz.prog 184 = 1 := by kernel_rfl
@[simp] theorem conc_184 : Tryz.prog.concrete 184 = true := by kernel_rfl
@[simp] theorem zero_184 : azero Tryz.prog 184 = some [.nilPtr] := by kernel_rfl
@[simp] theorem nils_184 : nilPos Tryz.prog 184 = [] := by kernel_rfl
@[simp] theorem app_184 : appOk Tryz.prog 184 = true := by kernel_rfl
@[simp] theorem eby_184 : ebytes Tryz.prog 184 = 8 := by kernel_rfl
@[simp] theorem info_185 : (Tryz.prog.info? 185).isSome = true := by kernel_rfl
@[simp] theorem agg_185 : aggO Tryz.prog 185 = some false := by kernel_rfl
@[simp] theorem esz_185 : esz Tryz.prog 185 = 1 := by kernel_rfl
@[simp] theorem ikind_185 : ikind Tryz.prog 185 = some .u64 := by kernel_rfl
@[simp] theorem under_185 : Tryz.prog.underlying 185 = some (.int .u64) := by kernel_rfl
@[simp] theorem conc_185 : Tryz.prog.concrete 185 = true := by kernel_rfl
@[simp] theorem zero_185 : azero Tryz.prog 185 = some [.int .u64 0] := by kernel_rfl
@[simp] theorem nils_185 : nilPos Tryz.prog 185 = [] := by kernel_rfl
@[simp] theorem app_185 : appOk Tryz.prog 185 = true := by kernel_rfl
@[simp] theorem eby_185 : ebytes Tryz.prog 185 = 8 := by kernel_rfl
@[simp] theorem info_187 : (Tryz.prog.info? 187).isSome = true := by kernel_rfl
@[simp] theorem agg_187 : aggO Tryz.prog 187 = some true := by kernel_rfl
@[simp] theorem esz_187 : esz Tryz.prog 187 = 3 := by kernel_rfl
@[simp] theorem conc_187 : Tryz.prog.concrete 187 = true := by kernel_rfl
@[simp] theorem foff_187_0 : foff Tryz.prog 187 0 = some 0 := by kernel_rfl
@[simp] theorem ftyp_187_0 : ftyp Tryz.prog 187 0 = 17 := by kernel_rfl
@[simp] theorem foff_187_1 : foff Tryz.prog 187 1 = some 1 := by kernel_rfl
@[simp] theorem ftyp_187_1 : ftyp Tryz.prog 187 1 = 184 := by kernel_rfl
@[simp] theorem foff_187_2 : foff Tryz.prog 187 2 = some 2 := by kernel_rfl
@[simp] theorem ftyp_187_2 : ftyp Tryz.prog 187 2 = 185 := by kernel_rfl
@[simp] theorem known_187 : knownF Tryz.prog 187 = true := by kernel_rfl
@[simp] theorem zero_187 : azero Tryz.prog 187 = some [.nilPtr, .nilPtr, .int .u64 0] := by kernel_rfl
@[simp] theorem nils_187 : nilPos Tryz.prog 187 = [] := by kernel_rfl
@[simp] theorem app_187 : appOk Tryz.prog 187 = true := by kernel_rfl
@[simp] theorem eby_187 : ebytes Tryz.prog 187 = 24 := by kernel_rfl
@[simp] theorem info_190 : (Tryz.prog.info? 190).isSome = true := by kernel_rfl
@[simp] theorem agg_190 : aggO Tryz.prog 190 = some false := by kernel_rfl
@[simp] theorem esz_190 : esz Tryz.prog 190 = 1 := by kernel_rfl
@[simp] theorem ifacet_190 : ifaceT Tryz.prog 190 = true := by kernel_rfl
@[simp] theorem zero_190 : azero Tryz.prog 190 = some [.nilIface] := by kernel_rfl
@[simp] theorem nils_190 : nilPos Tryz.prog 190 = [] := by kernel_rfl
@[simp] theorem app_190 : appOk Tryz.prog 190 = true := by kernel_rfl
@[simp] theorem eby_190 : ebytes Tryz.prog 190 = 16 := by kernel_rfl
@[simp] theorem info_192 : (Tryz.prog.info? 192).isSome = true := by kernel_rfl
@[simp] theorem agg_192 : aggO Tryz.prog 192 = some false := by kernel_rfl
@[simp] theorem esz_192 : esz Tryz.prog 192 = 1 := by kernel_rfl
@[simp] theorem ikind_192 : ikind Tryz.prog 192 = some .u8 := by kernel_rfl
@[simp] theorem under_192 : Tryz.prog.underlying 192 = some (.int .u8) := by kernel_rfl
@[simp] theorem conc_192 : Tryz.prog.concrete 192 = true := by kernel_rfl
@[simp] theorem zero_192 : azero Tryz.prog 192 = some [.int .u8 0] := by kernel_rfl
@[simp] theorem nils_192 : nilPos Tryz.prog 192 = [] := by kernel_rfl
@[simp] theorem app_192 : appOk Tryz.prog 192 = true := by kernel_rfl
@[simp] theorem eby_192 : ebytes Tryz.prog 192 = 1 := by kernel_rfl
@[simp] theorem info_199 : (Tryz.prog.info? 199).isSome = true := by kernel_rfl
@[simp] theorem agg_199 : aggO Tryz.prog 199 = some true := by kernel_rfl
@[simp] theorem esz_199 : esz Tryz.prog 199 = 7 := by kernel_rfl
@[simp] theorem arrt_199 : arrT Tryz.prog 199 = some (7, 9) := by kernel_rfl
@[simp] theorem conc_199 : Tryz.prog.concrete 199 = true := by kernel_rfl
@[simp] theorem zero_199 : azero Tryz.prog 199 = some [.str [], .str [], .str [], .str [], .str [], .str [], .str []] := by kernel_rfl
@[simp] theorem nils_199 : nilPos Tryz.prog 199 = [] := by kernel_rfl
@[simp] theorem app_199 : appOk Tryz.prog 199 = true := by kernel_rfl
@[simp] theorem eby_199 : ebytes Tryz.prog 199 = 112 := by kernel_rfl
@[simp] theorem info_205 : (Tryz.prog.info? 205).isSome = true := by kernel_rfl
@[simp] theorem agg_205 : aggO Tryz.prog 205 = some false := by kernel_rfl
@[simp] theorem esz_205 : esz Tryz.prog 205 = 1 := by kernel_rfl
@[simp] theorem ikind_205 : ikind Tryz.prog 205 = some .u64 := by kernel_rfl
@[simp] theorem under_205 : Tryz.prog.underlying 205 = some (.int .u64) := by kernel_rfl
@[simp] theorem conc_205 : Tryz.prog.concrete 205 = true := by kernel_rfl
@[simp] theorem zero_205 : azero Tryz.prog 205 = some [.int .u64 0] := by kernel_rfl
@[simp] theorem nils_205 : nilPos Tryz.prog 205 = [] := by kernel_rfl
@[simp] theorem app_205 : appOk Tryz.prog 205 = true := by kernel_rfl
@[simp] theorem eby_205 : ebytes Tryz.prog 205 = 8 := by kernel_rfl
@[simp] theorem info_237 : (Tryz.prog.info? 237).isSome = true := by kernel_rfl
@[simp] theorem agg_237 : aggO Tryz.prog 237 = some false := by kernel_rfl
@[simp] theorem esz_237 : esz Tryz.prog 237 = 1 := by kernel_rfl
@[simp] theorem ikind_237 : ikind Tryz.prog 237 = some .u32 := by kernel_rfl
@[simp] theorem under_237 : Tryz.prog.underlying 237 = some (.int .u32) := by kernel_rfl
@[simp] theorem conc_237 : Tryz.prog.concrete 237 = true := by kernel_rfl
@[simp] theorem zero_237 : azero Tryz.prog 237 = some [.int .u32 0] := by kernel_rfl
@[simp] theorem nils_237 : nilPos Tryz.prog 237 = [] := by kernel_rfl
@[simp] theorem app_237 : appOk Tryz.prog 237 = true := by kernel_rfl
@[simp] theorem eby_237 : ebytes Tryz.prog 237 = 4 := by kernel_rfl
@[simp] theorem info_240 : (Tryz.prog.info? 240).isSome = true := by kernel_rfl
@[simp] theorem agg_240 : aggO Tryz.prog 240 = some false := by kernel_rfl
@[simp] theorem esz_240 : esz Tryz.prog 240 = 1 := by kernel_rfl
@[simp] theorem ikind_240 : ikind Tryz.prog 240 = some .u64 := by kernel_rfl
@[simp] theorem under_240 : Tryz.prog.underlying 240 = some (.int .u64) := by kernel_rfl
@[simp] theorem conc_240 : Tryz.prog.concrete 240 = true := by kernel_rfl
@[simp] theorem zero_240 : azero Tryz.prog 240 = some [.int .u64 0] := by kernel_rfl
@[simp] theorem nils_240 : nilPos Tryz.prog 240 = [] := by kernel_rfl
@[simp] theorem app_240 : appOk Tryz.prog 240 = true := by kernel_rfl
@[simp] theorem eby_240 : ebytes Tryz.prog 240 = 8 := by kernel_rfl
@[simp] theorem info_244 : (Tryz.prog.info? 244).isSome = true := by kernel_rfl
@[simp] theorem agg_244 : aggO Tryz.prog 244 = some false := by kernel_rfl
@[simp] theorem esz_244 : esz Tryz.prog 244 = 1 := by kernel_rfl
@[simp] theorem elem_244 : elemT Tryz.prog 244 = some 3 := by kernel_rfl
@[simp] theorem conc_244 : Tryz.prog.concrete 244 = true := by kernel_rfl
@[simp] theorem zero_244 : azero Tryz.prog 244 = some [.slice []] := by kernel_rfl
@[simp] theorem nils_244 : nilPos Tryz.prog 244 = [0] := by kernel_rfl
@[simp] theorem app_244 : appOk Tryz.prog 244 = true := by kernel_rfl
@[simp] theorem eby_244 : ebytes Tryz.prog 244 = 24 := by kernel_rfl
theorem mixed : Tryz.prog.follows .mixedOrders = true := by kernel_rfl
end Pt
end Go.Proofs.YtfgafcjebfjepaaGreatDoor
