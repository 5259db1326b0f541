/- The closed facts on the types of this translation that the walk asks; made by program. -/
import Derived.Test.YtocmdbojefgpbaaGreatDoorProg
import Derived.Test.YtocmdbojefgpbaaGreatDoorPvOc
import Derived.KernelRfl
set_option linter.all false
namespace Go.Proofs.YtocmdbojefgpbaaGreatDoor
open Go Go.Pv
namespace Pt
@[simp] theorem info_1 : (Tryz.prog.info? 1).isSome = true := by kernel_rfl
@[simp] theorem agg_1 : aggO Tryz.prog 1 = some false := by kernel_rfl
@[simp] theorem esz_1 : esz Tryz.prog 1 = 1 := by kernel_rfl
@[simp] theorem funct_1 : funcT Tryz.prog 1 = true := by kernel_rfl
@[simp] theorem conc_1 : Tryz.prog.concrete 1 = true := by kernel_rfl
@[simp] theorem zero_1 : azero Tryz.prog 1 = some [.nilFunc] := by kernel_rfl
@[simp] theorem nils_1 : nilPos Tryz.prog 1 = [] := by kernel_rfl
@[simp] theorem app_1 : appOk Tryz.prog 1 = true := by kernel_rfl
@[simp] theorem eby_1 : ebytes Tryz.prog 1 = 8 := by kernel_rfl
@[simp] theorem info_2 : (Tryz.prog.info? 2).isSome = true := by kernel_rfl
@[simp] theorem agg_2 : aggO Tryz.prog 2 = some false := by kernel_rfl
@[simp] theorem esz_2 : esz Tryz.prog 2 = 1 := by kernel_rfl
@[simp] theorem ikind_2 : ikind Tryz.prog 2 = some .i64 := by kernel_rfl
@[simp] theorem under_2 : Tryz.prog.underlying 2 = some (.int .i64) := by kernel_rfl
@[simp] theorem conc_2 : Tryz.prog.concrete 2 = true := by kernel_rfl
@[simp] theorem zero_2 : azero Tryz.prog 2 = some [.int .i64 0] := by kernel_rfl
@[simp] theorem nils_2 : nilPos Tryz.prog 2 = [] := by kernel_rfl
@[simp] theorem app_2 : appOk Tryz.prog 2 = true := by kernel_rfl
@[simp] theorem eby_2 : ebytes Tryz.prog 2 = 8 := by kernel_rfl
@[simp] theorem info_3 : (Tryz.prog.info? 3).isSome = true := by kernel_rfl
@[simp] theorem agg_3 : aggO Tryz.prog 3 = some false := by kernel_rfl
@[simp] theorem esz_3 : esz Tryz.prog 3 = 1 := by kernel_rfl
@[simp] theorem ikind_3 : ikind Tryz.prog 3 = some .i64 := by kernel_rfl
@[simp] theorem under_3 : Tryz.prog.underlying 3 = some (.int .i64) := by kernel_rfl
@[simp] theorem conc_3 : Tryz.prog.concrete 3 = true := by kernel_rfl
@[simp] theorem zero_3 : azero Tryz.prog 3 = some [.int .i64 0] := by kernel_rfl
@[simp] theorem nils_3 : nilPos Tryz.prog 3 = [] := by kernel_rfl
@[simp] theorem app_3 : appOk Tryz.prog 3 = true := by kernel_rfl
@[simp] theorem eby_3 : ebytes Tryz.prog 3 = 8 := by kernel_rfl
@[simp] theorem info_4 : (Tryz.prog.info? 4).isSome = true := by kernel_rfl
@[simp] theorem agg_4 : aggO Tryz.prog 4 = some false := by kernel_rfl
@[simp] theorem esz_4 : esz Tryz.prog 4 = 1 := by kernel_rfl
@[simp] theorem under_4 : Tryz.prog.underlying 4 = some .bool := by kernel_rfl
@[simp] theorem boolt_4 : boolT Tryz.prog 4 = true := by kernel_rfl
@[simp] theorem conc_4 : Tryz.prog.concrete 4 = true := by kernel_rfl
@[simp] theorem zero_4 : azero Tryz.prog 4 = some [.bool false] := by kernel_rfl
@[simp] theorem nils_4 : nilPos Tryz.prog 4 = [] := by kernel_rfl
@[simp] theorem app_4 : appOk Tryz.prog 4 = true := by kernel_rfl
@[simp] theorem eby_4 : ebytes Tryz.prog 4 = 1 := by kernel_rfl
@[simp] theorem info_5 : (Tryz.prog.info? 5).isSome = true := by kernel_rfl
@[simp] theorem agg_5 : aggO Tryz.prog 5 = some false := by kernel_rfl
@[simp] theorem esz_5 : esz Tryz.prog 5 = 1 := by kernel_rfl
@[simp] theorem ikind_5 : ikind Tryz.prog 5 = some .u8 := by kernel_rfl
@[simp] theorem under_5 : Tryz.prog.underlying 5 = some (.int .u8) := by kernel_rfl
@[simp] theorem conc_5 : Tryz.prog.concrete 5 = true := by kernel_rfl
@[simp] theorem zero_5 : azero Tryz.prog 5 = some [.int .u8 0] := by kernel_rfl
@[simp] theorem nils_5 : nilPos Tryz.prog 5 = [] := by kernel_rfl
@[simp] theorem app_5 : appOk Tryz.prog 5 = true := by kernel_rfl
@[simp] theorem eby_5 : ebytes Tryz.prog 5 = 1 := by kernel_rfl
@[simp] theorem info_6 : (Tryz.prog.info? 6).isSome = true := by kernel_rfl
@[simp] theorem agg_6 : aggO Tryz.prog 6 = some false := by kernel_rfl
@[simp] theorem esz_6 : esz Tryz.prog 6 = 1 := by kernel_rfl
@[simp] theorem ikind_6 : ikind Tryz.prog 6 = some .u8 := by kernel_rfl
@[simp] theorem under_6 : Tryz.prog.underlying 6 = some (.int .u8) := by kernel_rfl
@[simp] theorem conc_6 : Tryz.prog.concrete 6 = true := by kernel_rfl
@[simp] theorem zero_6 : azero Tryz.prog 6 = some [.int .u8 0] := by kernel_rfl
@[simp] theorem nils_6 : nilPos Tryz.prog 6 = [] := by kernel_rfl
@[simp] theorem app_6 : appOk Tryz.prog 6 = true := by kernel_rfl
@[simp] theorem eby_6 : ebytes Tryz.prog 6 = 1 := by kernel_rfl
@[simp] theorem info_7 : (Tryz.prog.info? 7).isSome = true := by kernel_rfl
@[simp] theorem agg_7 : aggO Tryz.prog 7 = some true := by kernel_rfl
@[simp] theorem esz_7 : esz Tryz.prog 7 = 4 := by kernel_rfl
@[simp] theorem conc_7 : Tryz.prog.concrete 7 = true := by kernel_rfl
@[simp] theorem foff_7_0 : foff Tryz.prog 7 0 = some 0 := by kernel_rfl
@[simp] theorem ftyp_7_0 : ftyp Tryz.prog 7 0 = 2 := by kernel_rfl
@[simp] theorem foff_7_1 : foff Tryz.prog 7 1 = some 1 := by kernel_rfl
@[simp] theorem ftyp_7_1 : ftyp Tryz.prog 7 1 = 3 := by kernel_rfl
@[simp] theorem foff_7_2 : foff Tryz.prog 7 2 = some 2 := by kernel_rfl
@[simp] theorem ftyp_7_2 : ftyp Tryz.prog 7 2 = 4 := by kernel_rfl
@[simp] theorem foff_7_3 : foff Tryz.prog 7 3 = some 3 := by kernel_rfl
@[simp] theorem ftyp_7_3 : ftyp Tryz.prog 7 3 = 6 := by kernel_rfl
@[simp] theorem known_7 : knownF Tryz.prog 7 = true := by kernel_rfl
@[simp] theorem zero_7 : azero Tryz.prog 7 = some [.int .i64 0, .int .i64 0, .bool false, .int .u8 0] := by kernel_rfl
@[simp] theorem nils_7 : nilPos Tryz.prog 7 = [] := by kernel_rfl
@[simp] theorem app_7 : appOk Tryz.prog 7 = true := by kernel_rfl
@[simp] theorem eby_7 : ebytes Tryz.prog 7 = 24 := by kernel_rfl
@[simp] theorem info_8 : (Tryz.prog.info? 8).isSome = true := by kernel_rfl
@[simp] theorem agg_8 : aggO Tryz.prog 8 = some true := by kernel_rfl
@[simp] theorem esz_8 : esz Tryz.prog 8 = 4 := by kernel_rfl
@[simp] theorem conc_8 : Tryz.prog.concrete 8 = true := by kernel_rfl
@[simp] theorem foff_8_0 : foff Tryz.prog 8 0 = some 0 := by kernel_rfl
@[simp] theorem ftyp_8_0 : ftyp Tryz.prog 8 0 = 2 := by kernel_rfl
@[simp] theorem foff_8_1 : foff Tryz.prog 8 1 = some 1 := by kernel_rfl
@[simp] theorem ftyp_8_1 : ftyp Tryz.prog 8 1 = 3 := by kernel_rfl
@[simp] theorem foff_8_2 : foff Tryz.prog 8 2 = some 2 := by kernel_rfl
@[simp] theorem ftyp_8_2 : ftyp Tryz.prog 8 2 = 4 := by kernel_rfl
@[simp] theorem foff_8_3 : foff Tryz.prog 8 3 = some 3 := by kernel_rfl
@[simp] theorem ftyp_8_3 : ftyp Tryz.prog 8 3 = 6 := by kernel_rfl
@[simp] theorem known_8 : knownF Tryz.prog 8 = true := by kernel_rfl
@[simp] theorem zero_8 : azero Tryz.prog 8 = some [.int .i64 0, .int .i64 0, .bool false, .int .u8 0] := by kernel_rfl
@[simp] theorem nils_8 : nilPos Tryz.prog 8 = [] := by kernel_rfl
@[simp] theorem app_8 : appOk Tryz.prog 8 = true := by kernel_rfl
@[simp] theorem eby_8 : ebytes Tryz.prog 8 = 24 := by kernel_rfl
@[simp] theorem info_9 : (Tryz.prog.info? 9).isSome = true := by kernel_rfl
@[simp] theorem agg_9 : aggO Tryz.prog 9 = some false := by kernel_rfl
@[simp] theorem esz_9 : esz Tryz.prog 9 = 1 := by kernel_rfl
@[simp] theorem under_9 : Tryz.prog.underlying 9 = some .string := by kernel_rfl
@[simp] theorem strt_9 : strT Tryz.prog 9 = true := by kernel_rfl
@[simp] theorem strb_9 : strB Tryz.prog 9 = true := by kernel_rfl
@[simp] theorem conc_9 : Tryz.prog.concrete 9 = true := by kernel_rfl
@[simp] theorem zero_9 : azero Tryz.prog 9 = some [.str []] := by kernel_rfl
@[simp] theorem nils_9 : nilPos Tryz.prog 9 = [] := by kernel_rfl
@[simp] theorem app_9 : appOk Tryz.prog 9 = true := by kernel_rfl
@[simp] theorem eby_9 : ebytes Tryz.prog 9 = 16 := by kernel_rfl
@[simp] theorem info_16 : (Tryz.prog.info? 16).isSome = true := by kernel_rfl
@[simp] theorem agg_16 : aggO Tryz.prog 16 = some false := by kernel_rfl
@[simp] theorem esz_16 : esz Tryz.prog 16 = 1 := by kernel_rfl
@[simp] theorem conc_16 : Tryz.prog.concrete 16 = true := by kernel_rfl
@[simp] theorem zero_16 : azero Tryz.prog 16 = some [.nilPtr] := by kernel_rfl
@[simp] theorem nils_16 : nilPos Tryz.prog 16 = [] := by kernel_rfl
@[simp] theorem app_16 : appOk Tryz.prog 16 = true := by kernel_rfl
@[simp] theorem eby_16 : ebytes Tryz.prog 16 = 8 := by kernel_rfl
@[simp] theorem info_20 : (Tryz.prog.info? 20).isSome = true := by kernel_rfl
@[simp] theorem agg_20 : aggO Tryz.prog 20 = some false := by kernel_rfl
@[simp] theorem esz_20 : esz Tryz.prog 20 = 1 := by kernel_rfl
@[simp] theorem ifacet_20 : ifaceT Tryz.prog 20 = true := by kernel_rfl
@[simp] theorem zero_20 : azero Tryz.prog 20 = some [.nilIface] := by kernel_rfl
@[simp] theorem nils_20 : nilPos Tryz.prog 20 = [] := by kernel_rfl
@[simp] theorem app_20 : appOk Tryz.prog 20 = true := by kernel_rfl
@[simp] theorem eby_20 : ebytes Tryz.prog 20 = 16 := by kernel_rfl
@[simp] theorem info_21 : (Tryz.prog.info? 21).isSome = true := by kernel_rfl
@[simp] theorem agg_21 : aggO Tryz.prog 21 = some false := by kernel_rfl
@[simp] theorem esz_21 : esz Tryz.prog 21 = 1 := by kernel_rfl
@[simp] theorem ikind_21 : ikind Tryz.prog 21 = some .i32 := by kernel_rfl
@[simp] theorem under_21 : Tryz.prog.underlying 21 = some (.int .i32) := by kernel_rfl
@[simp] theorem conc_21 : Tryz.prog.concrete 21 = true := by kernel_rfl
@[simp] theorem zero_21 : azero Tryz.prog 21 = some [.int .i32 0] := by kernel_rfl
@[simp] theorem nils_21 : nilPos Tryz.prog 21 = [] := by kernel_rfl
@[simp] theorem app_21 : appOk Tryz.prog 21 = true := by kernel_rfl
@[simp] theorem eby_21 : ebytes Tryz.prog 21 = 4 := by kernel_rfl
@[simp] theorem info_22 : (Tryz.prog.info? 22).isSome = true := by kernel_rfl
@[simp] theorem agg_22 : aggO Tryz.prog 22 = some false := by kernel_rfl
@[simp] theorem esz_22 : esz Tryz.prog 22 = 1 := by kernel_rfl
@[simp] theorem elem_22 : elemT Tryz.prog 22 = some 24 := by kernel_rfl
@[simp] theorem conc_22 : Tryz.prog.concrete 22 = true := by kernel_rfl
@[simp] theorem zero_22 : azero Tryz.prog 22 = some [.slice []] := by kernel_rfl
@[simp] theorem nils_22 : nilPos Tryz.prog 22 = [0] := by kernel_rfl
@[simp] theorem app_22 : appOk Tryz.prog 22 = true := by kernel_rfl
@[simp] theorem eby_22 : ebytes Tryz.prog 22 = 24 := by kernel_rfl
@[simp] theorem info_24 : (Tryz.prog.info? 24).isSome = true := by kernel_rfl
@[simp] theorem agg_24 : aggO Tryz.prog 24 = some true := by kernel_rfl
@[simp] theorem esz_24 : esz Tryz.prog 24 = 3 := by kernel_rfl
@[simp] theorem conc_24 : Tryz.prog.concrete 24 = true := by kernel_rfl
@[simp] theorem foff_24_0 : foff Tryz.prog 24 0 = some 0 := by kernel_rfl
@[simp] theorem ftyp_24_0 : ftyp Tryz.prog 24 0 = 9 := by kernel_rfl
@[simp] theorem foff_24_1 : foff Tryz.prog 24 1 = some 1 := by kernel_rfl
@[simp] theorem ftyp_24_1 : ftyp Tryz.prog 24 1 = 22 := by kernel_rfl
@[simp] theorem foff_24_2 : foff Tryz.prog 24 2 = some 2 := by kernel_rfl
@[simp] theorem ftyp_24_2 : ftyp Tryz.prog 24 2 = 3 := by kernel_rfl
@[simp] theorem known_24 : knownF Tryz.prog 24 = true := by kernel_rfl
@[simp] theorem zero_24 : azero Tryz.prog 24 = some [.str [], .slice [], .int .i64 0] := by kernel_rfl
@[simp] theorem nils_24 : nilPos Tryz.prog 24 = [1] := by kernel_rfl
@[simp] theorem app_24 : appOk Tryz.prog 24 = true := by kernel_rfl
@[simp] theorem eby_24 : ebytes Tryz.prog 24 = 48 := by kernel_rfl
@[simp] theorem info_32 : (Tryz.prog.info? 32).isSome = true := by kernel_rfl
@[simp] theorem agg_32 : aggO Tryz.prog 32 = some false := by kernel_rfl
@[simp] theorem esz_32 : esz Tryz.prog 32 = 1 := by kernel_rfl
@[simp] theorem elem_32 : elemT Tryz.prog 32 = some 72 := by kernel_rfl
@[simp] theorem conc_32 : Tryz.prog.concrete 32 = true := by kernel_rfl
@[simp] theorem zero_32 : azero Tryz.prog 32 = some [.slice []] := by kernel_rfl
@[simp] theorem nils_32 : nilPos Tryz.prog 32 = [0] := by kernel_rfl
@[simp] theorem app_32 : appOk Tryz.prog 32 = true := by kernel_rfl
@[simp] theorem eby_32 : ebytes Tryz.prog 32 = 24 := by kernel_rfl
@[simp] theorem info_33 : (Tryz.prog.info? 33).isSome = true := by kernel_rfl
@[simp] theorem agg_33 : aggO Tryz.prog 33 = some false := by kernel_rfl
@[simp] theorem esz_33 : esz Tryz.prog 33 = 1 := by kernel_rfl
@[simp] theorem elem_33 : elemT Tryz.prog 33 = some 74 := by kernel_rfl
@[simp] theorem conc_33 : Tryz.prog.concrete 33 = true := by kernel_rfl
@[simp] theorem zero_33 : azero Tryz.prog 33 = some [.slice []] := by kernel_rfl
@[simp] theorem nils_33 : nilPos Tryz.prog 33 = [0] := by kernel_rfl
@[simp] theorem app_33 : appOk Tryz.prog 33 = true := by kernel_rfl
@[simp] theorem eby_33 : ebytes Tryz.prog 33 = 24 := by kernel_rfl
@[simp] theorem info_35 : (Tryz.prog.info? 35).isSome = true := by kernel_rfl
@[simp] theorem agg_35 : aggO Tryz.prog 35 = some true := by kernel_rfl
@[simp] theorem esz_35 : esz Tryz.prog 35 = 7 := by kernel_rfl
@[simp] theorem conc_35 : Tryz.prog.concrete 35 = true := by kernel_rfl
@[simp] theorem foff_35_0 : foff Tryz.prog 35 0 = some 0 := by kernel_rfl
@[simp] theorem ftyp_35_0 : ftyp Tryz.prog 35 0 = 9 := by kernel_rfl
@[simp] theorem foff_35_1 : foff Tryz.prog 35 1 = some 1 := by kernel_rfl
@[simp] theorem ftyp_35_1 : ftyp Tryz.prog 35 1 = 32 := by kernel_rfl
@[simp] theorem foff_35_2 : foff Tryz.prog 35 2 = some 2 := by kernel_rfl
@[simp] theorem ftyp_35_2 : ftyp Tryz.prog 35 2 = 33 := by kernel_rfl
@[simp] theorem foff_35_3 : foff Tryz.prog 35 3 = some 3 := by kernel_rfl
@[simp] theorem ftyp_35_3 : ftyp Tryz.prog 35 3 = 24 := by kernel_rfl
@[simp] theorem foff_35_4 : foff Tryz.prog 35 4 = some 6 := by kernel_rfl
@[simp] theorem ftyp_35_4 : ftyp Tryz.prog 35 4 = 3 := by kernel_rfl
@[simp] theorem known_35 : knownF Tryz.prog 35 = true := by kernel_rfl
@[simp] theorem zero_35 : azero Tryz.prog 35 = some [.str [], .slice [], .slice [], .str [], .slice [], .int .i64 0, .int .i64 0] := by kernel_rfl
@[simp] theorem nils_35 : nilPos Tryz.prog 35 = [1, 2, 4] := by kernel_rfl
@[simp] theorem app_35 : appOk Tryz.prog 35 = true := by kernel_rfl
@[simp] theorem eby_35 : ebytes Tryz.prog 35 = 120 := by kernel_rfl
@[simp] theorem info_41 : (Tryz.prog.info? 41).isSome = true := by kernel_rfl
@[simp] theorem agg_41 : aggO Tryz.prog 41 = some false := by kernel_rfl
@[simp] theorem esz_41 : esz Tryz.prog 41 = 1 := by kernel_rfl
@[simp] theorem funct_41 : funcT Tryz.prog 41 = true := by kernel_rfl
@[simp] theorem conc_41 : Tryz.prog.concrete 41 = true := by kernel_rfl
@[simp] theorem zero_41 : azero Tryz.prog 41 = some [.nilFunc] := by kernel_rfl
@[simp] theorem nils_41 : nilPos Tryz.prog 41 = [] := by kernel_rfl
@[simp] theorem app_41 : appOk Tryz.prog 41 = true := by kernel_rfl
@[simp] theorem eby_41 : ebytes Tryz.prog 41 = 8 := by kernel_rfl
@[simp] theorem info_47 : (Tryz.prog.info? 47).isSome = true := by kernel_rfl
@[simp] theorem agg_47 : aggO Tryz.prog 47 = some false := by kernel_rfl
@[simp] theorem esz_47 : esz Tryz.prog 47 = 1 := by kernel_rfl
@[simp] theorem elem_47 : elemT Tryz.prog 47 = some 49 := by kernel_rfl
@[simp] theorem conc_47 : Tryz.prog.concrete 47 = true := by kernel_rfl
@[simp] theorem zero_47 : azero Tryz.prog 47 = some [.slice []] := by kernel_rfl
@[simp] theorem nils_47 : nilPos Tryz.prog 47 = [0] := by kernel_rfl
@[simp] theorem app_47 : appOk Tryz.prog 47 = true := by kernel_rfl
@[simp] theorem eby_47 : ebytes Tryz.prog 47 = 24 := by kernel_rfl
@[simp] theorem info_49 : (Tryz.prog.info? 49).isSome = true := by kernel_rfl
@[simp] theorem agg_49 : aggO Tryz.prog 49 = some true := by kernel_rfl
@[simp] theorem esz_49 : esz Tryz.prog 49 = 8 := by kernel_rfl
@[simp] theorem conc_49 : Tryz.prog.concrete 49 = true := by kernel_rfl
@[simp] theorem foff_49_0 : foff Tryz.prog 49 0 = some 0 := by kernel_rfl
@[simp] theorem ftyp_49_0 : ftyp Tryz.prog 49 0 = 3 := by kernel_rfl
@[simp] theorem foff_49_1 : foff Tryz.prog 49 1 = some 1 := by kernel_rfl
@[simp] theorem ftyp_49_1 : ftyp Tryz.prog 49 1 = 9 := by kernel_rfl
@[simp] theorem foff_49_2 : foff Tryz.prog 49 2 = some 2 := by kernel_rfl
@[simp] theorem ftyp_49_2 : ftyp Tryz.prog 49 2 = 24 := by kernel_rfl
@[simp] theorem foff_49_3 : foff Tryz.prog 49 3 = some 5 := by kernel_rfl
@[simp] theorem ftyp_49_3 : ftyp Tryz.prog 49 3 = 22 := by kernel_rfl
@[simp] theorem foff_49_4 : foff Tryz.prog 49 4 = some 6 := by kernel_rfl
@[simp] theorem ftyp_49_4 : ftyp Tryz.prog 49 4 = 47 := by kernel_rfl
@[simp] theorem foff_49_5 : foff Tryz.prog 49 5 = some 7 := by kernel_rfl
@[simp] theorem ftyp_49_5 : ftyp Tryz.prog 49 5 = 3 := by kernel_rfl
@[simp] theorem known_49 : knownF Tryz.prog 49 = true := by kernel_rfl
@[simp] theorem zero_49 : azero Tryz.prog 49 = some [.int .i64 0, .str [], .str [], .slice [], .int .i64 0, .slice [], .slice [], .int .i64 0] := by kernel_rfl
@[simp] theorem nils_49 : nilPos Tryz.prog 49 = [3, 5, 6] := by kernel_rfl
@[simp] theorem app_49 : appOk Tryz.prog 49 = true := by kernel_rfl
@[simp] theorem eby_49 : ebytes Tryz.prog 49 = 128 := by kernel_rfl
@[simp] theorem info_60 : (Tryz.prog.info? 60).isSome = true := by kernel_rfl
@[simp] theorem agg_60 : aggO Tryz.prog 60 = some true := by kernel_rfl
@[simp] theorem esz_60 : esz Tryz.prog 60 = 1 := by kernel_rfl
@[simp] theorem conc_60 : Tryz.prog.concrete 60 = true := by kernel_rfl
@[simp] theorem foff_60_0 : foff Tryz.prog 60 0 = some 0 := by kernel_rfl
@[simp] theorem ftyp_60_0 : ftyp Tryz.prog 60 0 = 9 := by kernel_rfl
@[simp] theorem known_60 : knownF Tryz.prog 60 = true := by kernel_rfl
@[simp] theorem flats_60 : flatS Tryz.prog 60 = some [9] := by kernel_rfl
@[simp] theorem zero_60 : azero Tryz.prog 60 = some [.str []] := by kernel_rfl
@[simp] theorem nils_60 : nilPos Tryz.prog 60 = [] := by kernel_rfl
@[simp] theorem app_60 : appOk Tryz.prog 60 = true := by kernel_rfl
@[simp] theorem eby_60 : ebytes Tryz.prog 60 = 16 := by kernel_rfl
@[simp] theorem info_64 : (Tryz.prog.info? 64).isSome = true := by kernel_rfl
@[simp] theorem agg_64 : aggO Tryz.prog 64 = some false := by kernel_rfl
@[simp] theorem esz_64 : esz Tryz.prog 64 = 1 := by kernel_rfl
@[simp] theorem elem_64 : elemT Tryz.prog 64 = some 35 := by kernel_rfl
@[simp] theorem conc_64 : Tryz.prog.concrete 64 = true := by kernel_rfl
@[simp] theorem zero_64 : azero Tryz.prog 64 = some [.slice []] := by kernel_rfl
@[simp] theorem nils_64 : nilPos Tryz.prog 64 = [0] := by kernel_rfl
@[simp] theorem app_64 : appOk Tryz.prog 64 = true := by kernel_rfl
@[simp] theorem eby_64 : ebytes Tryz.prog 64 = 24 := by kernel_rfl
@[simp] theorem info_65 : (Tryz.prog.info? 65).isSome = true := by kernel_rfl
@[simp] theorem agg_65 : aggO Tryz.prog 65 = some false := by kernel_rfl
@[simp] theorem esz_65 : esz Tryz.prog 65 = 1 := by kernel_rfl
@[simp] theorem elem_65 : elemT Tryz.prog 65 = some 9 := by kernel_rfl
@[simp] theorem conc_65 : Tryz.prog.concrete 65 = true := by kernel_rfl
@[simp] theorem zero_65 : azero Tryz.prog 65 = some [.slice []] := by kernel_rfl
@[simp] theorem nils_65 : nilPos Tryz.prog 65 = [0] := by kernel_rfl
@[simp] theorem app_65 : appOk Tryz.prog 65 = true := by kernel_rfl
@[simp] theorem eby_65 : ebytes Tryz.prog 65 = 24 := by kernel_rfl
@[simp] theorem info_67 : (Tryz.prog.info? 67).isSome = true := by kernel_rfl
@[simp] theorem agg_67 : aggO Tryz.prog 67 = some true := by kernel_rfl
@[simp] theorem esz_67 : esz Tryz.prog 67 = 23 := by kernel_rfl
@[simp] theorem conc_67 : Tryz.prog.concrete 67 = true := by kernel_rfl
@[simp] theorem foff_67_0 : foff Tryz.prog 67 0 = some 0 := by kernel_rfl
@[simp] theorem ftyp_67_0 : ftyp Tryz.prog 67 0 = 3 := by kernel_rfl
@[simp] theorem foff_67_1 : foff Tryz.prog 67 1 = some 1 := by kernel_rfl
@[simp] theorem ftyp_67_1 : ftyp Tryz.prog 67 1 = 9 := by kernel_rfl
@[simp] theorem foff_67_2 : foff Tryz.prog 67 2 = some 2 := by kernel_rfl
@[simp] theorem ftyp_67_2 : ftyp Tryz.prog 67 2 = 32 := by kernel_rfl
@[simp] theorem foff_67_3 : foff Tryz.prog 67 3 = some 3 := by kernel_rfl
@[simp] theorem ftyp_67_3 : ftyp Tryz.prog 67 3 = 33 := by kernel_rfl
@[simp] theorem foff_67_4 : foff Tryz.prog 67 4 = some 4 := by kernel_rfl
@[simp] theorem ftyp_67_4 : ftyp Tryz.prog 67 4 = 64 := by kernel_rfl
@[simp] theorem foff_67_5 : foff Tryz.prog 67 5 = some 5 := by kernel_rfl
@[simp] theorem ftyp_67_5 : ftyp Tryz.prog 67 5 = 9 := by kernel_rfl
@[simp] theorem foff_67_6 : foff Tryz.prog 67 6 = some 6 := by kernel_rfl
@[simp] theorem ftyp_67_6 : ftyp Tryz.prog 67 6 = 65 := by kernel_rfl
@[simp] theorem foff_67_7 : foff Tryz.prog 67 7 = some 7 := by kernel_rfl
@[simp] theorem ftyp_67_7 : ftyp Tryz.prog 67 7 = 35 := by kernel_rfl
@[simp] theorem foff_67_8 : foff Tryz.prog 67 8 = some 14 := by kernel_rfl
@[simp] theorem ftyp_67_8 : ftyp Tryz.prog 67 8 = 49 := by kernel_rfl
@[simp] theorem foff_67_9 : foff Tryz.prog 67 9 = some 22 := by kernel_rfl
@[simp] theorem ftyp_67_9 : ftyp Tryz.prog 67 9 = 3 := by kernel_rfl
@[simp] theorem known_67 : knownF Tryz.prog 67 = true := by kernel_rfl
@[simp] theorem zero_67 : azero Tryz.prog 67 = some [.int .i64 0, .str [], .slice [], .slice [], .slice [], .str [], .slice [], .str [], .slice [], .slice [], .str [], .slice [], .int .i64 0, .int .i64 0, .int .i64 0, .str [], .str [], .slice [], .int .i64 0, .slice [], .slice [], .int .i64 0, .int .i64 0] := by kernel_rfl
@[simp] theorem nils_67 : nilPos Tryz.prog 67 = [2, 3, 4, 6, 8, 9, 11, 17, 19, 20] := by kernel_rfl
@[simp] theorem app_67 : appOk Tryz.prog 67 = true := by kernel_rfl
@[simp] theorem eby_67 : ebytes Tryz.prog 67 = 392 := by kernel_rfl
@[simp] theorem info_68 : (Tryz.prog.info? 68).isSome = true := by kernel_rfl
@[simp] theorem agg_68 : aggO Tryz.prog 68 = some false := by kernel_rfl
@[simp] theorem esz_68 : esz Tryz.prog 68 = 1 := by kernel_rfl
@[simp] theorem elem_68 : elemT Tryz.prog 68 = some 67 := by kernel_rfl
@[simp] theorem conc_68 : Tryz.prog.concrete 68 = true := by kernel_rfl
@[simp] theorem zero_68 : azero Tryz.prog 68 = some [.slice []] := by kernel_rfl
@[simp] theorem nils_68 : nilPos Tryz.prog 68 = [0] := by kernel_rfl
@[simp] theorem app_68 : appOk Tryz.prog 68 = true := by kernel_rfl
@[simp] theorem eby_68 : ebytes Tryz.prog 68 = 24 := by kernel_rfl
@[simp] theorem info_70 : (Tryz.prog.info? 70).isSome = true := by kernel_rfl
@[simp] theorem agg_70 : aggO Tryz.prog 70 = some true := by kernel_rfl
@[simp] theorem esz_70 : esz Tryz.prog 70 = 9 := by kernel_rfl
@[simp] theorem conc_70 : Tryz.prog.concrete 70 = true := by kernel_rfl
@[simp] theorem foff_70_0 : foff Tryz.prog 70 0 = some 0 := by kernel_rfl
@[simp] theorem ftyp_70_0 : ftyp Tryz.prog 70 0 = 68 := by kernel_rfl
@[simp] theorem foff_70_1 : foff Tryz.prog 70 1 = some 1 := by kernel_rfl
@[simp] theorem ftyp_70_1 : ftyp Tryz.prog 70 1 = 49 := by kernel_rfl
@[simp] theorem known_70 : knownF Tryz.prog 70 = true := by kernel_rfl
@[simp] theorem zero_70 : azero Tryz.prog 70 = some [.slice [], .int .i64 0, .str [], .str [], .slice [], .int .i64 0, .slice [], .slice [], .int .i64 0] := by kernel_rfl
@[simp] theorem nils_70 : nilPos Tryz.prog 70 = [0, 4, 6, 7] := by kernel_rfl
@[simp] theorem app_70 : appOk Tryz.prog 70 = true := by kernel_rfl
@[simp] theorem eby_70 : ebytes Tryz.prog 70 = 152 := by kernel_rfl
@[simp] theorem info_72 : (Tryz.prog.info? 72).isSome = true := by kernel_rfl
@[simp] theorem agg_72 : aggO Tryz.prog 72 = some true := by kernel_rfl
@[simp] theorem esz_72 : esz Tryz.prog 72 = 5 := by kernel_rfl
@[simp] theorem conc_72 : Tryz.prog.concrete 72 = true := by kernel_rfl
@[simp] theorem foff_72_0 : foff Tryz.prog 72 0 = some 0 := by kernel_rfl
@[simp] theorem ftyp_72_0 : ftyp Tryz.prog 72 0 = 9 := by kernel_rfl
@[simp] theorem foff_72_1 : foff Tryz.prog 72 1 = some 1 := by kernel_rfl
@[simp] theorem ftyp_72_1 : ftyp Tryz.prog 72 1 = 24 := by kernel_rfl
@[simp] theorem foff_72_2 : foff Tryz.prog 72 2 = some 4 := by kernel_rfl
@[simp] theorem ftyp_72_2 : ftyp Tryz.prog 72 2 = 3 := by kernel_rfl
@[simp] theorem known_72 : knownF Tryz.prog 72 = true := by kernel_rfl
@[simp] theorem zero_72 : azero Tryz.prog 72 = some [.str [], .str [], .slice [], .int .i64 0, .int .i64 0] := by kernel_rfl
@[simp] theorem nils_72 : nilPos Tryz.prog 72 = [2] := by kernel_rfl
@[simp] theorem app_72 : appOk Tryz.prog 72 = true := by kernel_rfl
@[simp] theorem eby_72 : ebytes Tryz.prog 72 = 72 := by kernel_rfl
@[simp] theorem info_74 : (Tryz.prog.info? 74).isSome = true := by kernel_rfl
@[simp] theorem agg_74 : aggO Tryz.prog 74 = some true := by kernel_rfl
@[simp] theorem esz_74 : esz Tryz.prog 74 = 5 := by kernel_rfl
@[simp] theorem conc_74 : Tryz.prog.concrete 74 = true := by kernel_rfl
@[simp] theorem foff_74_0 : foff Tryz.prog 74 0 = some 0 := by kernel_rfl
@[simp] theorem ftyp_74_0 : ftyp Tryz.prog 74 0 = 9 := by kernel_rfl
@[simp] theorem foff_74_1 : foff Tryz.prog 74 1 = some 1 := by kernel_rfl
@[simp] theorem ftyp_74_1 : ftyp Tryz.prog 74 1 = 24 := by kernel_rfl
@[simp] theorem foff_74_2 : foff Tryz.prog 74 2 = some 4 := by kernel_rfl
@[simp] theorem ftyp_74_2 : ftyp Tryz.prog 74 2 = 3 := by kernel_rfl
@[simp] theorem known_74 : knownF Tryz.prog 74 = true := by kernel_rfl
@[simp] theorem zero_74 : azero Tryz.prog 74 = some [.str [], .str [], .slice [], .int .i64 0, .int .i64 0] := by kernel_rfl
@[simp] theorem nils_74 : nilPos Tryz.prog 74 = [2] := by kernel_rfl
@[simp] theorem app_74 : appOk Tryz.prog 74 = true := by kernel_rfl
@[simp] theorem eby_74 : ebytes Tryz.prog 74 = 72 := by kernel_rfl
@[simp] theorem info_82 : (Tryz.prog.info? 82).isSome = true := by kernel_rfl
@[simp] theorem agg_82 : aggO Tryz.prog 82 = some false := by kernel_rfl
@[simp] theorem esz_82 : esz Tryz.prog 82 = 1 := by kernel_rfl
@[simp] theorem ifacet_82 : ifaceT Tryz.prog 82 = true := by kernel_rfl
@[simp] theorem zero_82 : azero Tryz.prog 82 = some [.nilIface] := by kernel_rfl
@[simp] theorem nils_82 : nilPos Tryz.prog 82 = [] := by kernel_rfl
@[simp] theorem app_82 : appOk Tryz.prog 82 = true := by kernel_rfl
@[simp] theorem eby_82 : ebytes Tryz.prog 82 = 16 := by kernel_rfl
@[simp] theorem info_87 : (Tryz.prog.info? 87).isSome = true := by kernel_rfl
@[simp] theorem agg_87 : aggO Tryz.prog 87 = some false := by kernel_rfl
@[simp] theorem esz_87 : esz Tryz.prog 87 = 1 := by kernel_rfl
@[simp] theorem elem_87 : elemT Tryz.prog 87 = some 5 := by kernel_rfl
@[simp] theorem bytest_87 : bytesT Tryz.prog 87 = true := by kernel_rfl
@[simp] theorem conc_87 : Tryz.prog.concrete 87 = true := by kernel_rfl
@[simp] theorem zero_87 : azero Tryz.prog 87 = some [.slice []] := by kernel_rfl
@[simp] theorem nils_87 : nilPos Tryz.prog 87 = [0] := by kernel_rfl
@[simp] theorem app_87 : appOk Tryz.prog 87 = true := by kernel_rfl
@[simp] theorem eby_87 : ebytes Tryz.prog 87 = 24 := by kernel_rfl
@[simp] theorem info_96 : (Tryz.prog.info? 96).isSome = true := by kernel_rfl
@[simp] theorem agg_96 : aggO Tryz.prog 96 = some false := by kernel_rfl
@[simp] theorem esz_96 : esz Tryz.prog 96 = 1 := by kernel_rfl
@[simp] theorem conc_96 : Tryz.prog.concrete 96 = true := by kernel_rfl
@[simp] theorem zero_96 : azero Tryz.prog 96 = some [.nilPtr] := by kernel_rfl
@[simp] theorem nils_96 : nilPos Tryz.prog 96 = [] := by kernel_rfl
@[simp] theorem app_96 : appOk Tryz.prog 96 = true := by kernel_rfl
@[simp] theorem eby_96 : ebytes Tryz.prog 96 = 8 := by kernel_rfl
@[simp] theorem info_98 : (Tryz.prog.info? 98).isSome = true := by kernel_rfl
@[simp] theorem agg_98 : aggO Tryz.prog 98 = some true := by kernel_rfl
@[simp] theorem esz_98 : esz Tryz.prog 98 = 2 := by kernel_rfl
@[simp] theorem conc_98 : Tryz.prog.concrete 98 = true := by kernel_rfl
@[simp] theorem foff_98_0 : foff Tryz.prog 98 0 = some 0 := by kernel_rfl
@[simp] theorem ftyp_98_0 : ftyp Tryz.prog 98 0 = 96 := by kernel_rfl
@[simp] theorem foff_98_1 : foff Tryz.prog 98 1 = some 1 := by kernel_rfl
@[simp] theorem ftyp_98_1 : ftyp Tryz.prog 98 1 = 87 := by kernel_rfl
@[simp] theorem known_98 : knownF Tryz.prog 98 = true := by kernel_rfl
@[simp] theorem zero_98 : azero Tryz.prog 98 = some [.nilPtr, .slice []] := by kernel_rfl
@[simp] theorem nils_98 : nilPos Tryz.prog 98 = [1] := by kernel_rfl
@[simp] theorem app_98 : appOk Tryz.prog 98 = true := by kernel_rfl
@[simp] theorem eby_98 : ebytes Tryz.prog 98 = 32 := by kernel_rfl
@[simp] theorem info_112 : (Tryz.prog.info? 112).isSome = true := by kernel_rfl
@[simp] theorem agg_112 : aggO Tryz.prog 112 = some false := by kernel_rfl
@[simp] theorem esz_112 : esz Tryz.prog 112 = 1 := by kernel_rfl
@[simp] theorem ikind_112 : ikind Tryz.prog 112 = some .i64 := by kernel_rfl
@[simp] theorem under_112 : Tryz.prog.underlying 112 = some (.int .i64) := by kernel_rfl
@[simp] theorem conc_112 : Tryz.prog.concrete 112 = true := by kernel_rfl
@[simp] theorem zero_112 : azero Tryz.prog 112 = some [.int .i64 0] := by kernel_rfl
@[simp] theorem nils_112 : nilPos Tryz.prog 112 = [] := by kernel_rfl
@[simp] theorem app_112 : appOk Tryz.prog 112 = true := by kernel_rfl
@[simp] theorem eby_112 : ebytes Tryz.prog 112 = 8 := by kernel_rfl
@[simp] theorem info_115 : (Tryz.prog.info? 115).isSome = true := by kernel_rfl
@[simp] theorem agg_115 : aggO Tryz.prog 115 = some false := by kernel_rfl
@[simp] theorem esz_115 : esz Tryz.prog 115 = 1 := by kernel_rfl
@[simp] theorem conc_115 : Tryz.prog.concrete 115 = true := by kernel_rfl
@[simp] theorem zero_115 : azero Tryz.prog 115 = some [.nilPtr] := by kernel_rfl
@[simp] theorem nils_115 : nilPos Tryz.prog 115 = [] := by kernel_rfl
@[simp] theorem app_115 : appOk Tryz.prog 115 = true := by kernel_rfl
@[simp] theorem eby_115 : ebytes Tryz.prog 115 = 8 := by kernel_rfl
@[simp] theorem info_118 : (Tryz.prog.info? 118).isSome = true := by kernel_rfl
@[simp] theorem agg_118 : aggO Tryz.prog 118 = some true := by kernel_rfl
@[simp] theorem esz_118 : esz Tryz.prog 118 = 24 := by kernel_rfl
@[simp] theorem arrt_118 : arrT Tryz.prog 118 = some (24, 5) := by kernel_rfl
@[simp] theorem conc_118 : Tryz.prog.concrete 118 = true := by kernel_rfl
@[simp] theorem zero_118 : azero Tryz.prog 118 = some [.int .u8 0, .int .u8 0, .int .u8 0, .int .u8 0, .int .u8 0, .int .u8 0, .int .u8 0, .int .u8 0, .int .u8 0, .int .u8 0, .int .u8 0, .int .u8 0, .int .u8 0, .int .u8 0, .int .u8 0, .int .u8 0, .int .u8 0, .int .u8 0, .int .u8 0, .int .u8 0, .int .u8 0, .int .u8 0, .int .u8 0, .int .u8 0] := by kernel_rfl
@[simp] theorem nils_118 : nilPos Tryz.prog 118 = [] := by kernel_rfl
@[simp] theorem app_118 : appOk Tryz.prog 118 = true := by kernel_rfl
@[simp] theorem eby_118 : ebytes Tryz.prog 118 = 24 := by kernel_rfl
@[simp] theorem info_119 : (Tryz.prog.info? 119).isSome = true := by kernel_rfl
@[simp] theorem agg_119 : aggO Tryz.prog 119 = some false := by kernel_rfl
@[simp] theorem esz_119 : esz Tryz.prog 119 = 1 := by kernel_rfl
@[simp] theorem ikind_119 : ikind Tryz.prog 119 = some .u64 := by kernel_rfl
@[simp] theorem under_119 : Tryz.prog.underlying 119 = some (.int .u64) := by kernel_rfl
@[simp] theorem conc_119 : Tryz.prog.concrete 119 = true := by kernel_rfl
@[simp] theorem zero_119 : azero Tryz.prog 119 = some [.int .u64 0] := by kernel_rfl
@[simp] theorem nils_119 : nilPos Tryz.prog 119 = [] := by kernel_rfl
@[simp] theorem app_119 : appOk Tryz.prog 119 = true := by kernel_rfl
@[simp] theorem eby_119 : ebytes Tryz.prog 119 = 8 := by kernel_rfl
@[simp] theorem info_129 : (Tryz.prog.info? 129).isSome = true := by kernel_rfl
@[simp] theorem agg_129 : aggO Tryz.prog 129 = some true := by kernel_rfl
@[simp] theorem esz_129 : esz Tryz.prog 129 = 256 := by kernel_rfl
@[simp] theorem arrt_129 : arrT Tryz.prog 129 = some (256, 4) := by kernel_rfl
@[simp] theorem conc_129 : Tryz.prog.concrete 129 = true := by kernel_rfl
@[simp] theorem zero_129 : azero Tryz.prog 129 = some [.bool false, .bool false, .bool false, .bool false, .bool false, .bool false, .bool false, .bool false, .bool false, .bool false, .bool false, .bool false, .bool false, .bool false, .bool false, .bool false, .bool false, .bool false, .bool false, .bool false, .bool false, .bool false, .bool false, .bool false, .bool false, .bool false, .bool false, .bool false, .bool false, .bool false, .bool false, .bool false, .bool false, .bool false, .bool false, .bool false, .bool false, .bool false, .bool false, .bool false, .bool false, .bool false, .bool false, .bool false, .bool false, .bool false, .bool false, .bool false, .bool false, .bool false, .bool false, .bool false, .bool false, .bool false, .bool false, .bool false, .bool false, .bool false, .bool false, .bool false, .bool false, .bool false, .bool false, .bool false, .bool false, .bool false, .bool false, .bool false, .bool false, .bool false, .bool false, .bool false, .bool false, .bool false, .bool false, .bool false, .bool false, .bool false, .bool false, .bool false, .bool false, .bool false, .bool false, .bool false, .bool false, .bool false, .bool false, .bool false, .bool false, .bool false, .bool false, .bool false, .bool false, .bool false, .bool false, .bool false, .bool false, .bool false, .bool false, .bool false, .bool false, .bool false, .bool false, .bool false, .bool false, .bool false, .bool false, .bool false, .bool false, .bool false, .bool false, .bool false, .bool false, .bool false, .bool false, .bool false, .bool false, .bool false, .bool false, .bool false, .bool false, .bool false, .bool false, .bool false, .bool false, .bool false, .bool false, .bool false, .bool false, .bool false, .bool false, .bool false, .bool false, .bool false, .bool false, .bool false, .bool false, .bool false, .bool false, .bool false, .bool false, .bool false, .bool false, .bool false, .bool false, .bool false, .bool false, .bool false, .bool false, .bool false, .bool false, .bool false, .bool false, .bool false, .bool false, .bool false, .bool false, .bool false, .bool false, .bool false, .bool false, .bool false, .bool false, .bool false, .bool false, .bool false, .bool false, .bool false, .bool false, .bool false, .bool false, .bool false, .bool false, .bool false, .bool false, .bool false, .bool false, .bool false, .bool false, .bool false, .bool false, .bool false, .bool false, .bool false, .bool false, .bool false, .bool false, .bool false, .bool false, .bool false, .bool false, .bool false, .bool false, .bool false, .bool false, .bool false, .bool false, .bool false, .bool false, .bool false, .bool false, .bool false, .bool false, .bool false, .bool false, .bool false, .bool false, .bool false, .bool false, .bool false, .bool false, .bool false, .bool false, .bool false, .bool false, .bool false, .bool false, .bool false, .bool false, .bool false, .bool false, .bool false, .bool false, .bool false, .bool false, .bool false, .bool false, .bool false, .bool false, .bool false, .bool false, .bool false, .bool false, .bool false, .bool false, .bool false, .bool false, .bool false, .bool false, .bool false, .bool false, .bool false, .bool false, .bool false, .bool false, .bool false, .bool false, .bool false, .bool false, .bool false, .bool false, .bool false, .bool false, .bool false, .bool false, .bool false] := by kernel_rfl
@[simp] theorem nils_129 : nilPos Tryz.prog 129 = [] := by kernel_rfl
@[simp] theorem app_129 : appOk Tryz.prog 129 = true := by kernel_rfl
@[simp] theorem eby_129 : ebytes Tryz.prog 129 = 256 := by kernel_rfl
@[simp] theorem info_136 : (Tryz.prog.info? 136).isSome = true := by kernel_rfl
@[simp] theorem agg_136 : aggO Tryz.prog 136 = some true := by kernel_rfl
@[simp] theorem esz_136 : esz Tryz.prog 136 = 7 := by kernel_rfl
@[simp] theorem arrt_136 : arrT Tryz.prog 136 = some (7, 9) := by kernel_rfl
@[simp] theorem conc_136 : Tryz.prog.concrete 136 = true := by kernel_rfl
@[simp] theorem zero_136 : azero Tryz.prog 136 = some [.str [], .str [], .str [], .str [], .str [], .str [], .str []] := by kernel_rfl
@[simp] theorem nils_136 : nilPos Tryz.prog 136 = [] := by kernel_rfl
@[simp] theorem app_136 : appOk Tryz.prog 136 = true := by kernel_rfl
@[simp] theorem eby_136 : ebytes Tryz.prog 136 = 112 := by kernel_rfl
@[simp] theorem info_140 : (Tryz.prog.info? 140).isSome = true := by kernel_rfl
@[simp] theorem agg_140 : aggO Tryz.prog 140 = some false := by kernel_rfl
@[simp] theorem esz_140 : esz Tryz.prog 140 = 1 := by kernel_rfl
@[simp] theorem ikind_140 : ikind Tryz.prog 140 = some .u64 := by kernel_rfl
@[simp] theorem under_140 : Tryz.prog.underlying 140 = some (.int .u64) := by kernel_rfl
@[simp] theorem conc_140 : Tryz.prog.concrete 140 = true := by kernel_rfl
@[simp] theorem zero_140 : azero Tryz.prog 140 = some [.int .u64 0] := by kernel_rfl
@[simp] theorem nils_140 : nilPos Tryz.prog 140 = [] := by kernel_rfl
@[simp] theorem app_140 : appOk Tryz.prog 140 = true := by kernel_rfl
@[simp] theorem eby_140 : ebytes Tryz.prog 140 = 8 := by kernel_rfl
@[simp] theorem info_142 : (Tryz.prog.info? 142).isSome = true := by kernel_rfl
@[simp] theorem agg_142 : aggO Tryz.prog 142 = some true := by kernel_rfl
@[simp] theorem esz_142 : esz Tryz.prog 142 = 3 := by kernel_rfl
@[simp] theorem conc_142 : Tryz.prog.concrete 142 = true := by kernel_rfl
@[simp] theorem foff_142_0 : foff Tryz.prog 142 0 = some 0 := by kernel_rfl
@[simp] theorem ftyp_142_0 : ftyp Tryz.prog 142 0 = 9 := by kernel_rfl
@[simp] theorem foff_142_1 : foff Tryz.prog 142 1 = some 1 := by kernel_rfl
@[simp] theorem ftyp_142_1 : ftyp Tryz.prog 142 1 = 9 := by kernel_rfl
@[simp] theorem foff_142_2 : foff Tryz.prog 142 2 = some 2 := by kernel_rfl
@[simp] theorem ftyp_142_2 : ftyp Tryz.prog 142 2 = 82 := by kernel_rfl
@[simp] theorem known_142 : knownF Tryz.prog 142 = true := by kernel_rfl
@[simp] theorem zero_142 : azero Tryz.prog 142 = some [.str [], .str [], .nilIface] := by kernel_rfl
@[simp] theorem nils_142 : nilPos Tryz.prog 142 = [] := by kernel_rfl
@[simp] theorem app_142 : appOk Tryz.prog 142 = true := by kernel_rfl
@[simp] theorem eby_142 : ebytes Tryz.prog 142 = 48 := by kernel_rfl
@[simp] theorem info_146 : (Tryz.prog.info? 146).isSome = true := by kernel_rfl
@[simp] theorem agg_146 : aggO Tryz.prog 146 = some true := by kernel_rfl
@[simp] theorem esz_146 : esz Tryz.prog 146 = 20 := by kernel_rfl
@[simp] theorem arrt_146 : arrT Tryz.prog 146 = some (20, 119) := by kernel_rfl
@[simp] theorem conc_146 : Tryz.prog.concrete 146 = true := by kernel_rfl
@[simp] theorem zero_146 : azero Tryz.prog 146 = some [.int .u64 0, .int .u64 0, .int .u64 0, .int .u64 0, .int .u64 0, .int .u64 0, .int .u64 0, .int .u64 0, .int .u64 0, .int .u64 0, .int .u64 0, .int .u64 0, .int .u64 0, .int .u64 0, .int .u64 0, .int .u64 0, .int .u64 0, .int .u64 0, .int .u64 0, .int .u64 0] := by kernel_rfl
@[simp] theorem nils_146 : nilPos Tryz.prog 146 = [] := by kernel_rfl
@[simp] theorem app_146 : appOk Tryz.prog 146 = true := by kernel_rfl
@[simp] theorem eby_146 : ebytes Tryz.prog 146 = 160 := by kernel_rfl
@[simp] theorem info_147 : (Tryz.prog.info? 147).isSome = true := by kernel_rfl
@[simp] theorem agg_147 : aggO Tryz.prog 147 = some false := by kernel_rfl
@[simp] theorem esz_147 : esz Tryz.prog 147 = 1 := by kernel_rfl
@[simp] theorem ikind_147 : ikind Tryz.prog 147 = some .u32 := by kernel_rfl
@[simp] theorem under_147 : Tryz.prog.underlying 147 = some (.int .u32) := by kernel_rfl
@[simp] theorem conc_147 : Tryz.prog.concrete 147 = true := by kernel_rfl
@[simp] theorem zero_147 : azero Tryz.prog 147 = some [.int .u32 0] := by kernel_rfl
@[simp] theorem nils_147 : nilPos Tryz.prog 147 = [] := by kernel_rfl
@[simp] theorem app_147 : appOk Tryz.prog 147 = true := by kernel_rfl
@[simp] theorem eby_147 : ebytes Tryz.prog 147 = 4 := by kernel_rfl
@[simp] theorem info_148 : (Tryz.prog.info? 148).isSome = true := by kernel_rfl
@[simp] theorem agg_148 : aggO Tryz.prog 148 = some true := by kernel_rfl
@[simp] theorem esz_148 : esz Tryz.prog 148 = 65 := by kernel_rfl
@[simp] theorem arrt_148 : arrT Tryz.prog 148 = some (65, 5) := by kernel_rfl
@[simp] theorem conc_148 : Tryz.prog.concrete 148 = true := by kernel_rfl
@[simp] theorem zero_148 : azero Tryz.prog 148 = some [.int .u8 0, .int .u8 0, .int .u8 0, .int .u8 0, .int .u8 0, .int .u8 0, .int .u8 0, .int .u8 0, .int .u8 0, .int .u8 0, .int .u8 0, .int .u8 0, .int .u8 0, .int .u8 0, .int .u8 0, .int .u8 0, .int .u8 0, .int .u8 0, .int .u8 0, .int .u8 0, .int .u8 0, .int .u8 0, .int .u8 0, .int .u8 0, .int .u8 0, .int .u8 0, .int .u8 0, .int .u8 0, .int .u8 0, .int .u8 0, .int .u8 0, .int .u8 0, .int .u8 0, .int .u8 0, .int .u8 0, .int .u8 0, .int .u8 0, .int .u8 0, .int .u8 0, .int .u8 0, .int .u8 0, .int .u8 0, .int .u8 0, .int .u8 0, .int .u8 0, .int .u8 0, .int .u8 0, .int .u8 0, .int .u8 0, .int .u8 0, .int .u8 0, .int .u8 0, .int .u8 0, .int .u8 0, .int .u8 0, .int .u8 0, .int .u8 0, .int .u8 0, .int .u8 0, .int .u8 0, .int .u8 0, .int .u8 0, .int .u8 0, .int .u8 0, .int .u8 0] := by kernel_rfl
@[simp] theorem nils_148 : nilPos Tryz.prog 148 = [] := by kernel_rfl
@[simp] theorem app_148 : appOk Tryz.prog 148 = true := by kernel_rfl
@[simp] theorem eby_148 : ebytes Tryz.prog 148 = 65 := by kernel_rfl
@[simp] theorem info_152 : (Tryz.prog.info? 152).isSome = true := by kernel_rfl
@[simp] theorem agg_152 : aggO Tryz.prog 152 = some false := by kernel_rfl
@[simp] theorem esz_152 : esz Tryz.prog 152 = 1 := by kernel_rfl
@[simp] theorem conc_152 : Tryz.prog.concrete 152 = true := by kernel_rfl
@[simp] theorem zero_152 : azero Tryz.prog 152 = some [.nilPtr] := by kernel_rfl
@[simp] theorem nils_152 : nilPos Tryz.prog 152 = [] := by kernel_rfl
@[simp] theorem app_152 : appOk Tryz.prog 152 = true := by kernel_rfl
@[simp] theorem eby_152 : ebytes Tryz.prog 152 = 8 := by kernel_rfl
@[simp] theorem info_159 : (Tryz.prog.info? 159).isSome = true := by kernel_rfl
@[simp] theorem agg_159 : aggO Tryz.prog 159 = some false := by kernel_rfl
@[simp] theorem esz_159 : esz Tryz.prog 159 = 1 := by kernel_rfl
@[simp] theorem conc_159 : Tryz.prog.concrete 159 = true := by kernel_rfl
@[simp] theorem zero_159 : azero Tryz.prog 159 = some [.nilPtr] := by kernel_rfl
@[simp] theorem nils_159 : nilPos Tryz.prog 159 = [] := by kernel_rfl
@[simp] theorem app_159 : appOk Tryz.prog 159 = true := by kernel_rfl
@[simp] theorem eby_159 : ebytes Tryz.prog 159 = 8 := by kernel_rfl
@[simp] theorem info_161 : (Tryz.prog.info? 161).isSome = true := by kernel_rfl
@[simp] theorem agg_161 : aggO Tryz.prog 161 = some true := by kernel_rfl
@[simp] theorem esz_161 : esz Tryz.prog 161 = 1 := by kernel_rfl
@[simp] theorem conc_161 : Tryz.prog.concrete 161 = true := by kernel_rfl
@[simp] theorem foff_161_0 : foff Tryz.prog 161 0 = some 0 := by kernel_rfl
@[simp] theorem ftyp_161_0 : ftyp Tryz.prog 161 0 = 9 := by kernel_rfl
@[simp] theorem known_161 : knownF Tryz.prog 161 = true := by kernel_rfl
@[simp] theorem zero_161 : azero Tryz.prog 161 = some [.str []] := by kernel_rfl
@[simp] theorem nils_161 : nilPos Tryz.prog 161 = [] := by kernel_rfl
@[simp] theorem app_161 : appOk Tryz.prog 161 = true := by kernel_rfl
@[simp] theorem eby_161 : ebytes Tryz.prog 161 = 16 := by kernel_rfl
@[simp] theorem info_163 : (Tryz.prog.info? 163).isSome = true := by kernel_rfl
@[simp] theorem agg_163 : aggO Tryz.prog 163 = some true := by kernel_rfl
@[simp] theorem esz_163 : esz Tryz.prog 163 = 256 := by kernel_rfl
@[simp] theorem arrt_163 : arrT Tryz.prog 163 = some (256, 5) := by kernel_rfl
@[simp] theorem conc_163 : Tryz.prog.concrete 163 = true := by kernel_rfl
@[simp] theorem zero_163 : azero Tryz.prog 163 = some [.int .u8 0, .int .u8 0, .int .u8 0, .int .u8 0, .int .u8 0, .int .u8 0, .int .u8 0, .int .u8 0, .int .u8 0, .int .u8 0, .int .u8 0, .int .u8 0, .int .u8 0, .int .u8 0, .int .u8 0, .int .u8 0, .int .u8 0, .int .u8 0, .int .u8 0, .int .u8 0, .int .u8 0, .int .u8 0, .int .u8 0, .int .u8 0, .int .u8 0, .int .u8 0, .int .u8 0, .int .u8 0, .int .u8 0, .int .u8 0, .int .u8 0, .int .u8 0, .int .u8 0, .int .u8 0, .int .u8 0, .int .u8 0, .int .u8 0, .int .u8 0, .int .u8 0, .int .u8 0, .int .u8 0, .int .u8 0, .int .u8 0, .int .u8 0, .int .u8 0, .int .u8 0, .int .u8 0, .int .u8 0, .int .u8 0, .int .u8 0, .int .u8 0, .int .u8 0, .int .u8 0, .int .u8 0, .int .u8 0, .int .u8 0, .int .u8 0, .int .u8 0, .int .u8 0, .int .u8 0, .int .u8 0, .int .u8 0, .int .u8 0, .int .u8 0, .int .u8 0, .int .u8 0, .int .u8 0, .int .u8 0, .int .u8 0, .int .u8 0, .int .u8 0, .int .u8 0, .int .u8 0, .int .u8 0, .int .u8 0, .int .u8 0, .int .u8 0, .int .u8 0, .int .u8 0, .int .u8 0, .int .u8 0, .int .u8 0, .int .u8 0, .int .u8 0, .int .u8 0, .int .u8 0, .int .u8 0, .int .u8 0, .int .u8 0, .int .u8 0, .int .u8 0, .int .u8 0, .int .u8 0, .int .u8 0, .int .u8 0, .int .u8 0, .int .u8 0, .int .u8 0, .int .u8 0, .int .u8 0, .int .u8 0, .int .u8 0, .int .u8 0, .int .u8 0, .int .u8 0, .int .u8 0, .int .u8 0, .int .u8 0, .int .u8 0, .int .u8 0, .int .u8 0, .int .u8 0, .int .u8 0, .int .u8 0, .int .u8 0, .int .u8 0, .int .u8 0, .int .u8 0, .int .u8 0, .int .u8 0, .int .u8 0, .int .u8 0, .int .u8 0, .int .u8 0, .int .u8 0, .int .u8 0, .int .u8 0, .int .u8 0, .int .u8 0, .int .u8 0, .int .u8 0, .int .u8 0, .int .u8 0, .int .u8 0, .int .u8 0, .int .u8 0, .int .u8 0, .int .u8 0, .int .u8 0, .int .u8 0, .int .u8 0, .int .u8 0, .int .u8 0, .int .u8 0, .int .u8 0, .int .u8 0, .int .u8 0, .int .u8 0, .int .u8 0, .int .u8 0, .int .u8 0, .int .u8 0, .int .u8 0, .int .u8 0, .int .u8 0, .int .u8 0, .int .u8 0, .int .u8 0, .int .u8 0, .int .u8 0, .int .u8 0, .int .u8 0, .int .u8 0, .int .u8 0, .int .u8 0, .int .u8 0, .int .u8 0, .int .u8 0, .int .u8 0, .int .u8 0, .int .u8 0, .int .u8 0, .int .u8 0, .int .u8 0, .int .u8 0, .int .u8 0, .int .u8 0, .int .u8 0, .int .u8 0, .int .u8 0, .int .u8 0, .int .u8 0, .int .u8 0, .int .u8 0, .int .u8 0, .int .u8 0, .int .u8 0, .int .u8 0, .int .u8 0, .int .u8 0, .int .u8 0, .int .u8 0, .int .u8 0, .int .u8 0, .int .u8 0, .int .u8 0, .int .u8 0, .int .u8 0, .int .u8 0, .int .u8 0, .int .u8 0, .int .u8 0, .int .u8 0, .int .u8 0, .int .u8 0, .int .u8 0, .int .u8 0, .int .u8 0, .int .u8 0, .int .u8 0, .int .u8 0, .int .u8 0, .int .u8 0, .int .u8 0, .int .u8 0, .int .u8 0, .int .u8 0, .int .u8 0, .int .u8 0, .int .u8 0, .int .u8 0, .int .u8 0, .int .u8 0, .int .u8 0, .int .u8 0, .int .u8 0, .int .u8 0, .int .u8 0, .int .u8 0, .int .u8 0, .int .u8 0, .int .u8 0, .int .u8 0, .int .u8 0, .int .u8 0, .int .u8 0, .int .u8 0, .int .u8 0, .int .u8 0, .int .u8 0, .int .u8 0, .int .u8 0, .int .u8 0, .int .u8 0, .int .u8 0, .int .u8 0, .int .u8 0, .int .u8 0, .int .u8 0, .int .u8 0, .int .u8 0, .int .u8 0, .int .u8 0, .int .u8 0, .int .u8 0, .int .u8 0] := by kernel_rfl
@[simp] theorem nils_163 : nilPos Tryz.prog 163 = [] := by kernel_rfl
@[simp] theorem app_163 : appOk Tryz.prog 163 = true := by kernel_rfl
@[simp] theorem eby_163 : ebytes Tryz.prog 163 = 256 := by kernel_rfl
@[simp] theorem info_165 : (Tryz.prog.info? 165).isSome = true := by kernel_rfl
@[simp] theorem agg_165 : aggO Tryz.prog 165 = some true := by kernel_rfl
@[simp] theorem esz_165 : esz Tryz.prog 165 = 2 := by kernel_rfl
@[simp] theorem conc_165 : Tryz.prog.concrete 165 = true := by kernel_rfl
@[simp] theorem foff_165_0 : foff Tryz.prog 165 0 = some 0 := by kernel_rfl
@[simp] theorem ftyp_165_0 : ftyp Tryz.prog 165 0 = 5 := by kernel_rfl
@[simp] theorem foff_165_1 : foff Tryz.prog 165 1 = some 1 := by kernel_rfl
@[simp] theorem ftyp_165_1 : ftyp Tryz.prog 165 1 = 5 := by kernel_rfl
@[simp] theorem known_165 : knownF Tryz.prog 165 = true := by kernel_rfl
@[simp] theorem zero_165 : azero Tryz.prog 165 = some [.int .u8 0, .int .u8 0] := by kernel_rfl
@[simp] theorem nils_165 : nilPos Tryz.prog 165 = [] := by kernel_rfl
@[simp] theorem app_165 : appOk Tryz.prog 165 = true := by kernel_rfl
@[simp] theorem eby_165 : ebytes Tryz.prog 165 = 2 := by kernel_rfl
@[simp] theorem info_166 : (Tryz.prog.info? 166).isSome = true := by kernel_rfl
@[simp] theorem agg_166 : aggO Tryz.prog 166 = some true := by kernel_rfl
@[simp] theorem esz_166 : esz Tryz.prog 166 = 32 := by kernel_rfl
@[simp] theorem arrt_166 : arrT Tryz.prog 166 = some (16, 165) := by kernel_rfl
@[simp] theorem conc_166 : Tryz.prog.concrete 166 = true := by kernel_rfl
@[simp] theorem zero_166 : azero Tryz.prog 166 = some [.int .u8 0, .int .u8 0, .int .u8 0, .int .u8 0, .int .u8 0, .int .u8 0, .int .u8 0, .int .u8 0, .int .u8 0, .int .u8 0, .int .u8 0, .int .u8 0, .int .u8 0, .int .u8 0, .int .u8 0, .int .u8 0, .int .u8 0, .int .u8 0, .int .u8 0, .int .u8 0, .int .u8 0, .int .u8 0, .int .u8 0, .int .u8 0, .int .u8 0, .int .u8 0, .int .u8 0, .int .u8 0, .int .u8 0, .int .u8 0, .int .u8 0, .int .u8 0] := by kernel_rfl
@[simp] theorem nils_166 : nilPos Tryz.prog 166 = [] := by kernel_rfl
@[simp] theorem app_166 : appOk Tryz.prog 166 = true := by kernel_rfl
@[simp] theorem eby_166 : ebytes Tryz.prog 166 = 32 := by kernel_rfl
@[simp] theorem info_168 : (Tryz.prog.info? 168).isSome = true := by kernel_rfl
@[simp] theorem agg_168 : aggO Tryz.prog 168 = some true := by kernel_rfl
@[simp] theorem esz_168 : esz Tryz.prog 168 = 32 := by kernel_rfl
@[simp] theorem arrt_168 : arrT Tryz.prog 168 = some (32, 5) := by kernel_rfl
@[simp] theorem conc_168 : Tryz.prog.concrete 168 = true := by kernel_rfl
@[simp] theorem zero_168 : azero Tryz.prog 168 = some [.int .u8 0, .int .u8 0, .int .u8 0, .int .u8 0, .int .u8 0, .int .u8 0, .int .u8 0, .int .u8 0, .int .u8 0, .int .u8 0, .int .u8 0, .int .u8 0, .int .u8 0, .int .u8 0, .int .u8 0, .int .u8 0, .int .u8 0, .int .u8 0, .int .u8 0, .int .u8 0, .int .u8 0, .int .u8 0, .int .u8 0, .int .u8 0, .int .u8 0, .int .u8 0, .int .u8 0, .int .u8 0, .int .u8 0, .int .u8 0, .int .u8 0, .int .u8 0] := by kernel_rfl
@[simp] theorem nils_168 : nilPos Tryz.prog 168 = [] := by kernel_rfl
@[simp] theorem app_168 : appOk Tryz.prog 168 = true := by kernel_rfl
@[simp] theorem eby_168 : ebytes Tryz.prog 168 = 32 := by kernel_rfl
@[simp] theorem info_169 : (Tryz.prog.info? 169).isSome = true := by kernel_rfl
@[simp] theorem agg_169 : aggO Tryz.prog 169 = some true := by kernel_rfl
@[simp] theorem esz_169 : esz Tryz.prog 169 = 64 := by kernel_rfl
@[simp] theorem arrt_169 : arrT Tryz.prog 169 = some (64, 5) := by kernel_rfl
@[simp] theorem conc_169 : Tryz.prog.concrete 169 = true := by kernel_rfl
@[simp] theorem zero_169 : azero Tryz.prog 169 = some [.int .u8 0, .int .u8 0, .int .u8 0, .int .u8 0, .int .u8 0, .int .u8 0, .int .u8 0, .int .u8 0, .int .u8 0, .int .u8 0, .int .u8 0, .int .u8 0, .int .u8 0, .int .u8 0, .int .u8 0, .int .u8 0, .int .u8 0, .int .u8 0, .int .u8 0, .int .u8 0, .int .u8 0, .int .u8 0, .int .u8 0, .int .u8 0, .int .u8 0, .int .u8 0, .int .u8 0, .int .u8 0, .int .u8 0, .int .u8 0, .int .u8 0, .int .u8 0, .int .u8 0, .int .u8 0, .int .u8 0, .int .u8 0, .int .u8 0, .int .u8 0, .int .u8 0, .int .u8 0, .int .u8 0, .int .u8 0, .int .u8 0, .int .u8 0, .int .u8 0, .int .u8 0, .int .u8 0, .int .u8 0, .int .u8 0, .int .u8 0, .int .u8 0, .int .u8 0, .int .u8 0, .int .u8 0, .int .u8 0, .int .u8 0, .int .u8 0, .int .u8 0, .int .u8 0, .int .u8 0, .int .u8 0, .int .u8 0, .int .u8 0, .int .u8 0] := by kernel_rfl
@[simp] theorem nils_169 : nilPos Tryz.prog 169 = [] := by kernel_rfl
@[simp] theorem app_169 : appOk Tryz.prog 169 = true := by kernel_rfl
@[simp] theorem eby_169 : ebytes Tryz.prog 169 = 64 := by kernel_rfl
theorem mixed : Tryz.prog.follows .mixedOrders = true := by kernel_rfl
end Pt
end Go.Proofs.YtocmdbojefgpbaaGreatDoor
