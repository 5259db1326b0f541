/- The closed facts on the types of this translation that the walk asks; made by program. -/
import Derived.Test.YtpjkdaechknogaaDoorProg
import Derived.Test.YtpjkdaechknogaaDoorPvO
import Derived.KernelRfl
set_option linter.all false
namespace Go.Proofs.YtpjkdaechknogaaDoor
open Go Go.Pv
namespace Pt
@[simp] theorem info_1 : (Tryd.prog.info? 1).isSome = true := by kernel_rfl
@[simp] theorem agg_1 : aggO Tryd.prog 1 = some false := by kernel_rfl
@[simp] theorem esz_1 : esz Tryd.prog 1 = 1 := by kernel_rfl
@[simp] theorem funct_1 : funcT Tryd.prog 1 = true := by kernel_rfl
@[simp] theorem conc_1 : Tryd.prog.concrete 1 = true := by kernel_rfl
@[simp] theorem zero_1 : azero Tryd.prog 1 = some [.nilFunc] := by kernel_rfl
@[simp] theorem nils_1 : nilPos Tryd.prog 1 = [] := by kernel_rfl
@[simp] theorem app_1 : appOk Tryd.prog 1 = true := by kernel_rfl
@[simp] theorem eby_1 : ebytes Tryd.prog 1 = 8 := by kernel_rfl
@[simp] theorem info_2 : (Tryd.prog.info? 2).isSome = true := by kernel_rfl
@[simp] theorem agg_2 : aggO Tryd.prog 2 = some false := by kernel_rfl
@[simp] theorem esz_2 : esz Tryd.prog 2 = 1 := by kernel_rfl
@[simp] theorem ikind_2 : ikind Tryd.prog 2 = some .i64 := by kernel_rfl
@[simp] theorem under_2 : Tryd.prog.underlying 2 = some (.int .i64) := by kernel_rfl
@[simp] theorem conc_2 : Tryd.prog.concrete 2 = true := by kernel_rfl
@[simp] theorem zero_2 : azero Tryd.prog 2 = some [.int .i64 0] := by kernel_rfl
@[simp] theorem nils_2 : nilPos Tryd.prog 2 = [] := by kernel_rfl
@[simp] theorem app_2 : appOk Tryd.prog 2 = true := by kernel_rfl
@[simp] theorem eby_2 : ebytes Tryd.prog 2 = 8 := by kernel_rfl
@[simp] theorem info_3 : (Tryd.prog.info? 3).isSome = true := by kernel_rfl
@[simp] theorem agg_3 : aggO Tryd.prog 3 = some false := by kernel_rfl
@[simp] theorem esz_3 : esz Tryd.prog 3 = 1 := by kernel_rfl
@[simp] theorem ikind_3 : ikind Tryd.prog 3 = some .i64 := by kernel_rfl
@[simp] theorem under_3 : Tryd.prog.underlying 3 = some (.int .i64) := by kernel_rfl
@[simp] theorem conc_3 : Tryd.prog.concrete 3 = true := by kernel_rfl
@[simp] theorem zero_3 : azero Tryd.prog 3 = some [.int .i64 0] := by kernel_rfl
@[simp] theorem nils_3 : nilPos Tryd.prog 3 = [] := by kernel_rfl
@[simp] theorem app_3 : appOk Tryd.prog 3 = true := by kernel_rfl
@[simp] theorem eby_3 : ebytes Tryd.prog 3 = 8 := by kernel_rfl
@[simp] theorem info_4 : (Tryd.prog.info? 4).isSome = true := by kernel_rfl
@[simp] theorem agg_4 : aggO Tryd.prog 4 = some false := by kernel_rfl
@[simp] theorem esz_4 : esz Tryd.prog 4 = 1 := by kernel_rfl
@[simp] theorem under_4 : Tryd.prog.underlying 4 = some .bool := by kernel_rfl
@[simp] theorem boolt_4 : boolT Tryd.prog 4 = true := by kernel_rfl
@[simp] theorem conc_4 : Tryd.prog.concrete 4 = true := by kernel_rfl
@[simp] theorem zero_4 : azero Tryd.prog 4 = some [.bool false] := by kernel_rfl
@[simp] theorem nils_4 : nilPos Tryd.prog 4 = [] := by kernel_rfl
@[simp] theorem app_4 : appOk Tryd.prog 4 = true := by kernel_rfl
@[simp] theorem eby_4 : ebytes Tryd.prog 4 = 1 := by kernel_rfl
@[simp] theorem info_5 : (Tryd.prog.info? 5).isSome = true := by kernel_rfl
@[simp] theorem agg_5 : aggO Tryd.prog 5 = some false := by kernel_rfl
@[simp] theorem esz_5 : esz Tryd.prog 5 = 1 := by kernel_rfl
@[simp] theorem ikind_5 : ikind Tryd.prog 5 = some .u8 := by kernel_rfl
@[simp] theorem under_5 : Tryd.prog.underlying 5 = some (.int .u8) := by kernel_rfl
@[simp] theorem conc_5 : Tryd.prog.concrete 5 = true := by kernel_rfl
@[simp] theorem zero_5 : azero Tryd.prog 5 = some [.int .u8 0] := by kernel_rfl
@[simp] theorem nils_5 : nilPos Tryd.prog 5 = [] := by kernel_rfl
@[simp] theorem app_5 : appOk Tryd.prog 5 = true := by kernel_rfl
@[simp] theorem eby_5 : ebytes Tryd.prog 5 = 1 := by kernel_rfl
@[simp] theorem info_6 : (Tryd.prog.info? 6).isSome = true := by kernel_rfl
@[simp] theorem agg_6 : aggO Tryd.prog 6 = some false := by kernel_rfl
@[simp] theorem esz_6 : esz Tryd.prog 6 = 1 := by kernel_rfl
@[simp] theorem ikind_6 : ikind Tryd.prog 6 = some .u8 := by kernel_rfl
@[simp] theorem under_6 : Tryd.prog.underlying 6 = some (.int .u8) := by kernel_rfl
@[simp] theorem conc_6 : Tryd.prog.concrete 6 = true := by kernel_rfl
@[simp] theorem zero_6 : azero Tryd.prog 6 = some [.int .u8 0] := by kernel_rfl
@[simp] theorem nils_6 : nilPos Tryd.prog 6 = [] := by kernel_rfl
@[simp] theorem app_6 : appOk Tryd.prog 6 = true := by kernel_rfl
@[simp] theorem eby_6 : ebytes Tryd.prog 6 = 1 := by kernel_rfl
@[simp] theorem info_7 : (Tryd.prog.info? 7).isSome = true := by kernel_rfl
@[simp] theorem agg_7 : aggO Tryd.prog 7 = some true := by kernel_rfl
@[simp] theorem esz_7 : esz Tryd.prog 7 = 4 := by kernel_rfl
@[simp] theorem conc_7 : Tryd.prog.concrete 7 = true := by kernel_rfl
@[simp] theorem foff_7_0 : foff Tryd.prog 7 0 = some 0 := by kernel_rfl
@[simp] theorem ftyp_7_0 : ftyp Tryd.prog 7 0 = 2 := by kernel_rfl
@[simp] theorem foff_7_1 : foff Tryd.prog 7 1 = some 1 := by kernel_rfl
@[simp] theorem ftyp_7_1 : ftyp Tryd.prog 7 1 = 3 := by kernel_rfl
@[simp] theorem foff_7_2 : foff Tryd.prog 7 2 = some 2 := by kernel_rfl
@[simp] theorem ftyp_7_2 : ftyp Tryd.prog 7 2 = 4 := by kernel_rfl
@[simp] theorem foff_7_3 : foff Tryd.prog 7 3 = some 3 := by kernel_rfl
@[simp] theorem ftyp_7_3 : ftyp Tryd.prog 7 3 = 6 := by kernel_rfl
@[simp] theorem known_7 : knownF Tryd.prog 7 = true := by kernel_rfl
@[simp] theorem zero_7 : azero Tryd.prog 7 = some [.int .i64 0, .int .i64 0, .bool false, .int .u8 0] := by kernel_rfl
@[simp] theorem nils_7 : nilPos Tryd.prog 7 = [] := by kernel_rfl
@[simp] theorem app_7 : appOk Tryd.prog 7 = true := by kernel_rfl
@[simp] theorem eby_7 : ebytes Tryd.prog 7 = 24 := by kernel_rfl
@[simp] theorem info_9 : (Tryd.prog.info? 9).isSome = true := by kernel_rfl
@[simp] theorem agg_9 : aggO Tryd.prog 9 = some false := by kernel_rfl
@[simp] theorem esz_9 : esz Tryd.prog 9 = 1 := by kernel_rfl
@[simp] theorem under_9 : Tryd.prog.underlying 9 = some .string := by kernel_rfl
@[simp] theorem strt_9 : strT Tryd.prog 9 = true := by kernel_rfl
@[simp] theorem strb_9 : strB Tryd.prog 9 = true := by kernel_rfl
@[simp] theorem conc_9 : Tryd.prog.concrete 9 = true := by kernel_rfl
@[simp] theorem zero_9 : azero Tryd.prog 9 = some [.str []] := by kernel_rfl
@[simp] theorem nils_9 : nilPos Tryd.prog 9 = [] := by kernel_rfl
@[simp] theorem app_9 : appOk Tryd.prog 9 = true := by kernel_rfl
@[simp] theorem eby_9 : ebytes Tryd.prog 9 = 16 := by kernel_rfl
@[simp] theorem info_17 : (Tryd.prog.info? 17).isSome = true := by kernel_rfl
@[simp] theorem agg_17 : aggO Tryd.prog 17 = some false := by kernel_rfl
@[simp] theorem esz_17 : esz Tryd.prog 17 = 1 := by kernel_rfl
@[simp] theorem conc_17 : Tryd.prog.concrete 17 = true := by kernel_rfl
@[simp] theorem zero_17 : azero Tryd.prog 17 = some [.nilPtr] := by kernel_rfl
@[simp] theorem nils_17 : nilPos Tryd.prog 17 = [] := by kernel_rfl
@[simp] theorem app_17 : appOk Tryd.prog 17 = true := by kernel_rfl
@[simp] theorem eby_17 : ebytes Tryd.prog 17 = 8 := by kernel_rfl
@[simp] theorem info_20 : (Tryd.prog.info? 20).isSome = true := by kernel_rfl
@[simp] theorem agg_20 : aggO Tryd.prog 20 = some false := by kernel_rfl
@[simp] theorem esz_20 : esz Tryd.prog 20 = 1 := by kernel_rfl
@[simp] theorem ifacet_20 : ifaceT Tryd.prog 20 = true := by kernel_rfl
@[simp] theorem zero_20 : azero Tryd.prog 20 = some [.nilIface] := by kernel_rfl
@[simp] theorem nils_20 : nilPos Tryd.prog 20 = [] := by kernel_rfl
@[simp] theorem app_20 : appOk Tryd.prog 20 = true := by kernel_rfl
@[simp] theorem eby_20 : ebytes Tryd.prog 20 = 16 := by kernel_rfl
@[simp] theorem info_21 : (Tryd.prog.info? 21).isSome = true := by kernel_rfl
@[simp] theorem agg_21 : aggO Tryd.prog 21 = some false := by kernel_rfl
@[simp] theorem esz_21 : esz Tryd.prog 21 = 1 := by kernel_rfl
@[simp] theorem ikind_21 : ikind Tryd.prog 21 = some .i32 := by kernel_rfl
@[simp] theorem under_21 : Tryd.prog.underlying 21 = some (.int .i32) := by kernel_rfl
@[simp] theorem conc_21 : Tryd.prog.concrete 21 = true := by kernel_rfl
@[simp] theorem zero_21 : azero Tryd.prog 21 = some [.int .i32 0] := by kernel_rfl
@[simp] theorem nils_21 : nilPos Tryd.prog 21 = [] := by kernel_rfl
@[simp] theorem app_21 : appOk Tryd.prog 21 = true := by kernel_rfl
@[simp] theorem eby_21 : ebytes Tryd.prog 21 = 4 := by kernel_rfl
@[simp] theorem info_22 : (Tryd.prog.info? 22).isSome = true := by kernel_rfl
@[simp] theorem agg_22 : aggO Tryd.prog 22 = some false := by kernel_rfl
@[simp] theorem esz_22 : esz Tryd.prog 22 = 1 := by kernel_rfl
@[simp] theorem elem_22 : elemT Tryd.prog 22 = some 24 := by kernel_rfl
@[simp] theorem conc_22 : Tryd.prog.concrete 22 = true := by kernel_rfl
@[simp] theorem zero_22 : azero Tryd.prog 22 = some [.slice []] := by kernel_rfl
@[simp] theorem nils_22 : nilPos Tryd.prog 22 = [0] := by kernel_rfl
@[simp] theorem app_22 : appOk Tryd.prog 22 = true := by kernel_rfl
@[simp] theorem eby_22 : ebytes Tryd.prog 22 = 24 := by kernel_rfl
@[simp] theorem info_24 : (Tryd.prog.info? 24).isSome = true := by kernel_rfl
@[simp] theorem agg_24 : aggO Tryd.prog 24 = some true := by kernel_rfl
@[simp] theorem esz_24 : esz Tryd.prog 24 = 3 := by kernel_rfl
@[simp] theorem conc_24 : Tryd.prog.concrete 24 = true := by kernel_rfl
@[simp] theorem foff_24_0 : foff Tryd.prog 24 0 = some 0 := by kernel_rfl
@[simp] theorem ftyp_24_0 : ftyp Tryd.prog 24 0 = 9 := by kernel_rfl
@[simp] theorem foff_24_1 : foff Tryd.prog 24 1 = some 1 := by kernel_rfl
@[simp] theorem ftyp_24_1 : ftyp Tryd.prog 24 1 = 22 := by kernel_rfl
@[simp] theorem foff_24_2 : foff Tryd.prog 24 2 = some 2 := by kernel_rfl
@[simp] theorem ftyp_24_2 : ftyp Tryd.prog 24 2 = 3 := by kernel_rfl
@[simp] theorem known_24 : knownF Tryd.prog 24 = true := by kernel_rfl
@[simp] theorem zero_24 : azero Tryd.prog 24 = some [.str [], .slice [], .int .i64 0] := by kernel_rfl
@[simp] theorem nils_24 : nilPos Tryd.prog 24 = [1] := by kernel_rfl
@[simp] theorem app_24 : appOk Tryd.prog 24 = true := by kernel_rfl
@[simp] theorem eby_24 : ebytes Tryd.prog 24 = 48 := by kernel_rfl
@[simp] theorem info_25 : (Tryd.prog.info? 25).isSome = true := by kernel_rfl
@[simp] theorem agg_25 : aggO Tryd.prog 25 = some false := by kernel_rfl
@[simp] theorem esz_25 : esz Tryd.prog 25 = 1 := by kernel_rfl
@[simp] theorem elem_25 : elemT Tryd.prog 25 = some 27 := by kernel_rfl
@[simp] theorem conc_25 : Tryd.prog.concrete 25 = true := by kernel_rfl
@[simp] theorem zero_25 : azero Tryd.prog 25 = some [.slice []] := by kernel_rfl
@[simp] theorem nils_25 : nilPos Tryd.prog 25 = [0] := by kernel_rfl
@[simp] theorem app_25 : appOk Tryd.prog 25 = true := by kernel_rfl
@[simp] theorem eby_25 : ebytes Tryd.prog 25 = 24 := by kernel_rfl
@[simp] theorem info_27 : (Tryd.prog.info? 27).isSome = true := by kernel_rfl
@[simp] theorem agg_27 : aggO Tryd.prog 27 = some true := by kernel_rfl
@[simp] theorem esz_27 : esz Tryd.prog 27 = 8 := by kernel_rfl
@[simp] theorem conc_27 : Tryd.prog.concrete 27 = true := by kernel_rfl
@[simp] theorem foff_27_0 : foff Tryd.prog 27 0 = some 0 := by kernel_rfl
@[simp] theorem ftyp_27_0 : ftyp Tryd.prog 27 0 = 3 := by kernel_rfl
@[simp] theorem foff_27_1 : foff Tryd.prog 27 1 = some 1 := by kernel_rfl
@[simp] theorem ftyp_27_1 : ftyp Tryd.prog 27 1 = 9 := by kernel_rfl
@[simp] theorem foff_27_2 : foff Tryd.prog 27 2 = some 2 := by kernel_rfl
@[simp] theorem ftyp_27_2 : ftyp Tryd.prog 27 2 = 24 := by kernel_rfl
@[simp] theorem foff_27_3 : foff Tryd.prog 27 3 = some 5 := by kernel_rfl
@[simp] theorem ftyp_27_3 : ftyp Tryd.prog 27 3 = 22 := by kernel_rfl
@[simp] theorem foff_27_4 : foff Tryd.prog 27 4 = some 6 := by kernel_rfl
@[simp] theorem ftyp_27_4 : ftyp Tryd.prog 27 4 = 25 := by kernel_rfl
@[simp] theorem foff_27_5 : foff Tryd.prog 27 5 = some 7 := by kernel_rfl
@[simp] theorem ftyp_27_5 : ftyp Tryd.prog 27 5 = 3 := by kernel_rfl
@[simp] theorem known_27 : knownF Tryd.prog 27 = true := by kernel_rfl
@[simp] theorem zero_27 : azero Tryd.prog 27 = some [.int .i64 0, .str [], .str [], .slice [], .int .i64 0, .slice [], .slice [], .int .i64 0] := by kernel_rfl
@[simp] theorem nils_27 : nilPos Tryd.prog 27 = [3, 5, 6] := by kernel_rfl
@[simp] theorem app_27 : appOk Tryd.prog 27 = true := by kernel_rfl
@[simp] theorem eby_27 : ebytes Tryd.prog 27 = 128 := by kernel_rfl
@[simp] theorem info_32 : (Tryd.prog.info? 32).isSome = true := by kernel_rfl
@[simp] theorem agg_32 : aggO Tryd.prog 32 = some false := by kernel_rfl
@[simp] theorem esz_32 : esz Tryd.prog 32 = 1 := by kernel_rfl
@[simp] theorem ifacet_32 : ifaceT Tryd.prog 32 = true := by kernel_rfl
@[simp] theorem zero_32 : azero Tryd.prog 32 = some [.nilIface] := by kernel_rfl
@[simp] theorem nils_32 : nilPos Tryd.prog 32 = [] := by kernel_rfl
@[simp] theorem app_32 : appOk Tryd.prog 32 = true := by kernel_rfl
@[simp] theorem eby_32 : ebytes Tryd.prog 32 = 16 := by kernel_rfl
@[simp] theorem info_42 : (Tryd.prog.info? 42).isSome = true := by kernel_rfl
@[simp] theorem agg_42 : aggO Tryd.prog 42 = some false := by kernel_rfl
@[simp] theorem esz_42 : esz Tryd.prog 42 = 1 := by kernel_rfl
@[simp] theorem elem_42 : elemT Tryd.prog 42 = some 47 := by kernel_rfl
@[simp] theorem conc_42 : Tryd.prog.concrete 42 = true := by kernel_rfl
@[simp] theorem zero_42 : azero Tryd.prog 42 = some [.slice []] := by kernel_rfl
@[simp] theorem nils_42 : nilPos Tryd.prog 42 = [0] := by kernel_rfl
@[simp] theorem app_42 : appOk Tryd.prog 42 = true := by kernel_rfl
@[simp] theorem eby_42 : ebytes Tryd.prog 42 = 24 := by kernel_rfl
@[simp] theorem info_44 : (Tryd.prog.info? 44).isSome = true := by kernel_rfl
@[simp] theorem agg_44 : aggO Tryd.prog 44 = some true := by kernel_rfl
@[simp] theorem esz_44 : esz Tryd.prog 44 = 2 := by kernel_rfl
@[simp] theorem conc_44 : Tryd.prog.concrete 44 = true := by kernel_rfl
@[simp] theorem foff_44_0 : foff Tryd.prog 44 0 = some 0 := by kernel_rfl
@[simp] theorem ftyp_44_0 : ftyp Tryd.prog 44 0 = 42 := by kernel_rfl
@[simp] theorem foff_44_1 : foff Tryd.prog 44 1 = some 1 := by kernel_rfl
@[simp] theorem ftyp_44_1 : ftyp Tryd.prog 44 1 = 3 := by kernel_rfl
@[simp] theorem known_44 : knownF Tryd.prog 44 = true := by kernel_rfl
@[simp] theorem zero_44 : azero Tryd.prog 44 = some [.slice [], .int .i64 0] := by kernel_rfl
@[simp] theorem nils_44 : nilPos Tryd.prog 44 = [0] := by kernel_rfl
@[simp] theorem app_44 : appOk Tryd.prog 44 = true := by kernel_rfl
@[simp] theorem eby_44 : ebytes Tryd.prog 44 = 32 := by kernel_rfl
@[simp] theorem info_47 : (Tryd.prog.info? 47).isSome = true := by kernel_rfl
@[simp] theorem agg_47 : aggO Tryd.prog 47 = some true := by kernel_rfl
@[simp] theorem esz_47 : esz Tryd.prog 47 = 3 := by kernel_rfl
@[simp] theorem conc_47 : Tryd.prog.concrete 47 = true := by kernel_rfl
@[simp] theorem foff_47_0 : foff Tryd.prog 47 0 = some 0 := by kernel_rfl
@[simp] theorem ftyp_47_0 : ftyp Tryd.prog 47 0 = 3 := by kernel_rfl
@[simp] theorem foff_47_1 : foff Tryd.prog 47 1 = some 1 := by kernel_rfl
@[simp] theorem ftyp_47_1 : ftyp Tryd.prog 47 1 = 9 := by kernel_rfl
@[simp] theorem foff_47_2 : foff Tryd.prog 47 2 = some 2 := by kernel_rfl
@[simp] theorem ftyp_47_2 : ftyp Tryd.prog 47 2 = 3 := by kernel_rfl
@[simp] theorem known_47 : knownF Tryd.prog 47 = true := by kernel_rfl
@[simp] theorem flats_47 : flatS Tryd.prog 47 = some [3, 9, 3] := by kernel_rfl
@[simp] theorem zero_47 : azero Tryd.prog 47 = some [.int .i64 0, .str [], .int .i64 0] := by kernel_rfl
@[simp] theorem nils_47 : nilPos Tryd.prog 47 = [] := by kernel_rfl
@[simp] theorem app_47 : appOk Tryd.prog 47 = true := by kernel_rfl
@[simp] theorem eby_47 : ebytes Tryd.prog 47 = 32 := by kernel_rfl
@[simp] theorem info_49 : (Tryd.prog.info? 49).isSome = true := by kernel_rfl
@[simp] theorem agg_49 : aggO Tryd.prog 49 = some false := by kernel_rfl
@[simp] theorem esz_49 : esz Tryd.prog 49 = 1 := by kernel_rfl
@[simp] theorem elem_49 : elemT Tryd.prog 49 = some 86 := by kernel_rfl
@[simp] theorem conc_49 : Tryd.prog.concrete 49 = true := by kernel_rfl
@[simp] theorem zero_49 : azero Tryd.prog 49 = some [.slice []] := by kernel_rfl
@[simp] theorem nils_49 : nilPos Tryd.prog 49 = [0] := by kernel_rfl
@[simp] theorem app_49 : appOk Tryd.prog 49 = true := by kernel_rfl
@[simp] theorem eby_49 : ebytes Tryd.prog 49 = 24 := by kernel_rfl
@[simp] theorem info_52 : (Tryd.prog.info? 52).isSome = true := by kernel_rfl
@[simp] theorem agg_52 : aggO Tryd.prog 52 = some false := by kernel_rfl
@[simp] theorem esz_52 : esz Tryd.prog 52 = 1 := by kernel_rfl
@[simp] theorem conc_52 : Tryd.prog.concrete 52 = true := by kernel_rfl
@[simp] theorem zero_52 : azero Tryd.prog 52 = some [.nilPtr] := by kernel_rfl
@[simp] theorem nils_52 : nilPos Tryd.prog 52 = [] := by kernel_rfl
@[simp] theorem app_52 : appOk Tryd.prog 52 = true := by kernel_rfl
@[simp] theorem eby_52 : ebytes Tryd.prog 52 = 8 := by kernel_rfl
@[simp] theorem info_55 : (Tryd.prog.info? 55).isSome = true := by kernel_rfl
@[simp] theorem agg_55 : aggO Tryd.prog 55 = some true := by kernel_rfl
@[simp] theorem esz_55 : esz Tryd.prog 55 = 3 := by kernel_rfl
@[simp] theorem conc_55 : Tryd.prog.concrete 55 = true := by kernel_rfl
@[simp] theorem foff_55_0 : foff Tryd.prog 55 0 = some 0 := by kernel_rfl
@[simp] theorem ftyp_55_0 : ftyp Tryd.prog 55 0 = 42 := by kernel_rfl
@[simp] theorem foff_55_1 : foff Tryd.prog 55 1 = some 1 := by kernel_rfl
@[simp] theorem ftyp_55_1 : ftyp Tryd.prog 55 1 = 3 := by kernel_rfl
@[simp] theorem foff_55_2 : foff Tryd.prog 55 2 = some 2 := by kernel_rfl
@[simp] theorem ftyp_55_2 : ftyp Tryd.prog 55 2 = 4 := by kernel_rfl
@[simp] theorem known_55 : knownF Tryd.prog 55 = true := by kernel_rfl
@[simp] theorem zero_55 : azero Tryd.prog 55 = some [.slice [], .int .i64 0, .bool false] := by kernel_rfl
@[simp] theorem nils_55 : nilPos Tryd.prog 55 = [0] := by kernel_rfl
@[simp] theorem app_55 : appOk Tryd.prog 55 = true := by kernel_rfl
@[simp] theorem eby_55 : ebytes Tryd.prog 55 = 40 := by kernel_rfl
@[simp] theorem info_61 : (Tryd.prog.info? 61).isSome = true := by kernel_rfl
@[simp] theorem agg_61 : aggO Tryd.prog 61 = some false := by kernel_rfl
@[simp] theorem esz_61 : esz Tryd.prog 61 = 1 := by kernel_rfl
@[simp] theorem funct_61 : funcT Tryd.prog 61 = true := by kernel_rfl
@[simp] theorem conc_61 : Tryd.prog.concrete 61 = true := by kernel_rfl
@[simp] theorem zero_61 : azero Tryd.prog 61 = some [.nilFunc] := by kernel_rfl
@[simp] theorem nils_61 : nilPos Tryd.prog 61 = [] := by kernel_rfl
@[simp] theorem app_61 : appOk Tryd.prog 61 = true := by kernel_rfl
@[simp] theorem eby_61 : ebytes Tryd.prog 61 = 8 := by kernel_rfl
@[simp] theorem info_72 : (Tryd.prog.info? 72).isSome = true := by kernel_rfl
@[simp] theorem agg_72 : aggO Tryd.prog 72 = some false := by kernel_rfl
@[simp] theorem esz_72 : esz Tryd.prog 72 = 1 := by kernel_rfl
@[simp] theorem elem_72 : elemT Tryd.prog 72 = some 9 := by kernel_rfl
@[simp] theorem conc_72 : Tryd.prog.concrete 72 = true := by kernel_rfl
@[simp] theorem zero_72 : azero Tryd.prog 72 = some [.slice []] := by kernel_rfl
@[simp] theorem nils_72 : nilPos Tryd.prog 72 = [0] := by kernel_rfl
@[simp] theorem app_72 : appOk Tryd.prog 72 = true := by kernel_rfl
@[simp] theorem eby_72 : ebytes Tryd.prog 72 = 24 := by kernel_rfl
@[simp] theorem info_85 : (Tryd.prog.info? 85).isSome = true := by kernel_rfl
@[simp] theorem agg_85 : aggO Tryd.prog 85 = some false := by kernel_rfl
@[simp] theorem esz_85 : esz Tryd.prog 85 = 1 := by kernel_rfl
@[simp] theorem ikind_85 : ikind Tryd.prog 85 = some .i64 := by kernel_rfl
@[simp] theorem under_85 : Tryd.prog.underlying 85 = some (.int .i64) := by kernel_rfl
@[simp] theorem conc_85 : Tryd.prog.concrete 85 = true := by kernel_rfl
@[simp] theorem zero_85 : azero Tryd.prog 85 = some [.int .i64 0] := by kernel_rfl
@[simp] theorem nils_85 : nilPos Tryd.prog 85 = [] := by kernel_rfl
@[simp] theorem app_85 : appOk Tryd.prog 85 = true := by kernel_rfl
@[simp] theorem eby_85 : ebytes Tryd.prog 85 = 8 := by kernel_rfl
@[simp] theorem info_86 : (Tryd.prog.info? 86).isSome = true := by kernel_rfl
@[simp] theorem agg_86 : aggO Tryd.prog 86 = some true := by kernel_rfl
@[simp] theorem esz_86 : esz Tryd.prog 86 = 3 := by kernel_rfl
@[simp] theorem conc_86 : Tryd.prog.concrete 86 = true := by kernel_rfl
@[simp] theorem foff_86_0 : foff Tryd.prog 86 0 = some 0 := by kernel_rfl
@[simp] theorem ftyp_86_0 : ftyp Tryd.prog 86 0 = 3 := by kernel_rfl
@[simp] theorem foff_86_1 : foff Tryd.prog 86 1 = some 1 := by kernel_rfl
@[simp] theorem ftyp_86_1 : ftyp Tryd.prog 86 1 = 9 := by kernel_rfl
@[simp] theorem foff_86_2 : foff Tryd.prog 86 2 = some 2 := by kernel_rfl
@[simp] theorem ftyp_86_2 : ftyp Tryd.prog 86 2 = 3 := by kernel_rfl
@[simp] theorem known_86 : knownF Tryd.prog 86 = true := by kernel_rfl
@[simp] theorem flats_86 : flatS Tryd.prog 86 = some [3, 9, 3] := by kernel_rfl
@[simp] theorem zero_86 : azero Tryd.prog 86 = some [.int .i64 0, .str [], .int .i64 0] := by kernel_rfl
@[simp] theorem nils_86 : nilPos Tryd.prog 86 = [] := by kernel_rfl
@[simp] theorem app_86 : appOk Tryd.prog 86 = true := by kernel_rfl
@[simp] theorem eby_86 : ebytes Tryd.prog 86 = 32 := by kernel_rfl
@[simp] theorem info_92 : (Tryd.prog.info? 92).isSome = true := by kernel_rfl
@[simp] theorem agg_92 : aggO Tryd.prog 92 = some true := by kernel_rfl
@[simp] theorem esz_92 : esz Tryd.prog 92 = 2 := by kernel_rfl
@[simp] theorem conc_92 : Tryd.prog.concrete 92 = true := by kernel_rfl
@[simp] theorem foff_92_0 : foff Tryd.prog 92 0 = some 0 := by kernel_rfl
@[simp] theorem ftyp_92_0 : ftyp Tryd.prog 92 0 = 49 := by kernel_rfl
@[simp] theorem foff_92_1 : foff Tryd.prog 92 1 = some 1 := by kernel_rfl
@[simp] theorem ftyp_92_1 : ftyp Tryd.prog 92 1 = 32 := by kernel_rfl
@[simp] theorem known_92 : knownF Tryd.prog 92 = true := by kernel_rfl
@[simp] theorem zero_92 : azero Tryd.prog 92 = some [.slice [], .nilIface] := by kernel_rfl
@[simp] theorem nils_92 : nilPos Tryd.prog 92 = [0] := by kernel_rfl
@[simp] theorem app_92 : appOk Tryd.prog 92 = true := by kernel_rfl
@[simp] theorem eby_92 : ebytes Tryd.prog 92 = 40 := by kernel_rfl
@[simp] theorem info_110 : (Tryd.prog.info? 110).isSome = true := by kernel_rfl
@[simp] theorem agg_110 : aggO Tryd.prog 110 = some true := by kernel_rfl
@[simp] theorem esz_110 : esz Tryd.prog 110 = 2 := by kernel_rfl
@[simp] theorem conc_110 : Tryd.prog.concrete 110 = true := by kernel_rfl
@[simp] theorem foff_110_0 : foff Tryd.prog 110 0 = some 0 := by kernel_rfl
@[simp] theorem ftyp_110_0 : ftyp Tryd.prog 110 0 = 85 := by kernel_rfl
@[simp] theorem foff_110_1 : foff Tryd.prog 110 1 = some 1 := by kernel_rfl
@[simp] theorem ftyp_110_1 : ftyp Tryd.prog 110 1 = 3 := by kernel_rfl
@[simp] theorem known_110 : knownF Tryd.prog 110 = true := by kernel_rfl
@[simp] theorem flats_110 : flatS Tryd.prog 110 = some [85, 3] := by kernel_rfl
@[simp] theorem zero_110 : azero Tryd.prog 110 = some [.int .i64 0, .int .i64 0] := by kernel_rfl
@[simp] theorem nils_110 : nilPos Tryd.prog 110 = [] := by kernel_rfl
@[simp] theorem app_110 : appOk Tryd.prog 110 = true := by kernel_rfl
@[simp] theorem eby_110 : ebytes Tryd.prog 110 = 16 := by kernel_rfl
@[simp] theorem info_114 : (Tryd.prog.info? 114).isSome = true := by kernel_rfl
@[simp] theorem agg_114 : aggO Tryd.prog 114 = some false := by kernel_rfl
@[simp] theorem esz_114 : esz Tryd.prog 114 = 1 := by kernel_rfl
@[simp] theorem conc_114 : Tryd.prog.concrete 114 = true := by kernel_rfl
@[simp] theorem zero_114 : azero Tryd.prog 114 = some [.nilPtr] := by kernel_rfl
@[simp] theorem nils_114 : nilPos Tryd.prog 114 = [] := by kernel_rfl
@[simp] theorem app_114 : appOk Tryd.prog 114 = true := by kernel_rfl
@[simp] theorem eby_114 : ebytes Tryd.prog 114 = 8 := by kernel_rfl
@[simp] theorem info_115 : (Tryd.prog.info? 115).isSome = true := by kernel_rfl
@[simp] theorem agg_115 : aggO Tryd.prog 115 = some false := by kernel_rfl
@[simp] theorem esz_115 : esz Tryd.prog 115 = 1 := by kernel_rfl
@[simp] theorem conc_115 : Tryd.prog.concrete 115 = true := by kernel_rfl
@[simp] theorem zero_115 : azero Tryd.prog 115 = some [.nilPtr] := by kernel_rfl
@[simp] theorem nils_115 : nilPos Tryd.prog 115 = [] := by kernel_rfl
@[simp] theorem app_115 : appOk Tryd.prog 115 = true := by kernel_rfl
@[simp] theorem eby_115 : ebytes Tryd.prog 115 = 8 := by kernel_rfl
@[simp] theorem info_123 : (Tryd.prog.info? 123).isSome = true := by kernel_rfl
@[simp] theorem agg_123 : aggO Tryd.prog 123 = some true := by kernel_rfl
@[simp] theorem esz_123 : esz Tryd.prog 123 = 7 := by kernel_rfl
@[simp] theorem arrt_123 : arrT Tryd.prog 123 = some (7, 9) := by kernel_rfl
@[simp] theorem conc_123 : Tryd.prog.concrete 123 = true := by kernel_rfl
@[simp] theorem zero_123 : azero Tryd.prog 123 = some [.str [], .str [], .str [], .str [], .str [], .str [], .str []] := by kernel_rfl
@[simp] theorem nils_123 : nilPos Tryd.prog 123 = [] := by kernel_rfl
@[simp] theorem app_123 : appOk Tryd.prog 123 = true := by kernel_rfl
@[simp] theorem eby_123 : ebytes Tryd.prog 123 = 112 := by kernel_rfl
@[simp] theorem info_124 : (Tryd.prog.info? 124).isSome = true := by kernel_rfl
@[simp] theorem agg_124 : aggO Tryd.prog 124 = some false := by kernel_rfl
@[simp] theorem esz_124 : esz Tryd.prog 124 = 1 := by kernel_rfl
@[simp] theorem conc_124 : Tryd.prog.concrete 124 = true := by kernel_rfl
@[simp] theorem zero_124 : azero Tryd.prog 124 = some [.nilPtr] := by kernel_rfl
@[simp] theorem nils_124 : nilPos Tryd.prog 124 = [] := by kernel_rfl
@[simp] theorem app_124 : appOk Tryd.prog 124 = true := by kernel_rfl
@[simp] theorem eby_124 : ebytes Tryd.prog 124 = 8 := by kernel_rfl
@[simp] theorem info_125 : (Tryd.prog.info? 125).isSome = true := by kernel_rfl
@[simp] theorem agg_125 : aggO Tryd.prog 125 = some false := by kernel_rfl
@[simp] theorem esz_125 : esz Tryd.prog 125 = 1 := by kernel_rfl
@[simp] theorem ikind_125 : ikind Tryd.prog 125 = some .u64 := by kernel_rfl
@[simp] theorem under_125 : Tryd.prog.underlying 125 = some (.int .u64) := by kernel_rfl
@[simp] theorem conc_125 : Tryd.prog.concrete 125 = true := by kernel_rfl
@[simp] theorem zero_125 : azero Tryd.prog 125 = some [.int .u64 0] := by kernel_rfl
@[simp] theorem nils_125 : nilPos Tryd.prog 125 = [] := by kernel_rfl
@[simp] theorem app_125 : appOk Tryd.prog 125 = true := by kernel_rfl
@[simp] theorem eby_125 : ebytes Tryd.prog 125 = 8 := by kernel_rfl
@[simp] theorem info_127 : (Tryd.prog.info? 127).isSome = true := by kernel_rfl
@[simp] theorem agg_127 : aggO Tryd.prog 127 = some true := by kernel_rfl
@[simp] theorem esz_127 : esz Tryd.prog 127 = 3 := by kernel_rfl
@[simp] theorem conc_127 : Tryd.prog.concrete 127 = true := by kernel_rfl
@[simp] theorem foff_127_0 : foff Tryd.prog 127 0 = some 0 := by kernel_rfl
@[simp] theorem ftyp_127_0 : ftyp Tryd.prog 127 0 = 17 := by kernel_rfl
@[simp] theorem foff_127_1 : foff Tryd.prog 127 1 = some 1 := by kernel_rfl
@[simp] theorem ftyp_127_1 : ftyp Tryd.prog 127 1 = 124 := by kernel_rfl
@[simp] theorem foff_127_2 : foff Tryd.prog 127 2 = some 2 := by kernel_rfl
@[simp] theorem ftyp_127_2 : ftyp Tryd.prog 127 2 = 125 := by kernel_rfl
@[simp] theorem known_127 : knownF Tryd.prog 127 = true := by kernel_rfl
@[simp] theorem zero_127 : azero Tryd.prog 127 = some [.nilPtr, .nilPtr, .int .u64 0] := by kernel_rfl
@[simp] theorem nils_127 : nilPos Tryd.prog 127 = [] := by kernel_rfl
@[simp] theorem app_127 : appOk Tryd.prog 127 = true := by kernel_rfl
@[simp] theorem eby_127 : ebytes Tryd.prog 127 = 24 := by kernel_rfl
@[simp] theorem info_130 : (Tryd.prog.info? 130).isSome = true := by kernel_rfl
@[simp] theorem agg_130 : aggO Tryd.prog 130 = some false := by kernel_rfl
@[simp] theorem esz_130 : esz Tryd.prog 130 = 1 := by kernel_rfl
@[simp] theorem ifacet_130 : ifaceT Tryd.prog 130 = true := by kernel_rfl
@[simp] theorem zero_130 : azero Tryd.prog 130 = some [.nilIface] := by kernel_rfl
@[simp] theorem nils_130 : nilPos Tryd.prog 130 = [] := by kernel_rfl
@[simp] theorem app_130 : appOk Tryd.prog 130 = true := by kernel_rfl
@[simp] theorem eby_130 : ebytes Tryd.prog 130 = 16 := by kernel_rfl
@[simp] theorem info_132 : (Tryd.prog.info? 132).isSome = true := by kernel_rfl
@[simp] theorem agg_132 : aggO Tryd.prog 132 = some false := by kernel_rfl
@[simp] theorem esz_132 : esz Tryd.prog 132 = 1 := by kernel_rfl
@[simp] theorem ikind_132 : ikind Tryd.prog 132 = some .u8 := by kernel_rfl
@[simp] theorem under_132 : Tryd.prog.underlying 132 = some (.int .u8) := by kernel_rfl
@[simp] theorem conc_132 : Tryd.prog.concrete 132 = true := by kernel_rfl
@[simp] theorem zero_132 : azero Tryd.prog 132 = some [.int .u8 0] := by kernel_rfl
@[simp] theorem nils_132 : nilPos Tryd.prog 132 = [] := by kernel_rfl
@[simp] theorem app_132 : appOk Tryd.prog 132 = true := by kernel_rfl
@[simp] theorem eby_132 : ebytes Tryd.prog 132 = 1 := by kernel_rfl
theorem mixed : Tryd.prog.follows .mixedOrders = true := by kernel_rfl
end Pt
end Go.Proofs.YtpjkdaechknogaaDoor
