/- The closed facts on the types of this translation that the walk asks; made by program. -/
import Derived.Test.YtjkabaejabibnaaDoorProg
import Derived.Test.YtjkabaejabibnaaDoorPvOc
import Derived.KernelRfl
set_option linter.all false
namespace Go.Proofs.YtjkabaejabibnaaDoor
open Go Go.Pv
namespace Pt
@[simp] theorem info_1 : (Tryd.prog.info? 1).isSome = true := by kernel_rfl
@[simp] theorem agg_1 : aggO Tryd.prog 1 = some false := by kernel_rfl
@[simp] theorem esz_1 : esz Tryd.prog 1 = 1 := by kernel_rfl
@[simp] theorem funct_1 : funcT Tryd.prog 1 = true := by kernel_rfl
@[simp] theorem conc_1 : Tryd.prog.concrete 1 = true := by kernel_rfl
@[simp] theorem zero_1 : azero Tryd.prog 1 = some [.nilFunc] := by kernel_rfl
@[simp] theorem nils_1 : nilPos Tryd.prog 1 = [] := by kernel_rfl
@[simp] theorem app_1 : appOk Tryd.prog 1 = true := by kernel_rfl
@[simp] theorem eby_1 : ebytes Tryd.prog 1 = 8 := by kernel_rfl
@[simp] theorem info_2 : (Tryd.prog.info? 2).isSome = true := by kernel_rfl
@[simp] theorem agg_2 : aggO Tryd.prog 2 = some false := by kernel_rfl
@[simp] theorem esz_2 : esz Tryd.prog 2 = 1 := by kernel_rfl
@[simp] theorem ikind_2 : ikind Tryd.prog 2 = some .i64 := by kernel_rfl
@[simp] theorem under_2 : Tryd.prog.underlying 2 = some (.int .i64) := by kernel_rfl
@[simp] theorem conc_2 : Tryd.prog.concrete 2 = true := by kernel_rfl
@[simp] theorem zero_2 : azero Tryd.prog 2 = some [.int .i64 0] := by kernel_rfl
@[simp] theorem nils_2 : nilPos Tryd.prog 2 = [] := by kernel_rfl
@[simp] theorem app_2 : appOk Tryd.prog 2 = true := by kernel_rfl
@[simp] theorem eby_2 : ebytes Tryd.prog 2 = 8 := by kernel_rfl
@[simp] theorem info_3 : (Tryd.prog.info? 3).isSome = true := by kernel_rfl
@[simp] theorem agg_3 : aggO Tryd.prog 3 = some false := by kernel_rfl
@[simp] theorem esz_3 : esz Tryd.prog 3 = 1 := by kernel_rfl
@[simp] theorem ikind_3 : ikind Tryd.prog 3 = some .i64 := by kernel_rfl
@[simp] theorem under_3 : Tryd.prog.underlying 3 = some (.int .i64) := by kernel_rfl
@[simp] theorem conc_3 : Tryd.prog.concrete 3 = true := by kernel_rfl
@[simp] theorem zero_3 : azero Tryd.prog 3 = some [.int .i64 0] := by kernel_rfl
@[simp] theorem nils_3 : nilPos Tryd.prog 3 = [] := by kernel_rfl
@[simp] theorem app_3 : appOk Tryd.prog 3 = true := by kernel_rfl
@[simp] theorem eby_3 : ebytes Tryd.prog 3 = 8 := by kernel_rfl
@[simp] theorem info_4 : (Tryd.prog.info? 4).isSome = true := by kernel_rfl
@[simp] theorem agg_4 : aggO Tryd.prog 4 = some false := by kernel_rfl
@[simp] theorem esz_4 : esz Tryd.prog 4 = 1 := by kernel_rfl
@[simp] theorem under_4 : Tryd.prog.underlying 4 = some .bool := by kernel_rfl
@[simp] theorem boolt_4 : boolT Tryd.prog 4 = true := by kernel_rfl
@[simp] theorem conc_4 : Tryd.prog.concrete 4 = true := by kernel_rfl
@[simp] theorem zero_4 : azero Tryd.prog 4 = some [.bool false] := by kernel_rfl
@[simp] theorem nils_4 : nilPos Tryd.prog 4 = [] := by kernel_rfl
@[simp] theorem app_4 : appOk Tryd.prog 4 = true := by kernel_rfl
@[simp] theorem eby_4 : ebytes Tryd.prog 4 = 1 := by kernel_rfl
@[simp] theorem info_5 : (Tryd.prog.info? 5).isSome = true := by kernel_rfl
@[simp] theorem agg_5 : aggO Tryd.prog 5 = some false := by kernel_rfl
@[simp] theorem esz_5 : esz Tryd.prog 5 = 1 := by kernel_rfl
@[simp] theorem ikind_5 : ikind Tryd.prog 5 = some .u8 := by kernel_rfl
@[simp] theorem under_5 : Tryd.prog.underlying 5 = some (.int .u8) := by kernel_rfl
@[simp] theorem conc_5 : Tryd.prog.concrete 5 = true := by kernel_rfl
@[simp] theorem zero_5 : azero Tryd.prog 5 = some [.int .u8 0] := by kernel_rfl
@[simp] theorem nils_5 : nilPos Tryd.prog 5 = [] := by kernel_rfl
@[simp] theorem app_5 : appOk Tryd.prog 5 = true := by kernel_rfl
@[simp] theorem eby_5 : ebytes Tryd.prog 5 = 1 := by kernel_rfl
@[simp] theorem info_6 : (Tryd.prog.info? 6).isSome = true := by kernel_rfl
@[simp] theorem agg_6 : aggO Tryd.prog 6 = some false := by kernel_rfl
@[simp] theorem esz_6 : esz Tryd.prog 6 = 1 := by kernel_rfl
@[simp] theorem ikind_6 : ikind Tryd.prog 6 = some .u8 := by kernel_rfl
@[simp] theorem under_6 : Tryd.prog.underlying 6 = some (.int .u8) := by kernel_rfl
@[simp] theorem conc_6 : Tryd.prog.concrete 6 = true := by kernel_rfl
@[simp] theorem zero_6 : azero Tryd.prog 6 = some [.int .u8 0] := by kernel_rfl
@[simp] theorem nils_6 : nilPos Tryd.prog 6 = [] := by kernel_rfl
@[simp] theorem app_6 : appOk Tryd.prog 6 = true := by kernel_rfl
@[simp] theorem eby_6 : ebytes Tryd.prog 6 = 1 := by kernel_rfl
@[simp] theorem info_7 : (Tryd.prog.info? 7).isSome = true := by kernel_rfl
@[simp] theorem agg_7 : aggO Tryd.prog 7 = some true := by kernel_rfl
@[simp] theorem esz_7 : esz Tryd.prog 7 = 4 := by kernel_rfl
@[simp] theorem conc_7 : Tryd.prog.concrete 7 = true := by kernel_rfl
@[simp] theorem foff_7_0 : foff Tryd.prog 7 0 = some 0 := by kernel_rfl
@[simp] theorem ftyp_7_0 : ftyp Tryd.prog 7 0 = 2 := by kernel_rfl
@[simp] theorem foff_7_1 : foff Tryd.prog 7 1 = some 1 := by kernel_rfl
@[simp] theorem ftyp_7_1 : ftyp Tryd.prog 7 1 = 3 := by kernel_rfl
@[simp] theorem foff_7_2 : foff Tryd.prog 7 2 = some 2 := by kernel_rfl
@[simp] theorem ftyp_7_2 : ftyp Tryd.prog 7 2 = 4 := by kernel_rfl
@[simp] theorem foff_7_3 : foff Tryd.prog 7 3 = some 3 := by kernel_rfl
@[simp] theorem ftyp_7_3 : ftyp Tryd.prog 7 3 = 6 := by kernel_rfl
@[simp] theorem known_7 : knownF Tryd.prog 7 = true := by kernel_rfl
@[simp] theorem zero_7 : azero Tryd.prog 7 = some [.int .i64 0, .int .i64 0, .bool false, .int .u8 0] := by kernel_rfl
@[simp] theorem nils_7 : nilPos Tryd.prog 7 = [] := by kernel_rfl
@[simp] theorem app_7 : appOk Tryd.prog 7 = true := by kernel_rfl
@[simp] theorem eby_7 : ebytes Tryd.prog 7 = 24 := by kernel_rfl
@[simp] theorem info_9 : (Tryd.prog.info? 9).isSome = true := by kernel_rfl
@[simp] theorem agg_9 : aggO Tryd.prog 9 = some false := by kernel_rfl
@[simp] theorem esz_9 : esz Tryd.prog 9 = 1 := by kernel_rfl
@[simp] theorem under_9 : Tryd.prog.underlying 9 = some .string := by kernel_rfl
@[simp] theorem strt_9 : strT Tryd.prog 9 = true := by kernel_rfl
@[simp] theorem strb_9 : strB Tryd.prog 9 = true := by kernel_rfl
@[simp] theorem conc_9 : Tryd.prog.concrete 9 = true := by kernel_rfl
@[simp] theorem zero_9 : azero Tryd.prog 9 = some [.str []] := by kernel_rfl
@[simp] theorem nils_9 : nilPos Tryd.prog 9 = [] := by kernel_rfl
@[simp] theorem app_9 : appOk Tryd.prog 9 = true := by kernel_rfl
@[simp] theorem eby_9 : ebytes Tryd.prog 9 = 16 := by kernel_rfl
@[simp] theorem info_21 : (Tryd.prog.info? 21).isSome = true := by kernel_rfl
@[simp] theorem agg_21 : aggO Tryd.prog 21 = some false := by kernel_rfl
@[simp] theorem esz_21 : esz Tryd.prog 21 = 1 := by kernel_rfl
@[simp] theorem ikind_21 : ikind Tryd.prog 21 = some .i32 := by kernel_rfl
@[simp] theorem under_21 : Tryd.prog.underlying 21 = some (.int .i32) := by kernel_rfl
@[simp] theorem conc_21 : Tryd.prog.concrete 21 = true := by kernel_rfl
@[simp] theorem zero_21 : azero Tryd.prog 21 = some [.int .i32 0] := by kernel_rfl
@[simp] theorem nils_21 : nilPos Tryd.prog 21 = [] := by kernel_rfl
@[simp] theorem app_21 : appOk Tryd.prog 21 = true := by kernel_rfl
@[simp] theorem eby_21 : ebytes Tryd.prog 21 = 4 := by kernel_rfl
@[simp] theorem info_22 : (Tryd.prog.info? 22).isSome = true := by kernel_rfl
@[simp] theorem agg_22 : aggO Tryd.prog 22 = some false := by kernel_rfl
@[simp] theorem esz_22 : esz Tryd.prog 22 = 1 := by kernel_rfl
@[simp] theorem elem_22 : elemT Tryd.prog 22 = some 24 := by kernel_rfl
@[simp] theorem conc_22 : Tryd.prog.concrete 22 = true := by kernel_rfl
@[simp] theorem zero_22 : azero Tryd.prog 22 = some [.slice []] := by kernel_rfl
@[simp] theorem nils_22 : nilPos Tryd.prog 22 = [0] := by kernel_rfl
@[simp] theorem app_22 : appOk Tryd.prog 22 = true := by kernel_rfl
@[simp] theorem eby_22 : ebytes Tryd.prog 22 = 24 := by kernel_rfl
@[simp] theorem info_24 : (Tryd.prog.info? 24).isSome = true := by kernel_rfl
@[simp] theorem agg_24 : aggO Tryd.prog 24 = some true := by kernel_rfl
@[simp] theorem esz_24 : esz Tryd.prog 24 = 3 := by kernel_rfl
@[simp] theorem conc_24 : Tryd.prog.concrete 24 = true := by kernel_rfl
@[simp] theorem foff_24_0 : foff Tryd.prog 24 0 = some 0 := by kernel_rfl
@[simp] theorem ftyp_24_0 : ftyp Tryd.prog 24 0 = 9 := by kernel_rfl
@[simp] theorem foff_24_1 : foff Tryd.prog 24 1 = some 1 := by kernel_rfl
@[simp] theorem ftyp_24_1 : ftyp Tryd.prog 24 1 = 22 := by kernel_rfl
@[simp] theorem foff_24_2 : foff Tryd.prog 24 2 = some 2 := by kernel_rfl
@[simp] theorem ftyp_24_2 : ftyp Tryd.prog 24 2 = 3 := by kernel_rfl
@[simp] theorem known_24 : knownF Tryd.prog 24 = true := by kernel_rfl
@[simp] theorem zero_24 : azero Tryd.prog 24 = some [.str [], .slice [], .int .i64 0] := by kernel_rfl
@[simp] theorem nils_24 : nilPos Tryd.prog 24 = [1] := by kernel_rfl
@[simp] theorem app_24 : appOk Tryd.prog 24 = true := by kernel_rfl
@[simp] theorem eby_24 : ebytes Tryd.prog 24 = 48 := by kernel_rfl
@[simp] theorem info_25 : (Tryd.prog.info? 25).isSome = true := by kernel_rfl
@[simp] theorem agg_25 : aggO Tryd.prog 25 = some false := by kernel_rfl
@[simp] theorem esz_25 : esz Tryd.prog 25 = 1 := by kernel_rfl
@[simp] theorem elem_25 : elemT Tryd.prog 25 = some 27 := by kernel_rfl
@[simp] theorem conc_25 : Tryd.prog.concrete 25 = true := by kernel_rfl
@[simp] theorem zero_25 : azero Tryd.prog 25 = some [.slice []] := by kernel_rfl
@[simp] theorem nils_25 : nilPos Tryd.prog 25 = [0] := by kernel_rfl
@[simp] theorem app_25 : appOk Tryd.prog 25 = true := by kernel_rfl
@[simp] theorem eby_25 : ebytes Tryd.prog 25 = 24 := by kernel_rfl
@[simp] theorem info_27 : (Tryd.prog.info? 27).isSome = true := by kernel_rfl
@[simp] theorem agg_27 : aggO Tryd.prog 27 = some true := by kernel_rfl
@[simp] theorem esz_27 : esz Tryd.prog 27 = 8 := by kernel_rfl
@[simp] theorem conc_27 : Tryd.prog.concrete 27 = true := by kernel_rfl
@[simp] theorem foff_27_0 : foff Tryd.prog 27 0 = some 0 := by kernel_rfl
@[simp] theorem ftyp_27_0 : ftyp Tryd.prog 27 0 = 3 := by kernel_rfl
@[simp] theorem foff_27_1 : foff Tryd.prog 27 1 = some 1 := by kernel_rfl
@[simp] theorem ftyp_27_1 : ftyp Tryd.prog 27 1 = 9 := by kernel_rfl
@[simp] theorem foff_27_2 : foff Tryd.prog 27 2 = some 2 := by kernel_rfl
@[simp] theorem ftyp_27_2 : ftyp Tryd.prog 27 2 = 24 := by kernel_rfl
@[simp] theorem foff_27_3 : foff Tryd.prog 27 3 = some 5 := by kernel_rfl
@[simp] theorem ftyp_27_3 : ftyp Tryd.prog 27 3 = 22 := by kernel_rfl
@[simp] theorem foff_27_4 : foff Tryd.prog 27 4 = some 6 := by kernel_rfl
@[simp] theorem ftyp_27_4 : ftyp Tryd.prog 27 4 = 25 := by kernel_rfl
@[simp] theorem foff_27_5 : foff Tryd.prog 27 5 = some 7 := by kernel_rfl
@[simp] theorem ftyp_27_5 : ftyp Tryd.prog 27 5 = 3 := by kernel_rfl
@[simp] theorem known_27 : knownF Tryd.prog 27 = true := by kernel_rfl
@[simp] theorem zero_27 : azero Tryd.prog 27 = some [.int .i64 0, .str [], .str [], .slice [], .int .i64 0, .slice [], .slice [], .int .i64 0] := by kernel_rfl
@[simp] theorem nils_27 : nilPos Tryd.prog 27 = [3, 5, 6] := by kernel_rfl
@[simp] theorem app_27 : appOk Tryd.prog 27 = true := by kernel_rfl
@[simp] theorem eby_27 : ebytes Tryd.prog 27 = 128 := by kernel_rfl
@[simp] theorem info_29 : (Tryd.prog.info? 29).isSome = true := by kernel_rfl
@[simp] theorem agg_29 : aggO Tryd.prog 29 = some false := by kernel_rfl
@[simp] theorem esz_29 : esz Tryd.prog 29 = 1 := by kernel_rfl
@[simp] theorem funct_29 : funcT Tryd.prog 29 = true := by kernel_rfl
@[simp] theorem conc_29 : Tryd.prog.concrete 29 = true := by kernel_rfl
@[simp] theorem zero_29 : azero Tryd.prog 29 = some [.nilFunc] := by kernel_rfl
@[simp] theorem nils_29 : nilPos Tryd.prog 29 = [] := by kernel_rfl
@[simp] theorem app_29 : appOk Tryd.prog 29 = true := by kernel_rfl
@[simp] theorem eby_29 : ebytes Tryd.prog 29 = 8 := by kernel_rfl
@[simp] theorem info_33 : (Tryd.prog.info? 33).isSome = true := by kernel_rfl
@[simp] theorem agg_33 : aggO Tryd.prog 33 = some false := by kernel_rfl
@[simp] theorem esz_33 : esz Tryd.prog 33 = 1 := by kernel_rfl
@[simp] theorem elem_33 : elemT Tryd.prog 33 = some 9 := by kernel_rfl
@[simp] theorem conc_33 : Tryd.prog.concrete 33 = true := by kernel_rfl
@[simp] theorem zero_33 : azero Tryd.prog 33 = some [.slice []] := by kernel_rfl
@[simp] theorem nils_33 : nilPos Tryd.prog 33 = [0] := by kernel_rfl
@[simp] theorem app_33 : appOk Tryd.prog 33 = true := by kernel_rfl
@[simp] theorem eby_33 : ebytes Tryd.prog 33 = 24 := by kernel_rfl
@[simp] theorem info_41 : (Tryd.prog.info? 41).isSome = true := by kernel_rfl
@[simp] theorem agg_41 : aggO Tryd.prog 41 = some false := by kernel_rfl
@[simp] theorem esz_41 : esz Tryd.prog 41 = 1 := by kernel_rfl
@[simp] theorem funct_41 : funcT Tryd.prog 41 = true := by kernel_rfl
@[simp] theorem conc_41 : Tryd.prog.concrete 41 = true := by kernel_rfl
@[simp] theorem zero_41 : azero Tryd.prog 41 = some [.nilFunc] := by kernel_rfl
@[simp] theorem nils_41 : nilPos Tryd.prog 41 = [] := by kernel_rfl
@[simp] theorem app_41 : appOk Tryd.prog 41 = true := by kernel_rfl
@[simp] theorem eby_41 : ebytes Tryd.prog 41 = 8 := by kernel_rfl
@[simp] theorem info_42 : (Tryd.prog.info? 42).isSome = true := by kernel_rfl
@[simp] theorem agg_42 : aggO Tryd.prog 42 = some false := by kernel_rfl
@[simp] theorem esz_42 : esz Tryd.prog 42 = 1 := by kernel_rfl
@[simp] theorem funct_42 : funcT Tryd.prog 42 = true := by kernel_rfl
@[simp] theorem conc_42 : Tryd.prog.concrete 42 = true := by kernel_rfl
@[simp] theorem zero_42 : azero Tryd.prog 42 = some [.nilFunc] := by kernel_rfl
@[simp] theorem nils_42 : nilPos Tryd.prog 42 = [] := by kernel_rfl
@[simp] theorem app_42 : appOk Tryd.prog 42 = true := by kernel_rfl
@[simp] theorem eby_42 : ebytes Tryd.prog 42 = 8 := by kernel_rfl
@[simp] theorem info_50 : (Tryd.prog.info? 50).isSome = true := by kernel_rfl
@[simp] theorem agg_50 : aggO Tryd.prog 50 = some false := by kernel_rfl
@[simp] theorem esz_50 : esz Tryd.prog 50 = 1 := by kernel_rfl
@[simp] theorem funct_50 : funcT Tryd.prog 50 = true := by kernel_rfl
@[simp] theorem conc_50 : Tryd.prog.concrete 50 = true := by kernel_rfl
@[simp] theorem zero_50 : azero Tryd.prog 50 = some [.nilFunc] := by kernel_rfl
@[simp] theorem nils_50 : nilPos Tryd.prog 50 = [] := by kernel_rfl
@[simp] theorem app_50 : appOk Tryd.prog 50 = true := by kernel_rfl
@[simp] theorem eby_50 : ebytes Tryd.prog 50 = 8 := by kernel_rfl
@[simp] theorem info_65 : (Tryd.prog.info? 65).isSome = true := by kernel_rfl
@[simp] theorem agg_65 : aggO Tryd.prog 65 = some false := by kernel_rfl
@[simp] theorem esz_65 : esz Tryd.prog 65 = 1 := by kernel_rfl
@[simp] theorem ikind_65 : ikind Tryd.prog 65 = some .u64 := by kernel_rfl
@[simp] theorem under_65 : Tryd.prog.underlying 65 = some (.int .u64) := by kernel_rfl
@[simp] theorem conc_65 : Tryd.prog.concrete 65 = true := by kernel_rfl
@[simp] theorem zero_65 : azero Tryd.prog 65 = some [.int .u64 0] := by kernel_rfl
@[simp] theorem nils_65 : nilPos Tryd.prog 65 = [] := by kernel_rfl
@[simp] theorem app_65 : appOk Tryd.prog 65 = true := by kernel_rfl
@[simp] theorem eby_65 : ebytes Tryd.prog 65 = 8 := by kernel_rfl
@[simp] theorem info_75 : (Tryd.prog.info? 75).isSome = true := by kernel_rfl
@[simp] theorem agg_75 : aggO Tryd.prog 75 = some false := by kernel_rfl
@[simp] theorem esz_75 : esz Tryd.prog 75 = 1 := by kernel_rfl
@[simp] theorem ikind_75 : ikind Tryd.prog 75 = some .u32 := by kernel_rfl
@[simp] theorem under_75 : Tryd.prog.underlying 75 = some (.int .u32) := by kernel_rfl
@[simp] theorem conc_75 : Tryd.prog.concrete 75 = true := by kernel_rfl
@[simp] theorem zero_75 : azero Tryd.prog 75 = some [.int .u32 0] := by kernel_rfl
@[simp] theorem nils_75 : nilPos Tryd.prog 75 = [] := by kernel_rfl
@[simp] theorem app_75 : appOk Tryd.prog 75 = true := by kernel_rfl
@[simp] theorem eby_75 : ebytes Tryd.prog 75 = 4 := by kernel_rfl
@[simp] theorem info_78 : (Tryd.prog.info? 78).isSome = true := by kernel_rfl
@[simp] theorem agg_78 : aggO Tryd.prog 78 = some false := by kernel_rfl
@[simp] theorem esz_78 : esz Tryd.prog 78 = 1 := by kernel_rfl
@[simp] theorem ikind_78 : ikind Tryd.prog 78 = some .u64 := by kernel_rfl
@[simp] theorem under_78 : Tryd.prog.underlying 78 = some (.int .u64) := by kernel_rfl
@[simp] theorem conc_78 : Tryd.prog.concrete 78 = true := by kernel_rfl
@[simp] theorem zero_78 : azero Tryd.prog 78 = some [.int .u64 0] := by kernel_rfl
@[simp] theorem nils_78 : nilPos Tryd.prog 78 = [] := by kernel_rfl
@[simp] theorem app_78 : appOk Tryd.prog 78 = true := by kernel_rfl
@[simp] theorem eby_78 : ebytes Tryd.prog 78 = 8 := by kernel_rfl
@[simp] theorem info_90 : (Tryd.prog.info? 90).isSome = true := by kernel_rfl
@[simp] theorem agg_90 : aggO Tryd.prog 90 = some false := by kernel_rfl
@[simp] theorem esz_90 : esz Tryd.prog 90 = 1 := by kernel_rfl
@[simp] theorem conc_90 : Tryd.prog.concrete 90 = true := by kernel_rfl
@[simp] theorem zero_90 : azero Tryd.prog 90 = some [.nilPtr] := by kernel_rfl
@[simp] theorem nils_90 : nilPos Tryd.prog 90 = [] := by kernel_rfl
@[simp] theorem app_90 : appOk Tryd.prog 90 = true := by kernel_rfl
@[simp] theorem eby_90 : ebytes Tryd.prog 90 = 8 := by kernel_rfl
@[simp] theorem info_91 : (Tryd.prog.info? 91).isSome = true := by kernel_rfl
@[simp] theorem agg_91 : aggO Tryd.prog 91 = some false := by kernel_rfl
@[simp] theorem esz_91 : esz Tryd.prog 91 = 1 := by kernel_rfl
@[simp] theorem elem_91 : elemT Tryd.prog 91 = some 5 := by kernel_rfl
@[simp] theorem bytest_91 : bytesT Tryd.prog 91 = true := by kernel_rfl
@[simp] theorem conc_91 : Tryd.prog.concrete 91 = true := by kernel_rfl
@[simp] theorem zero_91 : azero Tryd.prog 91 = some [.slice []] := by kernel_rfl
@[simp] theorem nils_91 : nilPos Tryd.prog 91 = [0] := by kernel_rfl
@[simp] theorem app_91 : appOk Tryd.prog 91 = true := by kernel_rfl
@[simp] theorem eby_91 : ebytes Tryd.prog 91 = 24 := by kernel_rfl
@[simp] theorem info_93 : (Tryd.prog.info? 93).isSome = true := by kernel_rfl
@[simp] theorem agg_93 : aggO Tryd.prog 93 = some true := by kernel_rfl
@[simp] theorem esz_93 : esz Tryd.prog 93 = 2 := by kernel_rfl
@[simp] theorem conc_93 : Tryd.prog.concrete 93 = true := by kernel_rfl
@[simp] theorem foff_93_0 : foff Tryd.prog 93 0 = some 0 := by kernel_rfl
@[simp] theorem ftyp_93_0 : ftyp Tryd.prog 93 0 = 90 := by kernel_rfl
@[simp] theorem foff_93_1 : foff Tryd.prog 93 1 = some 1 := by kernel_rfl
@[simp] theorem ftyp_93_1 : ftyp Tryd.prog 93 1 = 91 := by kernel_rfl
@[simp] theorem known_93 : knownF Tryd.prog 93 = true := by kernel_rfl
@[simp] theorem zero_93 : azero Tryd.prog 93 = some [.nilPtr, .slice []] := by kernel_rfl
@[simp] theorem nils_93 : nilPos Tryd.prog 93 = [1] := by kernel_rfl
@[simp] theorem app_93 : appOk Tryd.prog 93 = true := by kernel_rfl
@[simp] theorem eby_93 : ebytes Tryd.prog 93 = 32 := by kernel_rfl
@[simp] theorem info_103 : (Tryd.prog.info? 103).isSome = true := by kernel_rfl
@[simp] theorem agg_103 : aggO Tryd.prog 103 = some true := by kernel_rfl
@[simp] theorem esz_103 : esz Tryd.prog 103 = 7 := by kernel_rfl
@[simp] theorem arrt_103 : arrT Tryd.prog 103 = some (7, 9) := by kernel_rfl
@[simp] theorem conc_103 : Tryd.prog.concrete 103 = true := by kernel_rfl
@[simp] theorem zero_103 : azero Tryd.prog 103 = some [.str [], .str [], .str [], .str [], .str [], .str [], .str []] := by kernel_rfl
@[simp] theorem nils_103 : nilPos Tryd.prog 103 = [] := by kernel_rfl
@[simp] theorem app_103 : appOk Tryd.prog 103 = true := by kernel_rfl
@[simp] theorem eby_103 : ebytes Tryd.prog 103 = 112 := by kernel_rfl
@[simp] theorem info_105 : (Tryd.prog.info? 105).isSome = true := by kernel_rfl
@[simp] theorem agg_105 : aggO Tryd.prog 105 = some false := by kernel_rfl
@[simp] theorem esz_105 : esz Tryd.prog 105 = 1 := by kernel_rfl
@[simp] theorem elem_105 : elemT Tryd.prog 105 = some 3 := by kernel_rfl
@[simp] theorem conc_105 : Tryd.prog.concrete 105 = true := by kernel_rfl
@[simp] theorem zero_105 : azero Tryd.prog 105 = some [.slice []] := by kernel_rfl
@[simp] theorem nils_105 : nilPos Tryd.prog 105 = [0] := by kernel_rfl
@[simp] theorem app_105 : appOk Tryd.prog 105 = true := by kernel_rfl
@[simp] theorem eby_105 : ebytes Tryd.prog 105 = 24 := by kernel_rfl
@[simp] theorem info_108 : (Tryd.prog.info? 108).isSome = true := by kernel_rfl
@[simp] theorem agg_108 : aggO Tryd.prog 108 = some false := by kernel_rfl
@[simp] theorem esz_108 : esz Tryd.prog 108 = 1 := by kernel_rfl
@[simp] theorem conc_108 : Tryd.prog.concrete 108 = true := by kernel_rfl
@[simp] theorem zero_108 : azero Tryd.prog 108 = some [.nilPtr] := by kernel_rfl
@[simp] theorem nils_108 : nilPos Tryd.prog 108 = [] := by kernel_rfl
@[simp] theorem app_108 : appOk Tryd.prog 108 = true := by kernel_rfl
@[simp] theorem eby_108 : ebytes Tryd.prog 108 = 8 := by kernel_rfl
theorem mixed : Tryd.prog.follows .mixedOrders = true := by kernel_rfl
end Pt
end Go.Proofs.YtjkabaejabibnaaDoor
