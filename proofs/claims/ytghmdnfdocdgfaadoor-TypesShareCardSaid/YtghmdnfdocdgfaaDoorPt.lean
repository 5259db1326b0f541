/- The closed facts on the types of this translation that the walk asks; made by program. -/
import Derived.Test.YtghmdnfdocdgfaaDoorProg
import Derived.Test.YtghmdnfdocdgfaaDoorPvO
import Derived.KernelRfl
set_option linter.all false
namespace Go.Proofs.YtghmdnfdocdgfaaDoor
open Go Go.Pv
namespace Pt
@[simp] theorem info_1 : (Tryd.prog.info? 1).isSome = true := by kernel_rfl
@[simp] theorem agg_1 : aggO Tryd.prog 1 = some false := by kernel_rfl
@[simp] theorem esz_1 : esz Tryd.prog 1 = 1 := by kernel_rfl
@[simp] theorem funct_1 : funcT Tryd.prog 1 = true := by kernel_rfl
@[simp] theorem conc_1 : Tryd.prog.concrete 1 = true := by kernel_rfl
@[simp] theorem zero_1 : azero Tryd.prog 1 = some [.nilFunc] := by kernel_rfl
@[simp] theorem nils_1 : nilPos Tryd.prog 1 = [] := by kernel_rfl
@[simp] theorem app_1 : appOk Tryd.prog 1 = true := by kernel_rfl
@[simp] theorem eby_1 : ebytes Tryd.prog 1 = 8 := by kernel_rfl
@[simp] theorem info_2 : (Tryd.prog.info? 2).isSome = true := by kernel_rfl
@[simp] theorem agg_2 : aggO Tryd.prog 2 = some false := by kernel_rfl
@[simp] theorem esz_2 : esz Tryd.prog 2 = 1 := by kernel_rfl
@[simp] theorem ikind_2 : ikind Tryd.prog 2 = some .i64 := by kernel_rfl
@[simp] theorem under_2 : Tryd.prog.underlying 2 = some (.int .i64) := by kernel_rfl
@[simp] theorem conc_2 : Tryd.prog.concrete 2 = true := by kernel_rfl
@[simp] theorem zero_2 : azero Tryd.prog 2 = some [.int .i64 0] := by kernel_rfl
@[simp] theorem nils_2 : nilPos Tryd.prog 2 = [] := by kernel_rfl
@[simp] theorem app_2 : appOk Tryd.prog 2 = true := by kernel_rfl
@[simp] theorem eby_2 : ebytes Tryd.prog 2 = 8 := by kernel_rfl
@[simp] theorem info_3 : (Tryd.prog.info? 3).isSome = true := by kernel_rfl
@[simp] theorem agg_3 : aggO Tryd.prog 3 = some false := by kernel_rfl
@[simp] theorem esz_3 : esz Tryd.prog 3 = 1 := by kernel_rfl
@[simp] theorem ikind_3 : ikind Tryd.prog 3 = some .i64 := by kernel_rfl
@[simp] theorem under_3 : Tryd.prog.underlying 3 = some (.int .i64) := by kernel_rfl
@[simp] theorem conc_3 : Tryd.prog.concrete 3 = true := by kernel_rfl
@[simp] theorem zero_3 : azero Tryd.prog 3 = some [.int .i64 0] := by kernel_rfl
@[simp] theorem nils_3 : nilPos Tryd.prog 3 = [] := by kernel_rfl
@[simp] theorem app_3 : appOk Tryd.prog 3 = true := by kernel_rfl
@[simp] theorem eby_3 : ebytes Tryd.prog 3 = 8 := by kernel_rfl
@[simp] theorem info_4 : (Tryd.prog.info? 4).isSome = true := by kernel_rfl
@[simp] theorem agg_4 : aggO Tryd.prog 4 = some false := by kernel_rfl
@[simp] theorem esz_4 : esz Tryd.prog 4 = 1 := by kernel_rfl
@[simp] theorem under_4 : Tryd.prog.underlying 4 = some .bool := by kernel_rfl
@[simp] theorem boolt_4 : boolT Tryd.prog 4 = true := by kernel_rfl
@[simp] theorem conc_4 : Tryd.prog.concrete 4 = true := by kernel_rfl
@[simp] theorem zero_4 : azero Tryd.prog 4 = some [.bool false] := by kernel_rfl
@[simp] theorem nils_4 : nilPos Tryd.prog 4 = [] := by kernel_rfl
@[simp] theorem app_4 : appOk Tryd.prog 4 = true := by kernel_rfl
@[simp] theorem eby_4 : ebytes Tryd.prog 4 = 1 := by kernel_rfl
@[simp] theorem info_5 : (Tryd.prog.info? 5).isSome = true := by kernel_rfl
@[simp] theorem agg_5 : aggO Tryd.prog 5 = some false := by kernel_rfl
@[simp] theorem esz_5 : esz Tryd.prog 5 = 1 := by kernel_rfl
@[simp] theorem ikind_5 : ikind Tryd.prog 5 = some .u8 := by kernel_rfl
@[simp] theorem under_5 : Tryd.prog.underlying 5 = some (.int .u8) := by kernel_rfl
@[simp] theorem conc_5 : Tryd.prog.concrete 5 = true := by kernel_rfl
@[simp] theorem zero_5 : azero Tryd.prog 5 = some [.int .u8 0] := by kernel_rfl
@[simp] theorem nils_5 : nilPos Tryd.prog 5 = [] := by kernel_rfl
@[simp] theorem app_5 : appOk Tryd.prog 5 = true := by kernel_rfl
@[simp] theorem eby_5 : ebytes Tryd.prog 5 = 1 := by kernel_rfl
@[simp] theorem info_6 : (Tryd.prog.info? 6).isSome = true := by kernel_rfl
@[simp] theorem agg_6 : aggO Tryd.prog 6 = some false := by kernel_rfl
@[simp] theorem esz_6 : esz Tryd.prog 6 = 1 := by kernel_rfl
@[simp] theorem ikind_6 : ikind Tryd.prog 6 = some .u8 := by kernel_rfl
@[simp] theorem under_6 : Tryd.prog.underlying 6 = some (.int .u8) := by kernel_rfl
@[simp] theorem conc_6 : Tryd.prog.concrete 6 = true := by kernel_rfl
@[simp] theorem zero_6 : azero Tryd.prog 6 = some [.int .u8 0] := by kernel_rfl
@[simp] theorem nils_6 : nilPos Tryd.prog 6 = [] := by kernel_rfl
@[simp] theorem app_6 : appOk Tryd.prog 6 = true := by kernel_rfl
@[simp] theorem eby_6 : ebytes Tryd.prog 6 = 1 := by kernel_rfl
@[simp] theorem info_7 : (Tryd.prog.info? 7).isSome = true := by kernel_rfl
@[simp] theorem agg_7 : aggO Tryd.prog 7 = some true := by kernel_rfl
@[simp] theorem esz_7 : esz Tryd.prog 7 = 4 := by kernel_rfl
@[simp] theorem conc_7 : Tryd.prog.concrete 7 = true := by kernel_rfl
@[simp] theorem foff_7_0 : foff Tryd.prog 7 0 = some 0 := by kernel_rfl
@[simp] theorem ftyp_7_0 : ftyp Tryd.prog 7 0 = 2 := by kernel_rfl
@[simp] theorem foff_7_1 : foff Tryd.prog 7 1 = some 1 := by kernel_rfl
@[simp] theorem ftyp_7_1 : ftyp Tryd.prog 7 1 = 3 := by kernel_rfl
@[simp] theorem foff_7_2 : foff Tryd.prog 7 2 = some 2 := by kernel_rfl
@[simp] theorem ftyp_7_2 : ftyp Tryd.prog 7 2 = 4 := by kernel_rfl
@[simp] theorem foff_7_3 : foff Tryd.prog 7 3 = some 3 := by kernel_rfl
@[simp] theorem ftyp_7_3 : ftyp Tryd.prog 7 3 = 6 := by kernel_rfl
@[simp] theorem known_7 : knownF Tryd.prog 7 = true := by kernel_rfl
@[simp] theorem zero_7 : azero Tryd.prog 7 = some [.int .i64 0, .int .i64 0, .bool false, .int .u8 0] := by kernel_rfl
@[simp] theorem nils_7 : nilPos Tryd.prog 7 = [] := by kernel_rfl
@[simp] theorem app_7 : appOk Tryd.prog 7 = true := by kernel_rfl
@[simp] theorem eby_7 : ebytes Tryd.prog 7 = 24 := by kernel_rfl
@[simp] theorem info_9 : (Tryd.prog.info? 9).isSome = true := by kernel_rfl
@[simp] theorem agg_9 : aggO Tryd.prog 9 = some false := by kernel_rfl
@[simp] theorem esz_9 : esz Tryd.prog 9 = 1 := by kernel_rfl
@[simp] theorem under_9 : Tryd.prog.underlying 9 = some .string := by kernel_rfl
@[simp] theorem strt_9 : strT Tryd.prog 9 = true := by kernel_rfl
@[simp] theorem strb_9 : strB Tryd.prog 9 = true := by kernel_rfl
@[simp] theorem conc_9 : Tryd.prog.concrete 9 = true := by kernel_rfl
@[simp] theorem zero_9 : azero Tryd.prog 9 = some [.str []] := by kernel_rfl
@[simp] theorem nils_9 : nilPos Tryd.prog 9 = [] := by kernel_rfl
@[simp] theorem app_9 : appOk Tryd.prog 9 = true := by kernel_rfl
@[simp] theorem eby_9 : ebytes Tryd.prog 9 = 16 := by kernel_rfl
@[simp] theorem info_21 : (Tryd.prog.info? 21).isSome = true := by kernel_rfl
@[simp] theorem agg_21 : aggO Tryd.prog 21 = some false := by kernel_rfl
@[simp] theorem esz_21 : esz Tryd.prog 21 = 1 := by kernel_rfl
@[simp] theorem ikind_21 : ikind Tryd.prog 21 = some .i32 := by kernel_rfl
@[simp] theorem under_21 : Tryd.prog.underlying 21 = some (.int .i32) := by kernel_rfl
@[simp] theorem conc_21 : Tryd.prog.concrete 21 = true := by kernel_rfl
@[simp] theorem zero_21 : azero Tryd.prog 21 = some [.int .i32 0] := by kernel_rfl
@[simp] theorem nils_21 : nilPos Tryd.prog 21 = [] := by kernel_rfl
@[simp] theorem app_21 : appOk Tryd.prog 21 = true := by kernel_rfl
@[simp] theorem eby_21 : ebytes Tryd.prog 21 = 4 := by kernel_rfl
@[simp] theorem info_22 : (Tryd.prog.info? 22).isSome = true := by kernel_rfl
@[simp] theorem agg_22 : aggO Tryd.prog 22 = some false := by kernel_rfl
@[simp] theorem esz_22 : esz Tryd.prog 22 = 1 := by kernel_rfl
@[simp] theorem elem_22 : elemT Tryd.prog 22 = some 24 := by kernel_rfl
@[simp] theorem conc_22 : Tryd.prog.concrete 22 = true := by kernel_rfl
@[simp] theorem zero_22 : azero Tryd.prog 22 = some [.slice []] := by kernel_rfl
@[simp] theorem nils_22 : nilPos Tryd.prog 22 = [0] := by kernel_rfl
@[simp] theorem app_22 : appOk Tryd.prog 22 = true := by kernel_rfl
@[simp] theorem eby_22 : ebytes Tryd.prog 22 = 24 := by kernel_rfl
@[simp] theorem info_24 : (Tryd.prog.info? 24).isSome = true := by kernel_rfl
@[simp] theorem agg_24 : aggO Tryd.prog 24 = some true := by kernel_rfl
@[simp] theorem esz_24 : esz Tryd.prog 24 = 3 := by kernel_rfl
@[simp] theorem conc_24 : Tryd.prog.concrete 24 = true := by kernel_rfl
@[simp] theorem foff_24_0 : foff Tryd.prog 24 0 = some 0 := by kernel_rfl
@[simp] theorem ftyp_24_0 : ftyp Tryd.prog 24 0 = 9 := by kernel_rfl
@[simp] theorem foff_24_1 : foff Tryd.prog 24 1 = some 1 := by kernel_rfl
@[simp] theorem ftyp_24_1 : ftyp Tryd.prog 24 1 = 22 := by kernel_rfl
@[simp] theorem foff_24_2 : foff Tryd.prog 24 2 = some 2 := by kernel_rfl
@[simp] theorem ftyp_24_2 : ftyp Tryd.prog 24 2 = 3 := by kernel_rfl
@[simp] theorem known_24 : knownF Tryd.prog 24 = true := by kernel_rfl
@[simp] theorem zero_24 : azero Tryd.prog 24 = some [.str [], .slice [], .int .i64 0] := by kernel_rfl
@[simp] theorem nils_24 : nilPos Tryd.prog 24 = [1] := by kernel_rfl
@[simp] theorem app_24 : appOk Tryd.prog 24 = true := by kernel_rfl
@[simp] theorem eby_24 : ebytes Tryd.prog 24 = 48 := by kernel_rfl
@[simp] theorem info_31 : (Tryd.prog.info? 31).isSome = true := by kernel_rfl
@[simp] theorem agg_31 : aggO Tryd.prog 31 = some false := by kernel_rfl
@[simp] theorem esz_31 : esz Tryd.prog 31 = 1 := by kernel_rfl
@[simp] theorem elem_31 : elemT Tryd.prog 31 = some 9 := by kernel_rfl
@[simp] theorem conc_31 : Tryd.prog.concrete 31 = true := by kernel_rfl
@[simp] theorem zero_31 : azero Tryd.prog 31 = some [.slice []] := by kernel_rfl
@[simp] theorem nils_31 : nilPos Tryd.prog 31 = [0] := by kernel_rfl
@[simp] theorem app_31 : appOk Tryd.prog 31 = true := by kernel_rfl
@[simp] theorem eby_31 : ebytes Tryd.prog 31 = 24 := by kernel_rfl
@[simp] theorem info_38 : (Tryd.prog.info? 38).isSome = true := by kernel_rfl
@[simp] theorem agg_38 : aggO Tryd.prog 38 = some false := by kernel_rfl
@[simp] theorem esz_38 : esz Tryd.prog 38 = 1 := by kernel_rfl
@[simp] theorem funct_38 : funcT Tryd.prog 38 = true := by kernel_rfl
@[simp] theorem conc_38 : Tryd.prog.concrete 38 = true := by kernel_rfl
@[simp] theorem zero_38 : azero Tryd.prog 38 = some [.nilFunc] := by kernel_rfl
@[simp] theorem nils_38 : nilPos Tryd.prog 38 = [] := by kernel_rfl
@[simp] theorem app_38 : appOk Tryd.prog 38 = true := by kernel_rfl
@[simp] theorem eby_38 : ebytes Tryd.prog 38 = 8 := by kernel_rfl
@[simp] theorem info_41 : (Tryd.prog.info? 41).isSome = true := by kernel_rfl
@[simp] theorem agg_41 : aggO Tryd.prog 41 = some false := by kernel_rfl
@[simp] theorem esz_41 : esz Tryd.prog 41 = 1 := by kernel_rfl
@[simp] theorem funct_41 : funcT Tryd.prog 41 = true := by kernel_rfl
@[simp] theorem conc_41 : Tryd.prog.concrete 41 = true := by kernel_rfl
@[simp] theorem zero_41 : azero Tryd.prog 41 = some [.nilFunc] := by kernel_rfl
@[simp] theorem nils_41 : nilPos Tryd.prog 41 = [] := by kernel_rfl
@[simp] theorem app_41 : appOk Tryd.prog 41 = true := by kernel_rfl
@[simp] theorem eby_41 : ebytes Tryd.prog 41 = 8 := by kernel_rfl
@[simp] theorem info_50 : (Tryd.prog.info? 50).isSome = true := by kernel_rfl
@[simp] theorem agg_50 : aggO Tryd.prog 50 = some false := by kernel_rfl
@[simp] theorem esz_50 : esz Tryd.prog 50 = 1 := by kernel_rfl
@[simp] theorem funct_50 : funcT Tryd.prog 50 = true := by kernel_rfl
@[simp] theorem conc_50 : Tryd.prog.concrete 50 = true := by kernel_rfl
@[simp] theorem zero_50 : azero Tryd.prog 50 = some [.nilFunc] := by kernel_rfl
@[simp] theorem nils_50 : nilPos Tryd.prog 50 = [] := by kernel_rfl
@[simp] theorem app_50 : appOk Tryd.prog 50 = true := by kernel_rfl
@[simp] theorem eby_50 : ebytes Tryd.prog 50 = 8 := by kernel_rfl
@[simp] theorem info_53 : (Tryd.prog.info? 53).isSome = true := by kernel_rfl
@[simp] theorem agg_53 : aggO Tryd.prog 53 = some false := by kernel_rfl
@[simp] theorem esz_53 : esz Tryd.prog 53 = 1 := by kernel_rfl
@[simp] theorem elem_53 : elemT Tryd.prog 53 = some 3 := by kernel_rfl
@[simp] theorem conc_53 : Tryd.prog.concrete 53 = true := by kernel_rfl
@[simp] theorem zero_53 : azero Tryd.prog 53 = some [.slice []] := by kernel_rfl
@[simp] theorem nils_53 : nilPos Tryd.prog 53 = [0] := by kernel_rfl
@[simp] theorem app_53 : appOk Tryd.prog 53 = true := by kernel_rfl
@[simp] theorem eby_53 : ebytes Tryd.prog 53 = 24 := by kernel_rfl
@[simp] theorem info_54 : (Tryd.prog.info? 54).isSome = true := by kernel_rfl
@[simp] theorem agg_54 : aggO Tryd.prog 54 = some false := by kernel_rfl
@[simp] theorem esz_54 : esz Tryd.prog 54 = 1 := by kernel_rfl
@[simp] theorem conc_54 : Tryd.prog.concrete 54 = true := by kernel_rfl
@[simp] theorem zero_54 : azero Tryd.prog 54 = some [.nilPtr] := by kernel_rfl
@[simp] theorem nils_54 : nilPos Tryd.prog 54 = [] := by kernel_rfl
@[simp] theorem app_54 : appOk Tryd.prog 54 = true := by kernel_rfl
@[simp] theorem eby_54 : ebytes Tryd.prog 54 = 8 := by kernel_rfl
@[simp] theorem info_55 : (Tryd.prog.info? 55).isSome = true := by kernel_rfl
@[simp] theorem agg_55 : aggO Tryd.prog 55 = some false := by kernel_rfl
@[simp] theorem esz_55 : esz Tryd.prog 55 = 1 := by kernel_rfl
@[simp] theorem elem_55 : elemT Tryd.prog 55 = some 5 := by kernel_rfl
@[simp] theorem bytest_55 : bytesT Tryd.prog 55 = true := by kernel_rfl
@[simp] theorem conc_55 : Tryd.prog.concrete 55 = true := by kernel_rfl
@[simp] theorem zero_55 : azero Tryd.prog 55 = some [.slice []] := by kernel_rfl
@[simp] theorem nils_55 : nilPos Tryd.prog 55 = [0] := by kernel_rfl
@[simp] theorem app_55 : appOk Tryd.prog 55 = true := by kernel_rfl
@[simp] theorem eby_55 : ebytes Tryd.prog 55 = 24 := by kernel_rfl
@[simp] theorem info_57 : (Tryd.prog.info? 57).isSome = true := by kernel_rfl
@[simp] theorem agg_57 : aggO Tryd.prog 57 = some true := by kernel_rfl
@[simp] theorem esz_57 : esz Tryd.prog 57 = 2 := by kernel_rfl
@[simp] theorem conc_57 : Tryd.prog.concrete 57 = true := by kernel_rfl
@[simp] theorem foff_57_0 : foff Tryd.prog 57 0 = some 0 := by kernel_rfl
@[simp] theorem ftyp_57_0 : ftyp Tryd.prog 57 0 = 54 := by kernel_rfl
@[simp] theorem foff_57_1 : foff Tryd.prog 57 1 = some 1 := by kernel_rfl
@[simp] theorem ftyp_57_1 : ftyp Tryd.prog 57 1 = 55 := by kernel_rfl
@[simp] theorem known_57 : knownF Tryd.prog 57 = true := by kernel_rfl
@[simp] theorem zero_57 : azero Tryd.prog 57 = some [.nilPtr, .slice []] := by kernel_rfl
@[simp] theorem nils_57 : nilPos Tryd.prog 57 = [1] := by kernel_rfl
@[simp] theorem app_57 : appOk Tryd.prog 57 = true := by kernel_rfl
@[simp] theorem eby_57 : ebytes Tryd.prog 57 = 32 := by kernel_rfl
@[simp] theorem info_71 : (Tryd.prog.info? 71).isSome = true := by kernel_rfl
@[simp] theorem agg_71 : aggO Tryd.prog 71 = some true := by kernel_rfl
@[simp] theorem esz_71 : esz Tryd.prog 71 = 7 := by kernel_rfl
@[simp] theorem arrt_71 : arrT Tryd.prog 71 = some (7, 9) := by kernel_rfl
@[simp] theorem conc_71 : Tryd.prog.concrete 71 = true := by kernel_rfl
@[simp] theorem zero_71 : azero Tryd.prog 71 = some [.str [], .str [], .str [], .str [], .str [], .str [], .str []] := by kernel_rfl
@[simp] theorem nils_71 : nilPos Tryd.prog 71 = [] := by kernel_rfl
@[simp] theorem app_71 : appOk Tryd.prog 71 = true := by kernel_rfl
@[simp] theorem eby_71 : ebytes Tryd.prog 71 = 112 := by kernel_rfl
@[simp] theorem info_73 : (Tryd.prog.info? 73).isSome = true := by kernel_rfl
@[simp] theorem agg_73 : aggO Tryd.prog 73 = some false := by kernel_rfl
@[simp] theorem esz_73 : esz Tryd.prog 73 = 1 := by kernel_rfl
@[simp] theorem conc_73 : Tryd.prog.concrete 73 = true := by kernel_rfl
@[simp] theorem zero_73 : azero Tryd.prog 73 = some [.nilPtr] := by kernel_rfl
@[simp] theorem nils_73 : nilPos Tryd.prog 73 = [] := by kernel_rfl
@[simp] theorem app_73 : appOk Tryd.prog 73 = true := by kernel_rfl
@[simp] theorem eby_73 : ebytes Tryd.prog 73 = 8 := by kernel_rfl
theorem mixed : Tryd.prog.follows .mixedOrders = true := by kernel_rfl
end Pt
end Go.Proofs.YtghmdnfdocdgfaaDoor
