import Derived.Test.YtocmdbojefgpbaaGreatDoorPt
import Derived.Test.YtocmdbojefgpbaaGreatDoorPvPa
import Derived.Test.YtocmdbojefgpbaaGreatDoorPvY
import Derived.Test.YtocmdbojefgpbaaGreatDoorPvKd
import Derived.Test.YtocmdbojefgpbaaGreatDoorPvOc
import Derived.Test.YtocmdbojefgpbaaGreatDoorPvXb
import Derived.Test.YtocmdbojefgpbaaGreatDoorXExD
import Derived.Test.YtocmdbojefgpbaaGreatDoorXMgB
import Derived.Shelf.Strings.SlTrimAscii
import Derived.Test.YtocmdbojefgpbaaGreatDoorPvXa
section
/- Names of instances: expressions. -/
set_option linter.all false
set_option maxHeartbeats 1000000
set_option maxRecDepth 10000
namespace Go.Proofs.YtocmdbojefgpbaaGreatDoor
open Go Go.Pv
variable (g : Nat → Option (List AV)) (rnd : Bool)

theorem c_mangle_Expr (hml : ∃ m, g 4 = some [.int .i64 m]) (htab : g 3 = some pow10A) (hers : ∃ x, g 1 = some [.iface 159 x]) (herr : ∃ x, g 2 = some [.iface 159 x]) : ∀ e : Exp, wtE e ≤ 100000 → Valid Tryz.prog (G0 g rnd) 28 [.agg (encE e)] (.agg (encE (mgE e))) := by
 intro e
 induction e using Exp.ind with
 | h kd n t ta l p ih =>
 intro hw
 have hw2 : n.length + 1 + wt t + wts ta + wtEs l ≤ 100000 := by simpa [wtE_mk] using hw
 have hln := wtEs_len l
 have hla := wts_len ta
 refine valid_of [(103006, 49)] Tryz.func28 rfl (by kernel_rfl) ?_
 refine sr fun Z z => ?_
 simp [encE_mk, Tryz.f28]
 apply z
 refine sr fun Z z => ?_
 simp
 refine RVn_call ((by have h := c_expr_Clone g rnd (.mk kd n t ta l p) (by omega); simp only [encE_mk] at h; exact h)) ?_
 simp
 apply z
 refine AT_seq_regionX ?_
 refine Or.inl ?_
 simp [nextV, orV]
 refine RVx_spec (spec_storeNil (k := 3) (off := 6) rfl rfl rfl rfl rfl (by kernel_rfl) (by kernel_rfl) (by simp) rfl) ?_
 rintro _ rfl
 refine AT_str (Gives.openN 3 6 49 rfl rfl (by simp)) ?_
 simp only
 refine AT_seq_k fun K1 hK1 => ?_
 refine sr fun Z z => ?_
 simp
 apply z
 refine AT_block ?_
 refine AT_loop_q [1,2,3,10,11,12] [1,2,3] (fun j s => ∃ k, k ≤ l.length ∧ j = l.length - k ∧ s = { n := 43, tm := [(1, .lp 1 0), (2, .lp 2 0), (3, .lp 3 0), (10, .v (.slice (l.map encE)) none), (11, .v (.int .i64 l.length) none), (12, .v (.int .i64 k) none)], bx := [(1, encE (.mk kd n t ta l p)), (2, [.int .i64 0, .str [], .str [], .slice [], .int .i64 0, .slice [], .slice [], .int .i64 0]), (3, [.int .i64 kd, .str n, .str t.name, .slice (t.args.map encTy), .int .i64 t.pos, .slice (ta.map encTy), .slice (((l.take k).map mgE).map encE), .int .i64 p])], tb := [(3, 6, 103006, 49)], sh := [], hint := [(103006, 49)] }) (l.length) (by first | rfl | simp) ?_ ?_
 exact ⟨0, by simp [encE_mk]⟩
 rintro j s ⟨k, hk, rfl, rfl⟩ K2 hK2
 refine sr fun Z z => ?_
 simp [encE_mk]
 apply z
 refine AT_seq_k fun K3 hK3 => ?_
 refine AT_cond (g := none) rfl (fun hb13 => ?_) (fun hb13 => ?_)
 simp at hb13
 refine AT_skip ?_
 refine hK3 _ ?_
 refine AT_seq_k fun K4 hK4 => ?_
 refine AT_block ?_
 refine sr fun Z z => ?_
 simp [row_map, hb13]
 apply z
 refine AT_draw_q Pt.mixed (by kernel_rfl) fun Z z => ?_
 simp
 refine RVdn_call (ih l[k] (by simp) (by have := wtEs_mem (l := l) (e := l[k]) (by simp); omega)) ?_
 simp
 repeat refine sg ?_
 apply z
 refine hK4 _ ?_
 refine AT_region_q fun Z z => ?_
 simp
 repeat refine sg ?_
 apply z
 refine hK2 _ (by first | rfl | simp) (l.length - (k+1)) (by omega) ?_
 have hs2 := take_map_succ (encE ∘ mgE) l k hb13
 exact ⟨k+1, by omega, by omega, by simp [hs2, encE_mk]⟩
 simp at hb13
 refine AT_exit ?_
 refine hK1 _ ?_
 refine AT_seq_k fun K5 hK5 => ?_
 by_cases h3 : kd = 3
 have hk3 : (kd == 3) = true := by simp; omega
 have hk5 : (kd == 5) = false := by simp; omega
 have hk2 : (kd == 2) = false := by simp; omega
 refine sr fun Z z => ?_
 simp
 apply z
 refine AT_block ?_
 refine AT_seq_k fun K6 hK6 => ?_
 refine sr fun Z z => ?_
 simp [hk3]
 apply z
 refine cT (by simp) ?_
 refine AT_skip ?_
 refine hK6 _ ?_
 refine cT (by simp) ?_
 refine AT_region_q fun Z z => ?_
 simp
 refine RVn_call ((by have h := c_mangle_Plain g rnd t (by omega) hml htab hers herr; simp only [encTy_def] at h; exact h)) ?_
 simp
 apply z
 refine hK5 _ ?_
 refine sr fun Z z => ?_
 simp
 apply z
 refine AT_ret ?_
 simp [Tryz.f28]
 have htk : List.take k (l.map (encE ∘ mgE)) = l.map (encE ∘ mgE) := List.take_of_length_le (by simpa using hb13)
 rw [mgE_mk]
 simp [encE_mk, *]
 by_cases h5 : kd = 5
 have hk3 : (kd == 3) = false := by simp; omega
 have hk5 : (kd == 5) = true := by simp; omega
 have hk2 : (kd == 2) = false := by simp; omega
 refine sr fun Z z => ?_
 simp
 apply z
 refine AT_block ?_
 refine AT_seq_k fun K7 hK7 => ?_
 refine sr fun Z z => ?_
 simp [hk3]
 apply z
 refine cF (by simp) ?_
 refine AT_region_q fun Z z => ?_
 simp [hk5]
 apply z
 refine hK7 _ ?_
 refine cT (by simp) ?_
 refine AT_region_q fun Z z => ?_
 simp
 refine RVn_call ((by have h := c_mangle_Plain g rnd t (by omega) hml htab hers herr; simp only [encTy_def] at h; exact h)) ?_
 simp
 apply z
 refine hK5 _ ?_
 refine sr fun Z z => ?_
 simp
 apply z
 refine AT_ret ?_
 simp [Tryz.f28]
 have htk : List.take k (l.map (encE ∘ mgE)) = l.map (encE ∘ mgE) := List.take_of_length_le (by simpa using hb13)
 rw [mgE_mk]
 simp [encE_mk, *]
 by_cases h2 : kd = 2
 have hk3 : (kd == 3) = false := by simp; omega
 have hk5 : (kd == 5) = false := by simp; omega
 have hk2 : (kd == 2) = true := by simp; omega
 refine sr fun Z z => ?_
 simp
 apply z
 refine AT_block ?_
 refine AT_seq_k fun K8 hK8 => ?_
 refine sr fun Z z => ?_
 simp [hk3]
 apply z
 refine cF (by simp) ?_
 refine AT_region_q fun Z z => ?_
 simp [hk5]
 apply z
 refine hK8 _ ?_
 refine cF (by simp) ?_
 refine sr fun Z z => ?_
 simp [hk2]
 apply z
 refine cT (by simp) ?_
 refine AT_region_q fun Z z => ?_
 simp
 refine RVn_call (c_mangle_Method g rnd n ta (by omega) (by omega) hml htab hers herr) ?_
 simp
 apply z
 refine hK5 _ ?_
 refine sr fun Z z => ?_
 simp
 apply z
 refine AT_ret ?_
 simp [Tryz.f28]
 have htk : List.take k (l.map (encE ∘ mgE)) = l.map (encE ∘ mgE) := List.take_of_length_le (by simpa using hb13)
 rw [mgE_mk]
 simp [encE_mk, *]
 have hk3 : (kd == 3) = false := by simp; omega
 have hk5 : (kd == 5) = false := by simp; omega
 have hk2 : (kd == 2) = false := by simp; omega
 refine sr fun Z z => ?_
 simp
 apply z
 refine AT_block ?_
 refine AT_seq_k fun K9 hK9 => ?_
 refine sr fun Z z => ?_
 simp [hk3]
 apply z
 refine cF (by simp) ?_
 refine AT_region_q fun Z z => ?_
 simp [hk5]
 apply z
 refine hK9 _ ?_
 refine cF (by simp) ?_
 refine sr fun Z z => ?_
 simp [hk2]
 apply z
 refine cF (by simp) ?_
 refine AT_skip ?_
 refine hK5 _ ?_
 refine sr fun Z z => ?_
 simp
 apply z
 refine AT_ret ?_
 simp [Tryz.f28]
 have htk : List.take k (l.map (encE ∘ mgE)) = l.map (encE ∘ mgE) := List.take_of_length_le (by simpa using hb13)
 rw [mgE_mk]
 simp [encE_mk, *]

end Go.Proofs.YtocmdbojefgpbaaGreatDoor
end

section
/- Names of instances: reading. -/
set_option linter.all false
set_option maxHeartbeats 1000000
set_option maxRecDepth 10000
namespace Go.Proofs.YtocmdbojefgpbaaGreatDoor
open Go Go.Pv
variable (g : Nat → Option (List AV)) (rnd : Bool)

theorem c_mangle_reader_take (b : Nat) (x y : Str) : ValidC Tryz.prog (G0 g false) 56 [.str y] b [.str (x)] (.bool (Lib.hasPrefix x y)) [.str (Lib.trimPrefix x y)] := by

 refine validC_of [] Tryz.func56 rfl (by kernel_rfl) ?_
 refine sr fun Z z => ?_
 simp [Tryz.f56]
 apply z
 refine sr fun Z z => ?_
 simp
 refine RVn_call (c_strings_CutPrefix g false x y) ?_
 simp
 apply z
 refine sr fun Z z => ?_
 simp
 apply z
 refine AT_ret ?_
 simp [Tryz.f56]

theorem c_strings_TrimLeft (s : Str) : Valid Tryz.prog (G0 g false) 75 [.str s, .str digitsL] (.str (s.drop (digsM s).length)) := by
  refine valid_callsG (by kernel_rfl) fun lim w cargs hgl hargs => ?_
  obtain ⟨v, u, rfl⟩ : ∃ v u, cargs = [v, u] := by
    have := hargs.1
    match cargs, this with
    | [v, u], _ => exact ⟨v, u, rfl⟩
  have hv := rep_str hargs.head
  have hu := rep_str hargs.tail.head
  subst hv; subst hu
  refine (Any.strings_TrimLeft_laid Tryz.lays161 (by kernel_rfl) ⟨s.toArray⟩ ⟨digitsL.toArray⟩ w (by decide) (fun j c hc => ?_)).mono fun e w2 => ?_
  · have hd : ∀ c ∈ digitsL, c.toNat < 128 := by decide
    exact hd c (List.mem_of_getElem? (by simpa using hc))
  · rintro ⟨rfl, hb⟩
    exact ⟨_, rfl, hb, fun _ _ => by rw [show Lib.trimLeftS s.toArray.toList digitsL.toArray.toList = s.drop (digsM s).length by simp [trim_digits]]; exact .str _⟩

theorem c_mangle_reader_word (b : Nat) (x : Str) (hx : x.length ≤ 1000000) : ValidC Tryz.prog (G0 g false) 58 [] b [.str (x)] (.str (wordM x).1) [.str ((wordM x).2)] := by

 refine validC_of [(3, 5)] Tryz.func58 rfl (by kernel_rfl) ?_
 refine sr fun Z z => ?_
 simp [Tryz.f58]
 apply z
 refine AT_scope ?_
 refine sr fun Z z => ?_
 simp
 apply z
 refine AT_seq_k fun K1 hK1 => ?_
 refine AT_label ?_
 refine hK1 _ ?_
 refine AT_seq_k fun K2 hK2 => ?_
 refine AT_block ?_
 refine AT_loop_q [0,3] [] (fun j s => ∃ acc y rs, wordM x = (acc ++ (wordM y).1, (wordM y).2) ∧ acc.length + y.length ≤ x.length ∧ (∀ k : Nat, k ≠ b → Pv.look k rs = none) ∧ j = y.length ∧ s = { n := 38, tm := [(0, .v (.gp b 0) none), (3, .v (.slice (acc.map encU)) (some (3, 5)))], bx := [], tb := [], sh := (b, [.str y]) :: rs, hint := [(3, 5)] }) (x.length) (by first | rfl | simp) ?_ ?_
 exact ⟨[], x, [], by simp, by simp, fun _ _ => rfl, rfl, by simp⟩
 rintro j s ⟨acc, y, rs, hq, hl, hrs, rfl, rfl⟩ K3 hK3
 refine AT_str (Gives.shb hrs) ?_
 refine AT_seq_k fun K4 hK4 => ?_
 rcases y with _ | ⟨c, r⟩
 refine sr fun Z z => ?_
 simp
 repeat (refine ⟨by first | omega | exact Rows_map _ _ encU_cells _ | exact ⟨Rows_map _ _ encU_cells _, by omega⟩ | exact ⟨Rows_map _ _ encU_cells _, by simp at *; omega⟩ | (simp at *; omega), ?_⟩)
 apply z
 refine cF (by simp) ?_
 refine AT_exit ?_
 refine hK2 _ ?_
 refine sr fun Z z => ?_
 simp [rowNums_encU, ofNum_encU2]
 repeat (refine ⟨by first | omega | exact Rows_map _ _ encU_cells _ | exact ⟨Rows_map _ _ encU_cells _, by omega⟩ | exact ⟨Rows_map _ _ encU_cells _, by simp at *; omega⟩ | (simp at *; omega), ?_⟩)
 apply z
 refine AT_ret ?_
 simp [Tryz.f58]
 rw [hq]; simp [wordM, *]
 by_cases hc : c = 95
 subst hc
 rcases r with _ | ⟨d, q⟩
 have hp : Lib.hasPrefix [95] [95, 95] = false := by decide
 have ht : Lib.trimPrefix [95] [95, 95] = [95] := by decide
 refine sr fun Z z => ?_
 simp
 repeat (refine ⟨by first | omega | exact Rows_map _ _ encU_cells _ | exact ⟨Rows_map _ _ encU_cells _, by omega⟩ | exact ⟨Rows_map _ _ encU_cells _, by simp at *; omega⟩ | (simp at *; omega), ?_⟩)
 apply z
 refine cT (by simp) ?_
 refine AT_skip ?_
 refine hK4 _ ?_
 refine AT_block ?_
 refine sr fun Z z => ?_
 simp
 repeat (refine ⟨by first | omega | exact Rows_map _ _ encU_cells _ | exact ⟨Rows_map _ _ encU_cells _, by omega⟩ | exact ⟨Rows_map _ _ encU_cells _, by simp at *; omega⟩ | (simp at *; omega), ?_⟩)
 apply z
 refine AT_block ?_
 refine sr fun Z z => ?_
 simp
 repeat (refine ⟨by first | omega | exact Rows_map _ _ encU_cells _ | exact ⟨Rows_map _ _ encU_cells _, by omega⟩ | exact ⟨Rows_map _ _ encU_cells _, by simp at *; omega⟩ | (simp at *; omega), ?_⟩)
 refine RVn_callC (c_mangle_reader_take g b _ [95, 95]) rfl ?_
 simp [hp, ht]
 repeat (refine ⟨by first | omega | exact Rows_map _ _ encU_cells _ | exact ⟨Rows_map _ _ encU_cells _, by omega⟩ | exact ⟨Rows_map _ _ encU_cells _, by simp at *; omega⟩ | (simp at *; omega), ?_⟩)
 apply z
 refine cF (by simp) ?_
 refine sr fun Z z => ?_
 simp
 repeat (refine ⟨by first | omega | exact Rows_map _ _ encU_cells _ | exact ⟨Rows_map _ _ encU_cells _, by omega⟩ | exact ⟨Rows_map _ _ encU_cells _, by simp at *; omega⟩ | (simp at *; omega), ?_⟩)
 apply z
 refine cT (by simp) ?_
 refine AT_exit ?_
 refine hK2 _ ?_
 refine sr fun Z z => ?_
 simp [rowNums_encU, ofNum_encU2]
 repeat (refine ⟨by first | omega | exact Rows_map _ _ encU_cells _ | exact ⟨Rows_map _ _ encU_cells _, by omega⟩ | exact ⟨Rows_map _ _ encU_cells _, by simp at *; omega⟩ | (simp at *; omega), ?_⟩)
 apply z
 refine AT_ret ?_
 simp [Tryz.f58]
 rw [hq]; simp [wordM, *]
 by_cases hd : d = 95
 subst hd
 have hp : Lib.hasPrefix (95 :: 95 :: q) [95, 95] = true := by simp [Lib.hasPrefix]
 have ht : Lib.trimPrefix (95 :: 95 :: q) [95, 95] = q := by simp [Lib.trimPrefix, Lib.hasPrefix]
 obtain ⟨y2, hy2⟩ : ∃ y2 : Str, y2 = q := ⟨_, rfl⟩
 obtain ⟨acc2, ha2⟩ : ∃ a : Str, a = acc ++ [95] := ⟨_, rfl⟩
 have hyl : y2.length < ((95 : UInt8) :: 95 :: q).length := by subst hy2; simp; omega
 refine sr fun Z z => ?_
 simp
 repeat (refine ⟨by first | omega | exact Rows_map _ _ encU_cells _ | exact ⟨Rows_map _ _ encU_cells _, by omega⟩ | exact ⟨Rows_map _ _ encU_cells _, by simp at *; omega⟩ | (simp at *; omega), ?_⟩)
 apply z
 refine cT (by simp) ?_
 refine AT_skip ?_
 refine hK4 _ ?_
 refine AT_block ?_
 refine sr fun Z z => ?_
 simp
 repeat (refine ⟨by first | omega | exact Rows_map _ _ encU_cells _ | exact ⟨Rows_map _ _ encU_cells _, by omega⟩ | exact ⟨Rows_map _ _ encU_cells _, by simp at *; omega⟩ | (simp at *; omega), ?_⟩)
 apply z
 refine AT_block ?_
 refine sr fun Z z => ?_
 simp
 repeat (refine ⟨by first | omega | exact Rows_map _ _ encU_cells _ | exact ⟨Rows_map _ _ encU_cells _, by omega⟩ | exact ⟨Rows_map _ _ encU_cells _, by simp at *; omega⟩ | (simp at *; omega), ?_⟩)
 refine RVn_callC (c_mangle_reader_take g b _ [95, 95]) rfl ?_
 simp [hp, ht]
 repeat (refine ⟨by first | omega | exact Rows_map _ _ encU_cells _ | exact ⟨Rows_map _ _ encU_cells _, by omega⟩ | exact ⟨Rows_map _ _ encU_cells _, by simp at *; omega⟩ | (simp at *; omega), ?_⟩)
 apply z
 refine cT (by simp) ?_
 refine AT_region_q fun Z z => ?_
 simp
 repeat (refine ⟨by first | omega | exact Rows_map _ _ encU_cells _ | exact ⟨Rows_map _ _ encU_cells _, by omega⟩ | exact ⟨Rows_map _ _ encU_cells _, by simp at *; omega⟩ | (simp at *; omega), ?_⟩)
 apply z
 refine hK3 _ (by first | rfl | simp) (y2.length) (by omega) ?_
 have hqq : wordM x = (acc2 ++ (wordM y2).1, (wordM y2).2) := by
   subst hy2; subst ha2
   first | (· rw [hq, hwn]; simp) | (· rw [hq]; simp [wordM])
 have hll : acc2.length + y2.length ≤ x.length := by subst hy2; subst ha2; simp at hl ⊢; omega
 subst hy2; subst ha2
 (· refine ⟨_, _, [], hqq, hll, fun _ _ => rfl, rfl, ?_⟩
    simp [encU])
 have hp : Lib.hasPrefix (95 :: d :: q) [95, 95] = false := by rw [hpC]; simpa using fun h : 95 = d => hd h.symm
 have ht : Lib.trimPrefix (95 :: d :: q) [95, 95] = 95 :: d :: q := by simp [Lib.trimPrefix, hp]
 refine sr fun Z z => ?_
 simp
 repeat (refine ⟨by first | omega | exact Rows_map _ _ encU_cells _ | exact ⟨Rows_map _ _ encU_cells _, by omega⟩ | exact ⟨Rows_map _ _ encU_cells _, by simp at *; omega⟩ | (simp at *; omega), ?_⟩)
 apply z
 refine cT (by simp) ?_
 refine AT_skip ?_
 refine hK4 _ ?_
 refine AT_block ?_
 refine sr fun Z z => ?_
 simp
 repeat (refine ⟨by first | omega | exact Rows_map _ _ encU_cells _ | exact ⟨Rows_map _ _ encU_cells _, by omega⟩ | exact ⟨Rows_map _ _ encU_cells _, by simp at *; omega⟩ | (simp at *; omega), ?_⟩)
 apply z
 refine AT_block ?_
 refine sr fun Z z => ?_
 simp
 repeat (refine ⟨by first | omega | exact Rows_map _ _ encU_cells _ | exact ⟨Rows_map _ _ encU_cells _, by omega⟩ | exact ⟨Rows_map _ _ encU_cells _, by simp at *; omega⟩ | (simp at *; omega), ?_⟩)
 refine RVn_callC (c_mangle_reader_take g b _ [95, 95]) rfl ?_
 simp [hp, ht]
 repeat (refine ⟨by first | omega | exact Rows_map _ _ encU_cells _ | exact ⟨Rows_map _ _ encU_cells _, by omega⟩ | exact ⟨Rows_map _ _ encU_cells _, by simp at *; omega⟩ | (simp at *; omega), ?_⟩)
 apply z
 refine cF (by simp) ?_
 refine sr fun Z z => ?_
 simp
 repeat (refine ⟨by first | omega | exact Rows_map _ _ encU_cells _ | exact ⟨Rows_map _ _ encU_cells _, by omega⟩ | exact ⟨Rows_map _ _ encU_cells _, by simp at *; omega⟩ | (simp at *; omega), ?_⟩)
 apply z
 refine cT (by simp) ?_
 refine AT_exit ?_
 refine hK2 _ ?_
 refine sr fun Z z => ?_
 simp [rowNums_encU, ofNum_encU2]
 repeat (refine ⟨by first | omega | exact Rows_map _ _ encU_cells _ | exact ⟨Rows_map _ _ encU_cells _, by omega⟩ | exact ⟨Rows_map _ _ encU_cells _, by simp at *; omega⟩ | (simp at *; omega), ?_⟩)
 apply z
 refine AT_ret ?_
 simp [Tryz.f58]
 rw [hq]; simp [wordM, *]
 have hp : Lib.hasPrefix (c :: r) [95, 95] = false := hp_ne hc r 95
 have hwn := wordM_ne hc r
 have ht : Lib.trimPrefix (c :: r) [95, 95] = c :: r := by simp [Lib.trimPrefix, hp]
 have hcn : ((c.toNat : Int) == 95) = false := by simpa using fun h : (c.toNat : Int) = 95 => hc (UInt8.toNat_inj.1 (by simp; omega))
 obtain ⟨y2, hy2⟩ : ∃ y2 : Str, y2 = r := ⟨_, rfl⟩
 obtain ⟨acc2, ha2⟩ : ∃ a : Str, a = acc ++ [c] := ⟨_, rfl⟩
 have hyl : y2.length < (c :: r).length := by subst hy2; simp
 refine sr fun Z z => ?_
 simp
 repeat (refine ⟨by first | omega | exact Rows_map _ _ encU_cells _ | exact ⟨Rows_map _ _ encU_cells _, by omega⟩ | exact ⟨Rows_map _ _ encU_cells _, by simp at *; omega⟩ | (simp at *; omega), ?_⟩)
 apply z
 refine cT (by simp) ?_
 refine AT_skip ?_
 refine hK4 _ ?_
 refine AT_block ?_
 refine sr fun Z z => ?_
 simp
 repeat (refine ⟨by first | omega | exact Rows_map _ _ encU_cells _ | exact ⟨Rows_map _ _ encU_cells _, by omega⟩ | exact ⟨Rows_map _ _ encU_cells _, by simp at *; omega⟩ | (simp at *; omega), ?_⟩)
 apply z
 refine AT_block ?_
 refine sr fun Z z => ?_
 simp
 repeat (refine ⟨by first | omega | exact Rows_map _ _ encU_cells _ | exact ⟨Rows_map _ _ encU_cells _, by omega⟩ | exact ⟨Rows_map _ _ encU_cells _, by simp at *; omega⟩ | (simp at *; omega), ?_⟩)
 refine RVn_callC (c_mangle_reader_take g b _ [95, 95]) rfl ?_
 simp [hp, ht]
 repeat (refine ⟨by first | omega | exact Rows_map _ _ encU_cells _ | exact ⟨Rows_map _ _ encU_cells _, by omega⟩ | exact ⟨Rows_map _ _ encU_cells _, by simp at *; omega⟩ | (simp at *; omega), ?_⟩)
 apply z
 refine cF (by simp) ?_
 refine sr fun Z z => ?_
 simp [hcn]
 repeat (refine ⟨by first | omega | exact Rows_map _ _ encU_cells _ | exact ⟨Rows_map _ _ encU_cells _, by omega⟩ | exact ⟨Rows_map _ _ encU_cells _, by simp at *; omega⟩ | (simp at *; omega), ?_⟩)
 apply z
 refine cF (by simp) ?_
 refine sr fun Z z => ?_
 simp
 repeat (refine ⟨by first | omega | exact Rows_map _ _ encU_cells _ | exact ⟨Rows_map _ _ encU_cells _, by omega⟩ | exact ⟨Rows_map _ _ encU_cells _, by simp at *; omega⟩ | (simp at *; omega), ?_⟩)
 apply z
 refine AT_region_q fun Z z => ?_
 simp
 repeat (refine ⟨by first | omega | exact Rows_map _ _ encU_cells _ | exact ⟨Rows_map _ _ encU_cells _, by omega⟩ | exact ⟨Rows_map _ _ encU_cells _, by simp at *; omega⟩ | (simp at *; omega), ?_⟩)
 apply z
 refine hK3 _ (by first | rfl | simp) (y2.length) (by omega) ?_
 have hqq : wordM x = (acc2 ++ (wordM y2).1, (wordM y2).2) := by
   subst hy2; subst ha2
   first | (· rw [hq, hwn]; simp) | (· rw [hq]; simp [wordM])
 have hll : acc2.length + y2.length ≤ x.length := by subst hy2; subst ha2; simp at hl ⊢; omega
 subst hy2; subst ha2
 (· refine ⟨_, _, [(b, [.str (c :: y2)])], hqq, hll, fun k hk => by simp [Pv.look, Ne.symm hk], rfl, ?_⟩
    simp [encU])

theorem c_mangle_reader_local (b : Nat) (x : Str) (hx : x.length ≤ 100000) (htab : g 3 = some pow10A) (hers : ∃ x, g 1 = some [.iface 159 x]) (herr : ∃ x, g 2 = some [.iface 159 x]) : ValidC Tryz.prog (G0 g false) 57 [] b [.str (x)] (.tup [.agg (encTy (.mk (36 :: digsM x) [] 0)), .bool (locOf (36 :: digsM x)).isSome]) [.str (x.drop (digsM x).length)] := by
 have hdl := digs_len x
 have htd := take_digits x
 have hn : (x.length : Int) - ((x.length - (digsM x).length : Nat) : Int) = (digsM x).length := by omega
 refine validC_of [] Tryz.func57 rfl (by kernel_rfl) ?_
 refine sr fun Z z => ?_
 simp [Tryz.f57]
 apply z
 refine AT_seq_draw Pt.mixed (by kernel_rfl) fun Z z => ?_
 simp
 refine RVdn_call (c_strings_TrimLeft g x) ?_
 simp [hn]
 repeat refine sg ?_
 apply z
 refine sr fun Z z => ?_
 simp [htd]
 repeat refine sg ?_
 apply z
 refine sr fun Z z => ?_
 simp
 repeat refine sg ?_
 apply z
 refine sr fun Z z => ?_
 simp
 refine RVn_call (c_name_Index g false (36 :: digsM x) (by simp; omega) htab hers herr) ?_
 simp
 apply z
 refine sr fun Z z => ?_
 simp
 apply z
 refine AT_ret ?_
 simp [encTy_mk, Tryz.f57]

end Go.Proofs.YtocmdbojefgpbaaGreatDoor
end
