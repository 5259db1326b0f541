import Derived.Test.YtocmdbojefgpbaaGreatDoorPt
import Derived.Test.YtocmdbojefgpbaaGreatDoorPvPb
import Derived.Test.YtocmdbojefgpbaaGreatDoorPvY
import Derived.Test.YtocmdbojefgpbaaGreatDoorXMgK
import Derived.Deep.RegionHeld3
import Derived.WalkKit
import Derived.Test.YtocmdbojefgpbaaGreatDoorXLbJ
section
/- Canonical signatures: the changes, on real memory. -/
set_option linter.all false
set_option maxHeartbeats 1000000
set_option maxRecDepth 10000
namespace Go.Proofs.YtocmdbojefgpbaaGreatDoor
open Go Go.Pv
variable (g : Nat → Option (List AV)) (rnd : Bool)

open Go.RowKit
def canFind (id : Nat) : Code → Option Code
  | .region i ops d => if i = id then some (.region i ops d) else none
  | .block _ c => canFind id c
  | .seq x y => match canFind id x with | some c => some c | none => canFind id y
  | .loop c => canFind id c
  | .cond _ x y => match canFind id x with | some c => some c | none => canFind id y
  | _ => none
noncomputable def canR (id : Nat) : Code := (canFind id (Tryz.f42.body.getD .skip)).getD .skip
noncomputable def canQ (id : Nat) : Code := (canFind id (Tryz.f41.body.getD .skip)).getD .skip
theorem lit54 (ts : Array Value) (h : ts.size = 54) : ∃ q : Nat → Value, (∀ k, ts.getD k undef = q k) ∧ ts = #[q 0, q 1, q 2, q 3, q 4, q 5, q 6, q 7, q 8, q 9, q 10, q 11, q 12, q 13, q 14, q 15, q 16, q 17, q 18, q 19, q 20, q 21, q 22, q 23, q 24, q 25, q 26, q 27, q 28, q 29, q 30, q 31, q 32, q 33, q 34, q 35, q 36, q 37, q 38, q 39, q 40, q 41, q 42, q 43, q 44, q 45, q 46, q 47, q 48, q 49, q 50, q 51, q 52, q 53] := ⟨fun k => ts.getD k undef, fun _ => rfl, by have hl := arr_lit ts; rw [h] at hl; exact hl⟩
theorem lit57 (ts : Array Value) (h : ts.size = 57) : ∃ q : Nat → Value, (∀ k, ts.getD k undef = q k) ∧ ts = #[q 0, q 1, q 2, q 3, q 4, q 5, q 6, q 7, q 8, q 9, q 10, q 11, q 12, q 13, q 14, q 15, q 16, q 17, q 18, q 19, q 20, q 21, q 22, q 23, q 24, q 25, q 26, q 27, q 28, q 29, q 30, q 31, q 32, q 33, q 34, q 35, q 36, q 37, q 38, q 39, q 40, q 41, q 42, q 43, q 44, q 45, q 46, q 47, q 48, q 49, q 50, q 51, q 52, q 53, q 54, q 55, q 56] := ⟨fun k => ts.getD k undef, fun _ => rfl, by have hl := arr_lit ts; rw [h] at hl; exact hl⟩
theorem can_wp_of_eq {P : Program} {c c' : Code} {Q : Exit → Act → World → Prop} {a : Act} {w : World} (h : c = c') (hw : c.wp P Q a w) : c'.wp P Q a w := h ▸ hw
theorem canLoc {gl : Gl} {lim : Lim} {k : Nat} {s : Str} (hloc : Valid Tryz.prog gl 52 [.int .i64 k] (.str s)) (w : World) (hgl : GlOk gl lim w.heap) : Calls Tryz.prog 52 #[.int .i64 k] w fun e w' => e = .returned (.string ⟨s.toArray⟩) ∧ Frm w.heap.size (fun _ => False) w w' := by
  refine (hloc.2 lim w [.int .i64 k] hgl (.cons (.int _ _) (.nil _ _)) (fun b c hb => by cases hb)).mono fun e w' => ?_
  rintro ⟨v, r, sh', lim', rfl, hfr, -, hrep, -, ⟨rfl, rfl⟩, -, -⟩
  cases hrep
  refine ⟨rfl, ?_⟩
  have hS : (fun b => (Pv.look b ([] : List (Nat × List AV))).isSome = true) = fun _ => False := by funext b; simp [Pv.look]
  rwa [hS] at hfr
theorem Frm.cell {w w' : World} (h : Frm w.heap.size (fun _ => False) w w') {a : Addr} {v : Value} (hc : w.cell? a = some v) (ha : a.spot = none) : w'.cell? a = some v := by
  obtain ⟨b, o, s⟩ := a
  subst ha
  rw [cell?_eq] at hc ⊢
  have hb := cellAt_lt hc
  unfold cellAt at hc ⊢
  rw [h.block b hb id]
  exact hc
theorem Frm.thaw {w w' : World} (h : Frm w.heap.size (fun _ => False) w w') {b o : Nat} {cur : Array Value} {e : TypeId} (hb : w.heap[b]? = some (.cells cur e (0, 0))) : w'.frozen? ⟨b, o, none⟩ = false := by
  have h1 := h.block b (Array.getElem?_eq_some_iff.1 hb).1 id
  rw [hb] at h1
  simp [World.frozen?, h1]
theorem canW1 {gl : Gl} {lim : Lim} {b5 b cap k n : Nat} {cur : Array Value} {e : TypeId} (hloc : Valid Tryz.prog gl 52 [.int .i64 k] (.str (locS (k : Nat)))) (a : Act) (w : World) (hsz : a.tmps.size = 54) (h5 : a.tmps.getD 5 undef = .pointer (some ⟨b5, 0, none⟩)) (h6 : a.tmps.getD 6 undef = .int .i64 k)
    (hgl : GlOk gl lim w.heap) (hc : cellAt w.heap b5 1 = some (.slice (some ⟨b, 0, none⟩) n cap)) (hb : w.heap[b]? = some (.cells cur e (0, 0))) (hcs : cur.size = cap * 5) (hn : n ≤ cap) (hcap : cap ≤ maxLen) (hk : k < n) (hkm : n ≤ 1000000000) (hbne : b ≠ b5) :
    (canR 11).wp Tryz.prog (fun e2 a' w' => e2 = .normal ∧ (∃ u, St1 w w' b (k * 5 + 0) u ∧ Rep lim w'.heap u (.str (locS (k : Nat)))) ∧ a'.tmps.size = a.tmps.size ∧ a'.defers = a.defers ∧ ∀ t ∈ [2, 5, 29, 30], a'.tmps.getD t undef = a.tmps.getD t undef) a w := by
  obtain ⟨ts, dq⟩ := a
  replace hsz : ts.size = 54 := hsz
  replace h5 : ts.getD 5 undef = .pointer (some ⟨b5, 0, none⟩) := h5
  replace h6 : ts.getD 6 undef = .int .i64 k := h6
  obtain ⟨q, hq, hl2⟩ := lit54 ts hsz
  rw [hq] at h5 h6
  rw [h5, h6] at hl2
  clear hq h5 h6 hsz
  subst hl2
  have hc' : w.cell? ⟨b5, 1, none⟩ = some (.slice (some ⟨b, 0, none⟩) n cap) := by rw [cell?_eq]; exact hc
  obtain ⟨u0, hu0⟩ : ∃ u0, w.cell? ⟨b, k * 5, none⟩ = some u0 := by
    rw [cell?_eq]; unfold cellAt; rw [hb]
    have : k * 5 < cur.size := by rw [hcs]; omega
    exact ⟨cur[k * 5], by simp [this]⟩
  have hbs : b < w.heap.size := (Array.getElem?_eq_some_iff.1 hb).1
  have hfz : w.frozen? ⟨b, k * 5, none⟩ = false := by simp [World.frozen?, hb]
  have hk0 : (0 : Int) ≤ (k : Int) := Int.natCast_nonneg _
  have hk1 : (k : Int) < (n : Int) := by omega
  simp only [canR, canFind, Tryz.f42, Option.getD_some, reduceIte, Nat.reduceEqDiff]
  go_region_held3 (fun w' => w'.cell? ⟨b5, 1, none⟩ = some (.slice (some ⟨b, 0, none⟩) n cap))
    (first | exact hc' | exact Frm.cell hfr hc' rfl | exact (World.cell?_setCell_other _ _ _ _ (fun he => hbne (congrArg Addr.block he))).trans (Frm.cell hfr hc' rfl) | go_keep)
    (first | (go_at_call 52; refine (canLoc hloc w.drew (show GlOk gl lim w.drew.heap from hgl)).mono ?_; rintro e2 w' ⟨rfl, hfr⟩; have hu9 := Frm.cell hfr (show w.drew.cell? ⟨b, k * 5, none⟩ = some u0 from hu0) rfl; have hf9 := Frm.thaw (o := k * 5) hfr (show w.drew.heap[b]? = some (.cells cur e (0, 0)) from hb)))
  refine ⟨rfl, ⟨_, St1.of_set (w1 := w') ⟨hfr.os, hfr.tape, hfr.output, hfr.size, hfr.block⟩ hbs rfl rfl rfl rfl, .str _⟩, rfl, rfl, ?_⟩
  intro t ht
  simp only [List.mem_cons, List.not_mem_nil, or_false] at ht
  rcases ht with rfl | rfl | rfl | rfl <;> rfl
theorem canW2 {lim : Lim} {b5 b cap k n : Nat} {cur : Array Value} {e : TypeId} (a : Act) (w : World) (hsz : a.tmps.size = 54) (h5 : a.tmps.getD 5 undef = .pointer (some ⟨b5, 0, none⟩)) (h6 : a.tmps.getD 7 undef = .int .i64 k)
    (hc : cellAt w.heap b5 2 = some (.slice (some ⟨b, 0, none⟩) n cap)) (hb : w.heap[b]? = some (.cells cur e (0, 0))) (hcs : cur.size = cap * 5) (hn : n ≤ cap) (hcap : cap ≤ maxLen) (hk : k < n) (hkm : n ≤ 1000000000) (hbne : b ≠ b5) :
    (canR 16).wp Tryz.prog (fun e2 a' w' => e2 = .normal ∧ (∃ u, St1 w w' b (k * 5 + 0) u ∧ Rep lim w'.heap u (.str [])) ∧ a'.tmps.size = a.tmps.size ∧ a'.defers = a.defers ∧ ∀ t ∈ [2, 5, 43, 44], a'.tmps.getD t undef = a.tmps.getD t undef) a w := by
  obtain ⟨ts, dq⟩ := a
  replace hsz : ts.size = 54 := hsz
  replace h5 : ts.getD 5 undef = .pointer (some ⟨b5, 0, none⟩) := h5
  replace h6 : ts.getD 7 undef = .int .i64 k := h6
  obtain ⟨q, hq, hl2⟩ := lit54 ts hsz
  rw [hq] at h5 h6
  rw [h5, h6] at hl2
  clear hq h5 h6 hsz
  subst hl2
  have hc' : w.cell? ⟨b5, 2, none⟩ = some (.slice (some ⟨b, 0, none⟩) n cap) := by rw [cell?_eq]; exact hc
  obtain ⟨u0, hu0⟩ : ∃ u0, w.cell? ⟨b, k * 5, none⟩ = some u0 := by
    rw [cell?_eq]; unfold cellAt; rw [hb]
    have : k * 5 < cur.size := by rw [hcs]; omega
    exact ⟨cur[k * 5], by simp [this]⟩
  have hbs : b < w.heap.size := (Array.getElem?_eq_some_iff.1 hb).1
  have hfz : w.frozen? ⟨b, k * 5, none⟩ = false := by simp [World.frozen?, hb]
  have hk0 : (0 : Int) ≤ (k : Int) := Int.natCast_nonneg _
  have hk1 : (k : Int) < (n : Int) := by omega
  simp only [canR, canFind, Tryz.f42, Option.getD_some, reduceIte, Nat.reduceEqDiff]
  go_wp2
  exact ⟨_, St1.of_set (w1 := w) (Frm.refl _ _ w) hbs rfl rfl rfl rfl, .str []⟩
theorem canW3 {lim : Lim} {b5 b cap k n : Nat} {cur : Array Value} {e : TypeId} {bl m cl : Nat} (a : Act) (w : World) (hsz : a.tmps.size = 57) (h5 : a.tmps.getD 5 undef = .pointer (some ⟨b5, 0, none⟩)) (h6 : a.tmps.getD 6 undef = .int .i64 k) (h3 : a.tmps.getD 3 undef = .slice (some ⟨bl, 0, none⟩) m cl)
    (hkm2 : k < m) (hloc : w.cell? ⟨bl, k * 3, none⟩ = some (.string ⟨(locS (k : Nat)).toArray⟩)) (hc : cellAt w.heap b5 1 = some (.slice (some ⟨b, 0, none⟩) n cap)) (hb : w.heap[b]? = some (.cells cur e (0, 0))) (hcs : cur.size = cap * 5) (hn : n ≤ cap) (hcap : cap ≤ maxLen) (hk : k < n) (hkm : n ≤ 1000000000) (hbne : b ≠ b5) :
    (canQ 10).wp Tryz.prog (fun e2 a' w' => e2 = .normal ∧ (∃ u, St1 w w' b (k * 5 + 0) u ∧ Rep lim w'.heap u (.str (locS (k : Nat)))) ∧ a'.tmps.size = a.tmps.size ∧ a'.defers = a.defers ∧ ∀ t ∈ [2, 3, 5, 6], a'.tmps.getD t undef = a.tmps.getD t undef) a w := by
  obtain ⟨ts, dq⟩ := a
  replace hsz : ts.size = 57 := hsz
  replace h5 : ts.getD 5 undef = .pointer (some ⟨b5, 0, none⟩) := h5
  replace h6 : ts.getD 6 undef = .int .i64 k := h6
  replace h3 : ts.getD 3 undef = .slice (some ⟨bl, 0, none⟩) m cl := h3
  obtain ⟨q, hq, hl2⟩ := lit57 ts hsz
  rw [hq] at h5 h6 h3
  rw [h5, h6, h3] at hl2
  clear hq h5 h6 h3 hsz
  subst hl2
  have hc' : w.cell? ⟨b5, 1, none⟩ = some (.slice (some ⟨b, 0, none⟩) n cap) := by rw [cell?_eq]; exact hc
  obtain ⟨u0, hu0⟩ : ∃ u0, w.cell? ⟨b, k * 5, none⟩ = some u0 := by
    rw [cell?_eq]; unfold cellAt; rw [hb]
    have : k * 5 < cur.size := by rw [hcs]; omega
    exact ⟨cur[k * 5], by simp [this]⟩
  have hbs : b < w.heap.size := (Array.getElem?_eq_some_iff.1 hb).1
  have hfz : w.frozen? ⟨b, k * 5, none⟩ = false := by simp [World.frozen?, hb]
  have hk0 : (0 : Int) ≤ (k : Int) := Int.natCast_nonneg _
  have hk1 : (k : Int) < (n : Int) := by omega
  simp only [canQ, canFind, Tryz.f41, Option.getD_some, reduceIte, Nat.reduceEqDiff]
  have hm1 : (k : Int) < (m : Int) := by omega
  go_region
  refine ⟨rfl, ⟨_, St1.of_set (w1 := w) (Frm.refl _ _ w) hbs rfl rfl rfl rfl, .str _⟩, rfl, rfl, ?_⟩
  intro t ht
  simp only [List.mem_cons, List.not_mem_nil, or_false] at ht
  rcases ht with rfl | rfl | rfl | rfl <;> rfl
theorem canW4 {lim : Lim} {b5 b cap k n : Nat} {cur : Array Value} {e : TypeId} (a : Act) (w : World) (hsz : a.tmps.size = 57) (h5 : a.tmps.getD 5 undef = .pointer (some ⟨b5, 0, none⟩)) (h6 : a.tmps.getD 7 undef = .int .i64 k)
    (hc : cellAt w.heap b5 2 = some (.slice (some ⟨b, 0, none⟩) n cap)) (hb : w.heap[b]? = some (.cells cur e (0, 0))) (hcs : cur.size = cap * 5) (hn : n ≤ cap) (hcap : cap ≤ maxLen) (hk : k < n) (hkm : n ≤ 1000000000) (hbne : b ≠ b5) :
    (canQ 14).wp Tryz.prog (fun e2 a' w' => e2 = .normal ∧ (∃ u, St1 w w' b (k * 5 + 0) u ∧ Rep lim w'.heap u (.str [])) ∧ a'.tmps.size = a.tmps.size ∧ a'.defers = a.defers ∧ ∀ t ∈ [2, 5, 7], a'.tmps.getD t undef = a.tmps.getD t undef) a w := by
  obtain ⟨ts, dq⟩ := a
  replace hsz : ts.size = 57 := hsz
  replace h5 : ts.getD 5 undef = .pointer (some ⟨b5, 0, none⟩) := h5
  replace h6 : ts.getD 7 undef = .int .i64 k := h6
  obtain ⟨q, hq, hl2⟩ := lit57 ts hsz
  rw [hq] at h5 h6
  rw [h5, h6] at hl2
  clear hq h5 h6 hsz
  subst hl2
  have hc' : w.cell? ⟨b5, 2, none⟩ = some (.slice (some ⟨b, 0, none⟩) n cap) := by rw [cell?_eq]; exact hc
  obtain ⟨u0, hu0⟩ : ∃ u0, w.cell? ⟨b, k * 5, none⟩ = some u0 := by
    rw [cell?_eq]; unfold cellAt; rw [hb]
    have : k * 5 < cur.size := by rw [hcs]; omega
    exact ⟨cur[k * 5], by simp [this]⟩
  have hbs : b < w.heap.size := (Array.getElem?_eq_some_iff.1 hb).1
  have hfz : w.frozen? ⟨b, k * 5, none⟩ = false := by simp [World.frozen?, hb]
  have hk0 : (0 : Int) ≤ (k : Int) := Int.natCast_nonneg _
  have hk1 : (k : Int) < (n : Int) := by omega
  simp only [canQ, canFind, Tryz.f41, Option.getD_some, reduceIte, Nat.reduceEqDiff]
  go_wp2
  exact ⟨_, St1.of_set (w1 := w) (Frm.refl _ _ w) hbs rfl rfl rfl rfl, .str []⟩

end Go.Proofs.YtocmdbojefgpbaaGreatDoor
end

section
/- Canonical signatures: the function. -/
set_option linter.all false
set_option maxHeartbeats 1000000
set_option maxRecDepth 10000
namespace Go.Proofs.YtocmdbojefgpbaaGreatDoor
open Go Go.Pv
variable (g : Nat → Option (List AV)) (rnd : Bool)

theorem c_bind_Canon (s : Sg) (hw : wtG s ≤ 100000) (htab : g 3 = some pow10A) (hp : GlPlain (GT g)) : ValidU Tryz.prog (GT g) 42 [.agg (encG s)] (.agg (encGQ (canonG s))) := by
 have hw2 : s.name.length + 1 + wtFs s.fms + wtFs s.pms + wt s.res ≤ 100000 := hw
 have hl1 := wtFs_len s.fms
 have hl2 := wtFs_len s.pms
 obtain ⟨G, hG⟩ : ∃ G, (subG (fmNs s) (locTs s.fms.length) s) = G := ⟨_, rfl⟩
 have hG1 : G.fms.length = s.fms.length := by rw [← hG]; simp [subG]
 have hG2 : G.pms.length = s.pms.length := by rw [← hG]; simp [subG]
 refine validU_of [(3, 24)] Tryz.func42 rfl (by kernel_rfl) ?_
 refine sr fun Z z => ?_
 simp [row_map, encG, Tryz.f42]
 refine z _ ?_
 clear z Z
 refine sr fun Z z => ?_
 simp [row_map, encG]
 refine z _ ?_
 clear z Z
 refine AT_seq_k fun K1 hK1 => ?_
 refine sr fun Z z => ?_
 simp [row_map, encG]
 repeat refine sg ?_
 refine z _ ?_
 clear z Z
 refine AT_block ?_
 refine AT_loop_q [1,2,3,10,11] [1,2] (fun j st => ∃ k, k ≤ s.fms.length ∧ j = s.fms.length - k ∧ st = { n := 54, tm := [(1, .lp 1 0), (2, .lp 2 0), (3, .v (.slice ((locTs k).map encTy)) (some (3, 24))), (10, .v (.int .i64 s.fms.length) none), (11, .v (.int .i64 k) none)], bx := [(1, encG s), (2, [.str [], .slice [], .slice [], .str [], .slice [], .int .i64 0, .int .i64 0])], tb := [], sh := [], hint := [(3, 24)] }) (s.fms.length) (by first | rfl | simp) ?_ ?_
 exact ⟨0, by simp [encG, locTs]⟩
 rintro j st ⟨k, hk, rfl, rfl⟩ K2 hK2
 refine sr fun Z z => ?_
 simp [row_map, encG]
 repeat refine sg ?_
 refine z _ ?_
 clear z Z
 refine AT_seq_k fun K3 hK3 => ?_
 refine AT_cond (g := none) rfl (fun hb12 => ?_) (fun hb12 => ?_)
 try simp [row_map, encG] at hb12
 refine AT_skip ?_
 try simp only [nrm, reduceIte, Nat.reduceEqDiff]
 refine hK3 _ ?_
 refine AT_seq_k fun K4 hK4 => ?_
 refine AT_block ?_
 refine sr fun Z z => ?_
 simp [row_map, encG, hb12]
 refine z _ ?_
 clear z Z
 refine AT_region_q fun Z z => ?_
 simp [row_map, encG, hb12]
 repeat refine sg ?_
 refine RVn_call ((c_name_Local g false (k : Nat) (by omega) (by omega) htab).gl rfl) ?_
 simp [row_map, encG, hb12]
 repeat refine sg ?_
 refine z _ ?_
 clear z Z
 try simp only [nrm, reduceIte, Nat.reduceEqDiff]
 refine hK4 _ ?_
 refine AT_region_q fun Z z => ?_
 simp [row_map, encG, hb12]
 repeat refine sg ?_
 refine z _ ?_
 clear z Z
 try simp only [nrm, reduceIte, Nat.reduceEqDiff]
 refine hK2 _ (by first | rfl | simp) (s.fms.length - (k+1)) (by omega) ?_
 exact ⟨k+1, by omega, by omega, by simp [encG, locTs_succ, encTy_mk]⟩
 try simp [row_map, encG] at hb12
 refine AT_exit ?_
 try simp only [nrm, reduceIte, Nat.reduceEqDiff]
 refine hK1 _ ?_
 refine AT_seq_draw_m true [] Pt.mixed (by kernel_rfl) ⟨by simp [Im, okP, AS.get, look, TV.strip], fun _ => NoC_of (by simp [isCl])⟩ fun Z z => ?_
 have hk9 : k = s.fms.length := by omega
 subst hk9
 have hB : ∀ a ∈ locTs s.fms.length, wt a ≤ 1099511627776 := locTs_small (by omega)
 simp [row_map, encG, hb12]
 repeat refine sg ?_
 refine RVdn_call ((c_bind_Names g false s.fms (by omega)).gl rfl) ?_
 simp [row_map, encG, hb12]
 repeat refine sg ?_
 refine RVdn_call ((by have h := newG hp rfl (c_bind_Subst g false (fmNs s) (locTs s.fms.length) (by simp [fmNs]; omega) hB (by rw [locTs_len]; omega) s (by omega)) (argsP s); rw [hG] at h; simp only [encG, encTy_def, fmNs, List.map_map] at h; exact h)) ?_
 simp [row_map, encG, hb12]
 repeat refine sg ?_
 refine z _ ?_
 clear z Z
 refine AT_seq_k fun K5 hK5 => ?_
 refine sr fun Z z => ?_
 simp [row_map, encG, encGQ, hb12]
 repeat refine sg ?_
 refine z _ ?_
 clear z Z
 refine AT_block ?_
 refine AT_loop_q [2,5,29,30] [2,5] (fun j st => ∃ k, k ≤ G.fms.length ∧ j = G.fms.length - k ∧ st = { n := 54, tm := [(2, .lp 2 0), (5, .lp 5 0), (29, .v (.int .i64 G.fms.length) none), (30, .v (.int .i64 k) none)], bx := [(2, [.str [], .slice [], .slice [], .str [], .slice [], .int .i64 0, .int .i64 0]), (5, encGQ (can1 k G))], tb := [], sh := [], hint := [(3, 24)] }) (G.fms.length) (by first | rfl | simp) ?_ ?_
 exact ⟨0, by simp [can1_zero]; rfl⟩
 rintro j st ⟨k, hk, rfl, rfl⟩ K6 hK6
 refine sr fun Z z => ?_
 simp [row_map, encG, hb12]
 repeat refine sg ?_
 refine z _ ?_
 clear z Z
 refine AT_seq_k fun K7 hK7 => ?_
 refine AT_cond (g := none) rfl (fun hb31 => ?_) (fun hb31 => ?_)
 try simp [row_map, encG, hb12] at hb31
 refine AT_skip ?_
 try simp only [nrm, reduceIte, Nat.reduceEqDiff]
 refine hK7 _ ?_
 refine AT_seq_k fun K8 hK8 => ?_
 refine AT_block ?_
 refine sr fun Z z => ?_
 simp [row_map, encG, hb12, hb31]
 refine z _ ?_
 clear z Z
 have hkG : k < G.fms.length := by omega
 have hkH : G.fms.length ≤ 1000000000 := by omega
 refine AT_redo1 (c0 := encGQ (can1 k G)) [2, 5, 29, 30] [2, 5] 1 5 1 0 k (nmAV (renF (k + 1) G.fms)) (.str (locS (k : Nat))) (by first | rfl | simp) rfl rfl rfl (by first | rfl | simp [AS.keep, pick, look]) rfl (by decide) (by simp; exact hkG) (encFQ_row _) (by first | (· simp) | (simp; rfl)) (ren_at hkG) (ren_else (k := k) (l := G.fms)) (encFQ_lo (by decide) _) (by simp [AS.keep, pick, look]; first | (simp only [AS.killOk, List.all_cons, List.all_nil, encGQ_oo, Bool.and_true, Bool.true_and] <;> rfl) | simp [AS.killOk, AV.one]) rfl rfl ?_ (fun lim bl a w b cap cur hsz ht hlp hbx hgl hc hb hcs hn hcap hlb hbne => can_wp_of_eq (c := canR 11) (by kernel_rfl) (canW1 ((c_name_Local g false (k : Nat) (by omega) (by omega) htab).gl rfl) a w hsz (hlp 5 5 0 rfl) (rep_int (ht 6 (.int .i64 k) none rfl)) hgl hc hb hcs hn hcap (by simp; exact hkG) (by simp; exact hkH) hbne)) (by decide)
 simp [AS.redo, AS.keep, pick, look, TV.kill, AV.kill, AV.off, redo_ren]
 try simp only [nrm, reduceIte, Nat.reduceEqDiff]
 refine hK8 _ ?_
 refine AT_region_q fun Z z => ?_
 simp [row_map, encG, hb12, hb31]
 repeat refine sg ?_
 refine z _ ?_
 clear z Z
 try simp only [nrm, reduceIte, Nat.reduceEqDiff]
 refine hK6 _ (by first | rfl | simp) (G.fms.length - (k+1)) (by omega) ?_
 exact ⟨k+1, by omega, by omega, by simp⟩
 try simp [row_map, encG, hb12] at hb31
 refine AT_exit ?_
 try simp only [nrm, reduceIte, Nat.reduceEqDiff]
 refine hK5 _ ?_
 refine AT_seq_k fun K9 hK9 => ?_
 refine sr fun Z z => ?_
 simp [row_map, encG, encGQ, can1, hb12, hb31]
 repeat refine sg ?_
 refine z _ ?_
 clear z Z
 refine AT_block ?_
 refine AT_loop_q [2,5,43,44] [2,5] (fun j st => ∃ k, k ≤ G.pms.length ∧ j = G.pms.length - k ∧ st = { n := 54, tm := [(2, .lp 2 0), (5, .lp 5 0), (43, .v (.int .i64 G.pms.length) none), (44, .v (.int .i64 k) none)], bx := [(2, [.str [], .slice [], .slice [], .str [], .slice [], .int .i64 0, .int .i64 0]), (5, encGQ (can2 k (can1 G.fms.length G)))], tb := [], sh := [], hint := [(3, 24)] }) (G.pms.length) (by first | rfl | simp) ?_ ?_
 have hk9 : k = G.fms.length := by omega
 subst hk9
 exact ⟨0, by simp [can2_zero]; rfl⟩
 rintro j st ⟨k, hk, rfl, rfl⟩ K10 hK10
 refine sr fun Z z => ?_
 simp [row_map, encG, hb12, hb31]
 repeat refine sg ?_
 refine z _ ?_
 clear z Z
 refine AT_seq_k fun K11 hK11 => ?_
 refine AT_cond (g := none) rfl (fun hb45 => ?_) (fun hb45 => ?_)
 try simp [row_map, encG, hb12, hb31] at hb45
 refine AT_skip ?_
 try simp only [nrm, reduceIte, Nat.reduceEqDiff]
 refine hK11 _ ?_
 refine AT_seq_k fun K12 hK12 => ?_
 refine AT_block ?_
 refine sr fun Z z => ?_
 simp [row_map, encG, hb12, hb31, hb45]
 refine z _ ?_
 clear z Z
 have hkG : k < G.pms.length := by omega
 have hkH : G.pms.length ≤ 1000000000 := by omega
 refine AT_redo1 (c0 := encGQ (can2 k (can1 G.fms.length G))) [2, 5, 43, 44] [2, 5] 2 5 2 0 k (nmAV (barF (k + 1) (can1 G.fms.length G).pms)) (.str []) (by first | rfl | simp) rfl rfl rfl (by first | rfl | simp [AS.keep, pick, look]) rfl (by decide) (by simp; exact hkG) (encFQ_row _) (by first | (· simp) | (simp; rfl)) (bar_at hkG) (bar_else (k := k) (l := (can1 G.fms.length G).pms)) (encFQ_lo (by decide) _) (by simp [AS.keep, pick, look]; first | (simp only [AS.killOk, List.all_cons, List.all_nil, encGQ_oo, Bool.and_true, Bool.true_and] <;> rfl) | simp [AS.killOk, AV.one]) rfl rfl ?_ (fun lim bl a w b cap cur hsz ht hlp hbx hgl hc hb hcs hn hcap hlb hbne => can_wp_of_eq (c := canR 16) (by kernel_rfl) (canW2 a w hsz (hlp 5 5 0 rfl) (rep_int (ht 7 (.int .i64 k) none rfl))  hc hb hcs hn hcap (by simp; exact hkG) (by simp; exact hkH) hbne)) (by decide)
 simp [AS.redo, AS.keep, pick, look, TV.kill, AV.kill, AV.off, redo_bar, redo_bar2]
 try simp only [nrm, reduceIte, Nat.reduceEqDiff]
 refine hK12 _ ?_
 refine AT_region_q fun Z z => ?_
 simp [row_map, encG, hb12, hb31, hb45]
 repeat refine sg ?_
 refine z _ ?_
 clear z Z
 try simp only [nrm, reduceIte, Nat.reduceEqDiff]
 refine hK10 _ (by first | rfl | simp) (G.pms.length - (k+1)) (by omega) ?_
 exact ⟨k+1, by omega, by omega, by simp⟩
 try simp [row_map, encG, hb12, hb31] at hb45
 refine AT_exit ?_
 try simp only [nrm, reduceIte, Nat.reduceEqDiff]
 refine hK9 _ ?_
 refine sr fun Z z => ?_
 simp [row_map, encG, hb12, hb31, hb45]
 repeat refine sg ?_
 refine z _ ?_
 clear z Z
 refine AT_ret ?_
 simp [row_map, encG, Tryz.f42]
 have hk9 : k = G.pms.length := by omega
 subst hk9
 have hfin : encGQ (can2 G.pms.length (can1 G.fms.length G)) = encGQ (canonG s) := by rw [show canonG s = ⟨G.name, locFs G.fms, bareFs G.pms, G.res, G.pos⟩ by rw [← hG]; rfl, can_all]
 exact hfin

theorem c_bind_Canon_v (s : Sg) (hw : wtG s ≤ 100000) (htab : g 3 = some pow10A) (hp : GlPlain (GT g)) : Valid Tryz.prog (G0 g rnd) 42 [.agg (encG s)] (.agg (encG (canonG s))) := canon_plain hp rfl (c_bind_Canon g s hw htab hp)

end Go.Proofs.YtocmdbojefgpbaaGreatDoor
end

section
/- Canonical signatures: the reference. -/
set_option linter.all false
set_option maxHeartbeats 1000000
set_option maxRecDepth 10000
namespace Go.Proofs.YtocmdbojefgpbaaGreatDoor
open Go Go.Pv
variable (g : Nat → Option (List AV)) (rnd : Bool)

theorem c_ref10x_Names (l : List Fm) (hl : l.length ≤ 1000000000) : Valid Tryz.prog (G0 g rnd) 63 [.slice (l.map encF)] (.slice ((l.map Fm.name).map encS)) := by

 refine valid_of [(3, 9)] Tryz.func63 rfl (by kernel_rfl) ?_
 refine sr fun Z z => ?_
 simp [row_map, rows_take, encF, Tryz.f63]
 refine z _ ?_
 clear z Z
 refine sr fun Z z => ?_
 simp [row_map, rows_take, encF]
 refine z _ ?_
 clear z Z
 refine AT_seq_k fun K1 hK1 => ?_
 refine sr fun Z z => ?_
 simp [row_map, rows_take, encF]
 refine z _ ?_
 clear z Z
 refine AT_block ?_
 refine AT_loop_q [0,3,4] [] (fun j s => ∃ k, k ≤ l.length ∧ j = l.length - k ∧ s = { n := 20, tm := [(0, .v (.slice (l.map encF)) none), (3, .v (.slice (((l.take k).map Fm.name).map encS)) (some (3, 9))), (4, .v (.int .i64 k) none)], bx := [], tb := [], sh := [], hint := [(3, 9)] }) (l.length) (by first | rfl | simp) ?_ ?_
 exact ⟨0, by simp⟩
 rintro j s ⟨k, hk, rfl, rfl⟩ K2 hK2
 refine AT_seq_k fun K3 hK3 => ?_
 refine sr fun Z z => ?_
 simp [row_map, rows_take, encF]
 repeat refine sg ?_
 refine z _ ?_
 clear z Z
 refine AT_cond (g := none) rfl (fun hb8 => ?_) (fun hb8 => ?_)
 try simp [row_map, rows_take, encF] at hb8
 refine AT_skip ?_
 try simp only [nrm, reduceIte, Nat.reduceEqDiff]
 refine hK3 _ ?_
 refine AT_seq_k fun K4 hK4 => ?_
 refine AT_block ?_
 refine AT_region_q fun Z z => ?_
 simp [row_map, rows_take, encF, hb8]
 repeat refine sg ?_
 refine z _ ?_
 clear z Z
 try simp only [nrm, reduceIte, Nat.reduceEqDiff]
 refine hK4 _ ?_
 refine AT_region_q fun Z z => ?_
 simp [row_map, rows_take, encF, hb8]
 repeat refine sg ?_
 refine z _ ?_
 clear z Z
 try simp only [nrm, reduceIte, Nat.reduceEqDiff]
 refine hK2 _ (by first | rfl | simp) (l.length - (k+1)) (by omega) ?_
 have hk9 : k < l.length := by omega
 have hs2 := take_map_succ (encS ∘ Fm.name) l k hk9
 exact ⟨k+1, by omega, by omega, by simp [hs2, encS]⟩
 try simp [row_map, rows_take, encF] at hb8
 refine AT_exit ?_
 try simp only [nrm, reduceIte, Nat.reduceEqDiff]
 refine hK1 _ ?_
 refine sr fun Z z => ?_
 simp [row_map, rows_take, encF, hb8]
 refine z _ ?_
 clear z Z
 refine AT_ret ?_
 simp [row_map, rows_take, encF, Tryz.f63]
 rw [List.take_of_length_le (by simp; omega)]

theorem c_ref10x_Subst (ns : List Str) (as_ : List Ty) (hns : ns.length ≤ 1099511627776) (has : ∀ a ∈ as_, wt a ≤ 1099511627776) (hal : as_.length ≤ 1099511627776) (hnl : ns.length ≤ as_.length) (s : Sg) (hw : wtG s ≤ 1000000000) : Valid Tryz.prog (G0 g rnd) 62 [.agg (encG s), .slice (ns.map encS), .slice (as_.map encTy)] (.agg (encGM (subG ns as_ s))) := by
 have hw2 : s.name.length + 1 + wtFs s.fms + wtFs s.pms + wt s.res ≤ 1000000000 := hw
 have hl1 := wtFs_len s.fms
 have hl2 := wtFs_len s.pms
 have hez : esz Tryz.prog 72 = 5 := by kernel_rfl
 have hez2 : esz Tryz.prog 74 = 5 := by kernel_rfl
 refine valid_of [(107001, 72), (107002, 74)] Tryz.func62 rfl (by kernel_rfl) ?_
 refine sr fun Z z => ?_
 simp [row_map, encG, encF, Tryz.f62]
 refine z _ ?_
 clear z Z
 refine AT_seq_draw_last (by exact List.cons_ne_nil _ _) true [] Pt.mixed (by kernel_rfl) (by kernel_rfl) ⟨by simp [Im, okP, AS.get, look, TV.strip], fun _ => NoC_of (by simp [isCl])⟩ fun Z z => ?_
 simp [row_map, encG, encF]
 repeat refine sg ?_
 refine RVdn_call ((by have h := c_ref04x_Subst_m g rnd ns as_ hns has hal hnl s.res (by omega); simp only [encTy_def, encR_def] at h; exact h)) ?_
 simp [row_map, encG, encF]
 repeat refine sg ?_
 refine z _ _ (Gives.refl) fun Zb zb => ?_
 simp [row_map, encG, encF]
 repeat refine sg ?_
 refine zb _ ?_
 clear zb Zb
 clear z Z
 refine AT_seq_k fun K1 hK1 => ?_
 refine sr fun Z z => ?_
 simp [row_map, encG, encF]
 refine z _ ?_
 clear z Z
 refine AT_block ?_
 refine AT_loop_q [1,2,3,6,7,8] [3,6,7] (fun j st => ∃ k, k ≤ s.fms.length ∧ j = s.fms.length - k ∧ st = { n := 71, tm := [(1, .v (.slice (ns.map encS)) none), (2, .v (.slice (as_.map encTy)) none), (3, .lp 3 0), (6, .lp 6 0), (7, .lp 7 0), (8, .v (.int .i64 k) none)], bx := [(3, encG s), (6, [.str [], .slice [], .slice [], .str [], .slice [], .int .i64 0, .int .i64 0]), (7, [.str s.name, .slice (((s.fms.take k).map (mapFm (sub ns as_))).map encFM), .slice [], .str (sub ns as_ s.res).name, .fr 0 24 3 ((sub ns as_ s.res).args.map (encR 24 0)), .int .i64 (sub ns as_ s.res).pos, .int .i64 s.pos])], tb := [(7, 2, 107002, 74), (7, 1, 107001, 72)], sh := [], hint := [(107001, 72), (107002, 74)] }) (s.fms.length) (by first | rfl | simp) ?_ ?_
 exact ⟨0, by simp [encG]⟩
 rintro j st ⟨k, hk, rfl, rfl⟩ K2 hK2
 refine AT_seq_k fun K3 hK3 => ?_
 refine sr fun Z z => ?_
 simp [row_map, encG, encF]
 repeat refine sg ?_
 refine z _ ?_
 clear z Z
 refine AT_cond (g := none) rfl (fun hb26 => ?_) (fun hb26 => ?_)
 try simp [row_map, encG, encF] at hb26
 refine AT_skip ?_
 try simp only [nrm, reduceIte, Nat.reduceEqDiff]
 refine hK3 _ ?_
 refine AT_seq_k fun K4 hK4 => ?_
 refine AT_block ?_
 refine sr fun Z z => ?_
 simp [row_map, encG, encF, hb26]
 repeat refine sg ?_
 refine z _ ?_
 clear z Z
 refine sr fun Z z => ?_
 have hm9 := wtFs_mem (l := s.fms) (f := s.fms[k]) (by simp)
 have hm8 : wtF s.fms[k] = s.fms[k].name.length + 1 + wt s.fms[k].ty := rfl
 simp [row_map, encG, encF, hb26]
 repeat refine sg ?_
 refine RVn_call ((by have h := c_ref04x_Subst_m g rnd ns as_ hns has hal hnl s.fms[k].ty (by omega); simp only [encTy_def, encR_def] at h; exact h)) ?_
 simp [row_map, encG, encF, hb26]
 repeat refine sg ?_
 refine z _ ?_
 clear z Z
 refine AT_region_q fun Z z => ?_
 simp [row_map, encG, encF, hb26]
 repeat refine sg ?_
 refine z _ ?_
 clear z Z
 try simp only [nrm, reduceIte, Nat.reduceEqDiff]
 refine hK4 _ ?_
 refine AT_str (Gives.tb [(7, 2, 107002, 74), (7, 1, 107001, 72)] (by simp)) ?_
 simp
 refine AT_region_q fun Z z => ?_
 simp [row_map, encG, encF, hb26]
 repeat refine sg ?_
 refine z _ ?_
 clear z Z
 try simp only [nrm, reduceIte, Nat.reduceEqDiff]
 refine hK2 _ (by first | rfl | simp) (s.fms.length - (k+1)) (by omega) ?_
 have hk9 : k < s.fms.length := by omega
 have hs2 := take_map_succ (encFM ∘ mapFm (sub ns as_)) s.fms k hk9
 exact ⟨k+1, by omega, by omega, by simp [hs2, encG, encFM, mapFm]⟩
 try simp [row_map, encG, encF] at hb26
 refine AT_exit ?_
 try simp only [nrm, reduceIte, Nat.reduceEqDiff]
 refine hK1 _ ?_
 refine AT_seq_k fun K5 hK5 => ?_
 refine sr fun Z z => ?_
 have hk9 : s.fms.length ≤ k := by omega
 try rw [List.take_of_length_le hk9]
 simp [row_map, encG, encF, hb26]
 refine z _ ?_
 clear z Z
 refine AT_block ?_
 refine AT_loop_q [1,2,3,6,7,10] [3,6,7] (fun j st => ∃ k, k ≤ s.pms.length ∧ j = s.pms.length - k ∧ st = { n := 71, tm := [(1, .v (.slice (ns.map encS)) none), (2, .v (.slice (as_.map encTy)) none), (3, .lp 3 0), (6, .lp 6 0), (7, .lp 7 0), (10, .v (.int .i64 k) none)], bx := [(3, encG s), (6, [.str [], .slice [], .slice [], .str [], .slice [], .int .i64 0, .int .i64 0]), (7, [.str s.name, .slice ((s.fms.map (mapFm (sub ns as_))).map encFM), .slice (((s.pms.take k).map (mapFm (sub ns as_))).map encFM), .str (sub ns as_ s.res).name, .fr 0 24 3 ((sub ns as_ s.res).args.map (encR 24 0)), .int .i64 (sub ns as_ s.res).pos, .int .i64 s.pos])], tb := [(7, 2, 107002, 74), (7, 1, 107001, 72)], sh := [], hint := [(107001, 72), (107002, 74)] }) (s.pms.length) (by first | rfl | simp) ?_ ?_
 have hk8 : List.take k (List.map (encFM ∘ mapFm (sub ns as_)) s.fms) = List.map (encFM ∘ mapFm (sub ns as_)) s.fms := List.take_of_length_le (by simp; omega)
 exact ⟨0, by simp [encG, hk8]⟩
 rintro j st ⟨k, hk, rfl, rfl⟩ K6 hK6
 refine AT_seq_k fun K7 hK7 => ?_
 refine sr fun Z z => ?_
 simp [row_map, encG, encF, hb26]
 repeat refine sg ?_
 refine z _ ?_
 clear z Z
 refine AT_cond (g := none) rfl (fun hb50 => ?_) (fun hb50 => ?_)
 try simp [row_map, encG, encF, hb26] at hb50
 refine AT_skip ?_
 try simp only [nrm, reduceIte, Nat.reduceEqDiff]
 refine hK7 _ ?_
 refine AT_seq_k fun K8 hK8 => ?_
 refine AT_block ?_
 refine sr fun Z z => ?_
 simp [row_map, encG, encF, hb26, hb50]
 repeat refine sg ?_
 refine z _ ?_
 clear z Z
 refine sr fun Z z => ?_
 have hm9 := wtFs_mem (l := s.pms) (f := s.pms[k]) (by simp)
 have hm8 : wtF s.pms[k] = s.pms[k].name.length + 1 + wt s.pms[k].ty := rfl
 simp [row_map, encG, encF, hb26, hb50]
 repeat refine sg ?_
 refine RVn_call ((by have h := c_ref04x_Subst_m g rnd ns as_ hns has hal hnl s.pms[k].ty (by omega); simp only [encTy_def, encR_def] at h; exact h)) ?_
 simp [row_map, encG, encF, hb26, hb50]
 repeat refine sg ?_
 refine z _ ?_
 clear z Z
 refine AT_region_q fun Z z => ?_
 simp [row_map, encG, encF, hb26, hb50]
 repeat refine sg ?_
 refine z _ ?_
 clear z Z
 try simp only [nrm, reduceIte, Nat.reduceEqDiff]
 refine hK8 _ ?_
 refine AT_region_q fun Z z => ?_
 simp [row_map, encG, encF, hb26, hb50]
 repeat refine sg ?_
 refine z _ ?_
 clear z Z
 try simp only [nrm, reduceIte, Nat.reduceEqDiff]
 refine hK6 _ (by first | rfl | simp) (s.pms.length - (k+1)) (by omega) ?_
 have hk9 : k < s.pms.length := by omega
 have hs2 := take_map_succ (encFM ∘ mapFm (sub ns as_)) s.pms k hk9
 exact ⟨k+1, by omega, by omega, by simp [hs2, encG, encFM, mapFm]⟩
 try simp [row_map, encG, encF, hb26] at hb50
 refine AT_exit ?_
 try simp only [nrm, reduceIte, Nat.reduceEqDiff]
 refine hK5 _ ?_
 refine AT_sealB 7 1 107001 72 1 rfl (by rfl) (by rfl) (by simp) ?_
 simp [AS.purge, hez]
 refine AT_sealB 7 2 107002 74 2 rfl (by rfl) (by rfl) (by simp) ?_
 simp [AS.purge, hez2]
 refine sr fun Z z => ?_
 simp [row_map, encG, encF, hb26, hb50]
 repeat refine sg ?_
 refine z _ ?_
 clear z Z
 refine AT_ret ?_
 simp [row_map, encG, encF, Tryz.f62]
 rw [List.take_of_length_le (by simp; omega)]; simp [encGM, subG, mapFm]

end Go.Proofs.YtocmdbojefgpbaaGreatDoor
end
