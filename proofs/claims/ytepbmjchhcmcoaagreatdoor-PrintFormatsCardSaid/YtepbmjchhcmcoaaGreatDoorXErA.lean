import Derived.Test.YtepbmjchhcmcoaaGreatDoorPt
import Derived.Test.YtepbmjchhcmcoaaGreatDoorPvPb
import Derived.Test.YtepbmjchhcmcoaaGreatDoorPvY
import Derived.Test.YtepbmjchhcmcoaaGreatDoorXQaA
import Derived.LaidEql
import Derived.Stop.Asserts
import Derived.RowKitTokens
import Derived.WalkKit
section
/- Contracts: castingsref08: declarations of types. -/
set_option linter.all false
set_option maxHeartbeats 1000000
set_option maxRecDepth 10000
namespace Go.Proofs.YtepbmjchhcmcoaaGreatDoor
open Go Go.Pv
variable (g : Nat → Option (List AV)) (rnd : Bool)

theorem gives_retb {P : Program} {σ : AS} (tb' : List (Nat × Nat × Nat × Nat)) (h : ∀ q ∈ tb', q ∈ σ.tb) : Gives P σ { σ with tb := tb' } := fun cx a w hP r => by
  obtain ⟨gh, r⟩ := r
  exact ⟨gh, r.weak ⟨rfl, fun t x hx => ⟨hx, (r.tmps t x hx).2⟩, fun k c hk => hk, fun q hq => ⟨h q hq, (r.tbs q.1 q.2.1 q.2.2.1 q.2.2.2 (h q hq)).1⟩, fun b c hb => hb, rfl, rfl, rfl⟩⟩

theorem c_ref08x_typed (L : List Tk) (hE : EndsT L) (hn : L.length ≤ 1000000) (hL : ∀ t ∈ L, t.2.1.length ≤ 1000000) (p : Pl) (hk : p.k < L.length) : Valid Tryz.prog (G0 g false) 36 [.agg (encP L p)] (.tup [.agg (encP L (typedR L (typeR L (L.length + 1)) p).2), .agg (encD (typedR L (typeR L (L.length + 1)) p).1)]) := by
 have h1 := Pl.must_lt hE wType hk
 have h2 := Pl.name_lt hE h1.2
 have h3 := g_formals hE _ h2.2
 refine valid_of [(104003, 65), (104004, 41)] Tryz.func36 rfl (by kernel_rfl) ?_
 refine sr fun Z z => ?_
 simp [encP, encD, encG, encF, sg0, ex0, ty0, Tryz.f36]
 refine z _ ?_
 clear z Z
 refine sr fun Z z => ?_
 simp [encP, encD, encG, encF, sg0, ex0, ty0]
 refine z _ ?_
 clear z Z
 refine sr fun Z z => ?_
 simp [encP, encD, encG, encF, sg0, ex0, ty0, wType]
 refine RVn_call ((by have h := c_ref07x_Must g L hn p hk wType; simp only [encP] at h; first | exact h | (simp only [hub] at h; exact h) | (simp only [hnb] at h; exact h) | (rw [hb] at h; exact h))) ?_
 simp [encP, encD, encG, encF, sg0, ex0, ty0, wType]
 refine z _ ?_
 clear z Z
 refine sr fun Z z => ?_
 simp [encP, encD, encG, encF, sg0, ex0, ty0]
 refine RVn_call ((by have h := c_ref07x_Name g L hn (p.must L wType) h1.2 hL; simp only [encP] at h; first | exact h | (simp only [hub] at h; exact h) | (simp only [hnb] at h; exact h) | (rw [hb] at h; exact h))) ?_
 simp [encP, encD, encG, encF, sg0, ex0, ty0]
 refine z _ ?_
 clear z Z
 refine sr fun Z z => ?_
 simp [encP, encD, encG, encF, sg0, ex0, ty0]
 refine RVn_call ((by have h := c_ref08x_formals g L hE hn hL (Pl.name L (p.must L wType)) h2.2; simp only [encP] at h; first | exact h | (simp only [hub] at h; exact h) | (simp only [hnb] at h; exact h) | (rw [hb] at h; exact h))) ?_
 simp [encP, encD, encG, encF, sg0, ex0, ty0]
 refine z _ ?_
 clear z Z
 refine AT_seq_k fun K1 hK1 => ?_
 cases hnx : (formalsR L (typeR L (L.length + 1)) (Pl.name L (p.must L wType))).2.is L wInterface
 ·
  have h4 := Pl.must_lt hE wStruct h3.2
  have hU := Pl.must_lt hE [123] h4.2
  refine sr fun Z z => ?_
  simp [encP, encD, encG, encF, sg0, ex0, ty0, hnx]
  refine RVn_call ((by have h := c_ref07x_Is g L hn (formalsR L (typeR L (L.length + 1)) (Pl.name L (p.must L wType))).2 h3.2 wInterface; simp only [encP] at h; first | exact h | (simp only [hub] at h; exact h) | (simp only [hnb] at h; exact h) | (rw [hb] at h; exact h))) ?_
  simp [encP, encD, encG, encF, sg0, ex0, ty0, hnx]
  refine z _ ?_
  clear z Z
  refine cF (by simp [hnx]) ?_
  refine AT_region_q fun Z z => ?_
  simp [encP, encD, encG, encF, sg0, ex0, ty0, hnx]
  refine RVn_call ((by have h := c_ref07x_Must g L hn (formalsR L (typeR L (L.length + 1)) (Pl.name L (p.must L wType))).2 h3.2 wStruct; simp only [encP] at h; first | exact h | (simp only [hub] at h; exact h) | (simp only [hnb] at h; exact h) | (rw [hb] at h; exact h))) ?_
  simp [encP, encD, encG, encF, sg0, ex0, ty0, hnx]
  refine z _ ?_
  clear z Z
  refine hK1 _ ?_
  refine sr fun Z z => ?_
  simp [encP, encD, encG, encF, sg0, ex0, ty0, hnx]
  refine RVn_call ((by have h := c_ref07x_Must g L hn ((formalsR L (typeR L (L.length + 1)) (Pl.name L (p.must L wType))).2.must L wStruct) h4.2 [123]; simp only [encP] at h; first | exact h | (simp only [hub] at h; exact h) | (simp only [hnb] at h; exact h) | (rw [hb] at h; exact h))) ?_
  simp [encP, encD, encG, encF, sg0, ex0, ty0, hnx]
  refine z _ ?_
  clear z Z
  refine AT_seq_k fun K2 hK2 => ?_
  refine AT_block ?_
  refine AT_loop_q [1,2,3,4] [1,2,3,4] (fun j s => ∃ u acc m, untilR L (itemR L (typeR L (L.length + 1))) (((formalsR L (typeR L (L.length + 1)) (Pl.name L (p.must L wType))).2.must L wStruct).must L [123]) = (acc ++ (untilL L (itemR L (typeR L (L.length + 1))) m u).1, (untilL L (itemR L (typeR L (L.length + 1))) m u).2) ∧ (u.k < L.length ∧ (u.bad = false → L.length - u.k ≤ m) ∧ acc.length + m ≤ L.length) ∧ j = m ∧ s = { n := 89, tm := [(1, .lp 1 0), (2, .lp 2 0), (3, .lp 3 0), (4, .lp 4 0)], bx := [(1, encP L u), (2, [.slice [], .int .i64 0, .bool false]), (3, encD ⟨0, [], [], [], [], [], [], sg0, ex0, 0⟩), (4, encD ⟨1, (p.must L wType).nm L, (formalsR L (typeR L (L.length + 1)) (Pl.name L (p.must L wType))).1, acc, [], [], [], sg0, ex0, (p.must L wType).at_ L⟩)], tb := [(4, 4, 104004, 41), (4, 3, 104003, 65)], sh := [], hint := [(104003, 65), (104004, 41)] }) (L.length - (((formalsR L (typeR L (L.length + 1)) (Pl.name L (p.must L wType))).2.must L wStruct).must L [123]).k) (by first | rfl | simp) ?_ ?_
  ·
   exact ⟨(((formalsR L (typeR L (L.length + 1)) (Pl.name L (p.must L wType))).2.must L wStruct).must L [123]), [], L.length - (((formalsR L (typeR L (L.length + 1)) (Pl.name L (p.must L wType))).2.must L wStruct).must L [123]).k, by simp [untilR], ⟨hU.2, fun _ => Nat.le_refl _, by simp⟩, rfl, by simp [encS, encD, encG, encF, sg0, ex0, ty0, encTy_def, encE_mk, encE_def, encP, Pl.adv]⟩
  ·
   rintro j s ⟨u, acc, m, hq, ⟨hu1, hu2, hu3⟩, hjm, rfl⟩ K3 hK3
   subst hjm
   have hg := g_item hE u hu1
   have hm9 := Pl.must_lt hE [59] hg.2
   have hun := Pl.name_lt hE hu1
   refine AT_seq_k fun K4 hK4 => ?_
   cases hub : u.bad
   ·
    cases h125 : u.is L [125]
    ·
     have hu4 := hu2 hub
     obtain ⟨m, rfl⟩ : ∃ i, j = i + 1 := ⟨j - 1, by omega⟩
     refine sr fun Z z => ?_
     simp [encP, encD, encG, encF, sg0, ex0, ty0, hnx, hub, h125]
     refine RVn_call ((by have h := c_ref07x_Is g L hn u hu1 [125]; simp only [encP] at h; first | exact h | (simp only [hub] at h; exact h) | (simp only [hnb] at h; exact h) | (rw [hb] at h; exact h))) ?_
     simp [encP, encD, encG, encF, sg0, ex0, ty0, hnx, hub, h125]
     repeat refine sg ?_
     refine z _ ?_
     clear z Z
     refine cT (by simp [hnx, hub, h125]) ?_
     refine AT_skip ?_
     refine hK4 _ ?_
     refine AT_block ?_
     refine AT_seq_k fun K5 hK5 => ?_
     refine sr fun Z z => ?_
     simp [encP, encD, encG, encF, sg0, ex0, ty0, hnx, hub, h125]
     refine z _ ?_
     clear z Z
     refine cF (by simp [hnx, hub, h125]) ?_
     refine sr fun Z z => ?_
     simp [encP, encD, encG, encF, sg0, ex0, ty0, hnx, hub, h125]
     refine z _ ?_
     clear z Z
     refine sr fun Z z => ?_
     simp [encP, encD, encG, encF, sg0, ex0, ty0, hnx, hub, h125]
     refine RVn_call ((by have h := c_ref07x_Name g L hn u hu1 hL; simp only [encP] at h; first | exact h | (simp only [hub] at h; exact h) | (simp only [hnb] at h; exact h) | (rw [hb] at h; exact h))) ?_
     simp [encP, encD, encG, encF, sg0, ex0, ty0, hnx, hub, h125]
     refine z _ ?_
     clear z Z
     refine AT_seq_k fun K6 hK6 => ?_
     cases hnb : (u.name L).bad
     ·
      have hit := itemR_ok (rT := (typeR L (L.length + 1))) hnb
      have hi2 := congrArg Prod.snd hit
      simp only [] at hi2
      refine sr fun Z z => ?_
      simp [encP, encD, encG, encF, sg0, ex0, ty0, hnx, hub, h125, hnb]
      refine z _ ?_
      clear z Z
      refine cT (by simp [hnx, hub, h125, hnb]) ?_
      refine AT_region_q fun Z z => ?_
      simp [encP, encD, encG, encF, sg0, ex0, ty0, encTy_def, hnx, hub, h125, hnb]
      refine RVn_call ((by have h := c_ref07x_Type g L hE hn hL (L.length + 1) (u.name L) (by omega) hun.2; simp only [encP] at h; first | exact h | (simp only [hub] at h; exact h) | (simp only [hnb] at h; exact h) | (rw [hb] at h; exact h))) ?_
      simp [encP, encD, encG, encF, sg0, ex0, ty0, encTy_def, hnx, hub, h125, hnb]
      refine z _ ?_
      clear z Z
      refine hK6 _ ?_
      refine AT_region_q fun Z z => ?_
      simp [encP, encD, encG, encF, sg0, ex0, ty0, hnx, hub, h125, hnb]
      repeat refine sg ?_
      refine z _ ?_
      clear z Z
      refine hK5 _ ?_
      refine AT_str (gives_retb [(4, 4, 104004, 41), (4, 3, 104003, 65)] (by simp)) ?_
      refine AT_region_q fun Z z => ?_
      simp [encP, encD, encG, encF, sg0, ex0, ty0, hnx, hub, h125, hnb]
      refine RVn_call ((by have h := c_ref07x_Must g L hn ((itemR L (typeR L (L.length + 1))) u).2 hg.2 [59]; rw [hi2] at h; simp only [encP] at h; first | exact h | (simp only [hub] at h; exact h) | (simp only [hnb] at h; exact h) | (rw [hb] at h; exact h))) ?_
      simp [encP, encD, encG, encF, sg0, ex0, ty0, hnx, hub, h125, hnb]
      refine z _ ?_
      clear z Z
      refine hK3 _ (by first | rfl | simp) (m) (by omega) ?_
      refine ⟨((itemR L (typeR L (L.length + 1))) u).2.must L [59], acc ++ [((itemR L (typeR L (L.length + 1))) u).1], m, by rw [hq, untilL_go _ hub h125]; simp, ⟨hm9.2, until_left (g_item hE) hu1 (hu2 hub), by simp; omega⟩, rfl, ?_⟩
      rw [hit]; simp [encS, encD, encG, encF, sg0, ex0, ty0, encTy_def, encE_mk, encE_def, encP]
     ·
      have hit := itemR_no (rT := (typeR L (L.length + 1))) hnb
      have hi2 := congrArg Prod.snd hit
      simp only [] at hi2
      refine sr fun Z z => ?_
      simp [encP, encD, encG, encF, sg0, ex0, ty0, hnx, hub, h125, hnb]
      refine z _ ?_
      clear z Z
      refine cF (by simp [hnx, hub, h125, hnb]) ?_
      refine AT_skip ?_
      refine hK6 _ ?_
      refine AT_region_q fun Z z => ?_
      simp [encP, encD, encG, encF, sg0, ex0, ty0, hnx, hub, h125, hnb]
      repeat refine sg ?_
      refine z _ ?_
      clear z Z
      refine hK5 _ ?_
      refine AT_str (gives_retb [(4, 4, 104004, 41), (4, 3, 104003, 65)] (by simp)) ?_
      refine AT_region_q fun Z z => ?_
      simp [encP, encD, encG, encF, sg0, ex0, ty0, hnx, hub, h125, hnb]
      refine RVn_call ((by have h := c_ref07x_Must g L hn ((itemR L (typeR L (L.length + 1))) u).2 hg.2 [59]; rw [hi2] at h; simp only [encP] at h; first | exact h | (simp only [hub] at h; exact h) | (simp only [hnb] at h; exact h) | (rw [hb] at h; exact h))) ?_
      simp [encP, encD, encG, encF, sg0, ex0, ty0, hnx, hub, h125, hnb]
      refine z _ ?_
      clear z Z
      refine hK3 _ (by first | rfl | simp) (m) (by omega) ?_
      refine ⟨((itemR L (typeR L (L.length + 1))) u).2.must L [59], acc ++ [((itemR L (typeR L (L.length + 1))) u).1], m, by rw [hq, untilL_go _ hub h125]; simp, ⟨hm9.2, until_left (g_item hE) hu1 (hu2 hub), by simp; omega⟩, rfl, ?_⟩
      rw [hit]; simp [encS, encD, encG, encF, sg0, ex0, ty0, encTy_def, encE_mk, encE_def, encP]
    ·
     have hz : untilR L (itemR L (typeR L (L.length + 1))) (((formalsR L (typeR L (L.length + 1)) (Pl.name L (p.must L wType))).2.must L wStruct).must L [123]) = (acc, u) := by rw [hq, untilL_end _ (.inr h125)]; simp
     refine sr fun Z z => ?_
     simp [encP, encD, encG, encF, sg0, ex0, ty0, hnx, hub, h125]
     refine RVn_call ((by have h := c_ref07x_Is g L hn u hu1 [125]; simp only [encP] at h; first | exact h | (simp only [hub] at h; exact h) | (simp only [hnb] at h; exact h) | (rw [hb] at h; exact h))) ?_
     simp [encP, encD, encG, encF, sg0, ex0, ty0, hnx, hub, h125]
     repeat refine sg ?_
     refine z _ ?_
     clear z Z
     refine cF (by simp [hnx, hub, h125]) ?_
     refine AT_exit ?_
     refine hK2 _ ?_
     refine sr fun Z z => ?_
     simp [encP, encD, encG, encF, sg0, ex0, ty0, hnx, hub, h125]
     refine RVn_call ((by have h := c_ref07x_Must g L hn u hu1 [125]; simp only [encP] at h; first | exact h | (simp only [hub] at h; exact h) | (simp only [hnb] at h; exact h) | (rw [hb] at h; exact h))) ?_
     simp [encP, encD, encG, encF, sg0, ex0, ty0, hnx, hub, h125]
     refine z _ ?_
     clear z Z
     refine AT_seq_draw_m false [(1, 1), (2, 2), (3, 3), (4, 4)] Pt.mixed (by kernel_rfl) ⟨by simp [Im, okP, AS.get, look, TV.strip], fun h => by cases h⟩ fun Z z => ?_
     simp [encP, encD, encG, encF, sg0, ex0, ty0, hnx, hub, h125]
     refine RVdn_call ((by have h := c_ref07x_Must g L hn (u.must L [125]) (Pl.must_lt hE [125] hu1).2 [59]; simp only [encP] at h; first | exact h | (simp only [hub] at h; exact h) | (simp only [hnb] at h; exact h) | (rw [hb] at h; exact h))) ?_
     simp [encP, encD, encG, encF, sg0, ex0, ty0, hnx, hub, h125]
     refine z _ ?_
     clear z Z
     refine AT_ret ?_
     simp [encP, encD, encG, encF, sg0, ex0, ty0, Tryz.f36]
     all_goals first | (· simp [typedR, typedH, hnx, hz, encS, encD, encG, encF, sg0, ex0, ty0, encTy_def, encE_mk, encE_def, encP]) | skip
   ·
    have hz : untilR L (itemR L (typeR L (L.length + 1))) (((formalsR L (typeR L (L.length + 1)) (Pl.name L (p.must L wType))).2.must L wStruct).must L [123]) = (acc, u) := by rw [hq, untilL_end _ (.inl hub)]; simp
    refine sr fun Z z => ?_
    simp [encP, encD, encG, encF, sg0, ex0, ty0, hnx, hub]
    refine z _ ?_
    clear z Z
    refine cF (by simp [hnx, hub]) ?_
    refine AT_exit ?_
    refine hK2 _ ?_
    refine sr fun Z z => ?_
    simp [encP, encD, encG, encF, sg0, ex0, ty0, hnx, hub]
    refine RVn_call ((by have h := c_ref07x_Must g L hn u hu1 [125]; simp only [encP] at h; first | exact h | (simp only [hub] at h; exact h) | (simp only [hnb] at h; exact h) | (rw [hb] at h; exact h))) ?_
    simp [encP, encD, encG, encF, sg0, ex0, ty0, hnx, hub]
    refine z _ ?_
    clear z Z
    refine AT_seq_draw_m false [(1, 1), (2, 2), (3, 3), (4, 4)] Pt.mixed (by kernel_rfl) ⟨by simp [Im, okP, AS.get, look, TV.strip], fun h => by cases h⟩ fun Z z => ?_
    simp [encP, encD, encG, encF, sg0, ex0, ty0, hnx, hub]
    refine RVdn_call ((by have h := c_ref07x_Must g L hn (u.must L [125]) (Pl.must_lt hE [125] hu1).2 [59]; simp only [encP] at h; first | exact h | (simp only [hub] at h; exact h) | (simp only [hnb] at h; exact h) | (rw [hb] at h; exact h))) ?_
    simp [encP, encD, encG, encF, sg0, ex0, ty0, hnx, hub]
    refine z _ ?_
    clear z Z
    refine AT_ret ?_
    simp [encP, encD, encG, encF, sg0, ex0, ty0, Tryz.f36]
    all_goals first | (· simp [typedR, typedH, hnx, hz, encS, encD, encG, encF, sg0, ex0, ty0, encTy_def, encE_mk, encE_def, encP]) | skip
 ·
  have h4 : (formalsR L (typeR L (L.length + 1)) (Pl.name L (p.must L wType))).2.adv.k < L.length := Pl.adv_lt hE h3.2 hnx
  have hU := Pl.must_lt hE [123] h4
  refine sr fun Z z => ?_
  simp [encP, encD, encG, encF, sg0, ex0, ty0, hnx]
  refine RVn_call ((by have h := c_ref07x_Is g L hn (formalsR L (typeR L (L.length + 1)) (Pl.name L (p.must L wType))).2 h3.2 wInterface; simp only [encP] at h; first | exact h | (simp only [hub] at h; exact h) | (simp only [hnb] at h; exact h) | (rw [hb] at h; exact h))) ?_
  simp [encP, encD, encG, encF, sg0, ex0, ty0, hnx]
  refine z _ ?_
  clear z Z
  refine cT (by simp [hnx]) ?_
  refine sr fun Z z => ?_
  simp [encP, encD, encG, encF, sg0, ex0, ty0, hnx]
  refine z _ ?_
  clear z Z
  refine AT_region_q fun Z z => ?_
  simp [encP, encD, encG, encF, sg0, ex0, ty0, hnx]
  repeat refine sg ?_
  refine z _ ?_
  clear z Z
  refine hK1 _ ?_
  refine sr fun Z z => ?_
  simp [encP, encD, encG, encF, sg0, ex0, ty0, hnx]
  refine RVn_call ((by have h := c_ref07x_Must g L hn (formalsR L (typeR L (L.length + 1)) (Pl.name L (p.must L wType))).2.adv h4 [123]; simp only [encP, Pl.adv] at h; first | exact h | (simp only [hub] at h; exact h) | (simp only [hnb] at h; exact h) | (rw [hb] at h; exact h))) ?_
  simp [encP, encD, encG, encF, sg0, ex0, ty0, hnx]
  refine z _ ?_
  clear z Z
  refine AT_seq_k fun K7 hK7 => ?_
  refine AT_block ?_
  refine AT_loop_q [1,2,3,4] [1,2,3,4] (fun j s => ∃ u acc m, untilR L (sigR L (typeR L (L.length + 1))) ((formalsR L (typeR L (L.length + 1)) (Pl.name L (p.must L wType))).2.adv.must L [123]) = (acc ++ (untilL L (sigR L (typeR L (L.length + 1))) m u).1, (untilL L (sigR L (typeR L (L.length + 1))) m u).2) ∧ (u.k < L.length ∧ (u.bad = false → L.length - u.k ≤ m) ∧ acc.length + m ≤ L.length) ∧ j = m ∧ s = { n := 89, tm := [(1, .lp 1 0), (2, .lp 2 0), (3, .lp 3 0), (4, .lp 4 0)], bx := [(1, encP L u), (2, [.slice [], .int .i64 0, .bool false]), (3, encD ⟨0, [], [], [], [], [], [], sg0, ex0, 0⟩), (4, encD ⟨2, (p.must L wType).nm L, (formalsR L (typeR L (L.length + 1)) (Pl.name L (p.must L wType))).1, [], acc, [], [], sg0, ex0, (p.must L wType).at_ L⟩)], tb := [(4, 4, 104004, 41), (4, 3, 104003, 65)], sh := [], hint := [(104003, 65), (104004, 41)] }) (L.length - ((formalsR L (typeR L (L.length + 1)) (Pl.name L (p.must L wType))).2.adv.must L [123]).k) (by first | rfl | simp) ?_ ?_
  ·
   exact ⟨((formalsR L (typeR L (L.length + 1)) (Pl.name L (p.must L wType))).2.adv.must L [123]), [], L.length - ((formalsR L (typeR L (L.length + 1)) (Pl.name L (p.must L wType))).2.adv.must L [123]).k, by simp [untilR], ⟨hU.2, fun _ => Nat.le_refl _, by simp⟩, rfl, by simp [encS, encD, encG, encF, sg0, ex0, ty0, encTy_def, encE_mk, encE_def, encP, Pl.adv]⟩
  ·
   rintro j s ⟨u, acc, m, hq, ⟨hu1, hu2, hu3⟩, hjm, rfl⟩ K8 hK8
   subst hjm
   have hg := g_sig hE u hu1
   have hm9 := Pl.must_lt hE [59] hg.2
   have hun := Pl.name_lt hE hu1
   refine AT_seq_k fun K9 hK9 => ?_
   cases hub : u.bad
   ·
    cases h125 : u.is L [125]
    ·
     have hu4 := hu2 hub
     obtain ⟨m, rfl⟩ : ∃ i, j = i + 1 := ⟨j - 1, by omega⟩
     refine sr fun Z z => ?_
     simp [encP, encD, encG, encF, sg0, ex0, ty0, hnx, hub, h125]
     refine RVn_call ((by have h := c_ref07x_Is g L hn u hu1 [125]; simp only [encP] at h; first | exact h | (simp only [hub] at h; exact h) | (simp only [hnb] at h; exact h) | (rw [hb] at h; exact h))) ?_
     simp [encP, encD, encG, encF, sg0, ex0, ty0, hnx, hub, h125]
     repeat refine sg ?_
     refine z _ ?_
     clear z Z
     refine cT (by simp [hnx, hub, h125]) ?_
     refine AT_skip ?_
     refine hK9 _ ?_
     refine AT_block ?_
     refine AT_seq_k fun K10 hK10 => ?_
     refine sr fun Z z => ?_
     simp [encP, encD, encG, encF, sg0, ex0, ty0, hnx, hub, h125]
     refine z _ ?_
     clear z Z
     refine cT (by simp [hnx, hub, h125]) ?_
     refine sr fun Z z => ?_
     simp [encP, encD, encG, encF, sg0, ex0, ty0, hnx, hub, h125]
     refine z _ ?_
     clear z Z
     refine sr fun Z z => ?_
     simp [encP, encD, encG, encF, sg0, ex0, ty0, hnx, hub, h125]
     refine RVn_call ((by have h := c_ref08x_sig g L hE hn hL u hu1; simp only [encP] at h; first | exact h | (simp only [hub] at h; exact h) | (simp only [hnb] at h; exact h) | (rw [hb] at h; exact h))) ?_
     simp [encP, encD, encG, encF, sg0, ex0, ty0, hnx, hub, h125]
     refine z _ ?_
     clear z Z
     refine AT_region_q fun Z z => ?_
     simp [encP, encD, encG, encF, sg0, ex0, ty0, hnx, hub, h125]
     repeat refine sg ?_
     refine z _ ?_
     clear z Z
     refine hK10 _ ?_
     refine AT_region_q fun Z z => ?_
     simp [encP, encD, encG, encF, sg0, ex0, ty0, hnx, hub, h125]
     refine RVn_call ((by have h := c_ref07x_Must g L hn ((sigR L (typeR L (L.length + 1))) u).2 hg.2 [59]; simp only [encP] at h; first | exact h | (simp only [hub] at h; exact h) | (simp only [hnb] at h; exact h) | (rw [hb] at h; exact h))) ?_
     simp [encP, encD, encG, encF, sg0, ex0, ty0, hnx, hub, h125]
     refine z _ ?_
     clear z Z
     refine hK8 _ (by first | rfl | simp) (m) (by omega) ?_
     refine ⟨((sigR L (typeR L (L.length + 1))) u).2.must L [59], acc ++ [((sigR L (typeR L (L.length + 1))) u).1], m, by rw [hq, untilL_go _ hub h125]; simp, ⟨hm9.2, until_left (g_sig hE) hu1 (hu2 hub), by simp; omega⟩, rfl, ?_⟩
     simp [encS, encD, encG, encF, sg0, ex0, ty0, encTy_def, encE_mk, encE_def, encP]
    ·
     have hz : untilR L (sigR L (typeR L (L.length + 1))) ((formalsR L (typeR L (L.length + 1)) (Pl.name L (p.must L wType))).2.adv.must L [123]) = (acc, u) := by rw [hq, untilL_end _ (.inr h125)]; simp
     refine sr fun Z z => ?_
     simp [encP, encD, encG, encF, sg0, ex0, ty0, hnx, hub, h125]
     refine RVn_call ((by have h := c_ref07x_Is g L hn u hu1 [125]; simp only [encP] at h; first | exact h | (simp only [hub] at h; exact h) | (simp only [hnb] at h; exact h) | (rw [hb] at h; exact h))) ?_
     simp [encP, encD, encG, encF, sg0, ex0, ty0, hnx, hub, h125]
     repeat refine sg ?_
     refine z _ ?_
     clear z Z
     refine cF (by simp [hnx, hub, h125]) ?_
     refine AT_exit ?_
     refine hK7 _ ?_
     refine sr fun Z z => ?_
     simp [encP, encD, encG, encF, sg0, ex0, ty0, hnx, hub, h125]
     refine RVn_call ((by have h := c_ref07x_Must g L hn u hu1 [125]; simp only [encP] at h; first | exact h | (simp only [hub] at h; exact h) | (simp only [hnb] at h; exact h) | (rw [hb] at h; exact h))) ?_
     simp [encP, encD, encG, encF, sg0, ex0, ty0, hnx, hub, h125]
     refine z _ ?_
     clear z Z
     refine AT_seq_draw_m false [(1, 1), (2, 2), (3, 3), (4, 4)] Pt.mixed (by kernel_rfl) ⟨by simp [Im, okP, AS.get, look, TV.strip], fun h => by cases h⟩ fun Z z => ?_
     simp [encP, encD, encG, encF, sg0, ex0, ty0, hnx, hub, h125]
     refine RVdn_call ((by have h := c_ref07x_Must g L hn (u.must L [125]) (Pl.must_lt hE [125] hu1).2 [59]; simp only [encP] at h; first | exact h | (simp only [hub] at h; exact h) | (simp only [hnb] at h; exact h) | (rw [hb] at h; exact h))) ?_
     simp [encP, encD, encG, encF, sg0, ex0, ty0, hnx, hub, h125]
     refine z _ ?_
     clear z Z
     refine AT_ret ?_
     simp [encP, encD, encG, encF, sg0, ex0, ty0, Tryz.f36]
     all_goals first | (· simp [typedR, typedH, hnx, hz, encS, encD, encG, encF, sg0, ex0, ty0, encTy_def, encE_mk, encE_def, encP]) | skip
   ·
    have hz : untilR L (sigR L (typeR L (L.length + 1))) ((formalsR L (typeR L (L.length + 1)) (Pl.name L (p.must L wType))).2.adv.must L [123]) = (acc, u) := by rw [hq, untilL_end _ (.inl hub)]; simp
    refine sr fun Z z => ?_
    simp [encP, encD, encG, encF, sg0, ex0, ty0, hnx, hub]
    refine z _ ?_
    clear z Z
    refine cF (by simp [hnx, hub]) ?_
    refine AT_exit ?_
    refine hK7 _ ?_
    refine sr fun Z z => ?_
    simp [encP, encD, encG, encF, sg0, ex0, ty0, hnx, hub]
    refine RVn_call ((by have h := c_ref07x_Must g L hn u hu1 [125]; simp only [encP] at h; first | exact h | (simp only [hub] at h; exact h) | (simp only [hnb] at h; exact h) | (rw [hb] at h; exact h))) ?_
    simp [encP, encD, encG, encF, sg0, ex0, ty0, hnx, hub]
    refine z _ ?_
    clear z Z
    refine AT_seq_draw_m false [(1, 1), (2, 2), (3, 3), (4, 4)] Pt.mixed (by kernel_rfl) ⟨by simp [Im, okP, AS.get, look, TV.strip], fun h => by cases h⟩ fun Z z => ?_
    simp [encP, encD, encG, encF, sg0, ex0, ty0, hnx, hub]
    refine RVdn_call ((by have h := c_ref07x_Must g L hn (u.must L [125]) (Pl.must_lt hE [125] hu1).2 [59]; simp only [encP] at h; first | exact h | (simp only [hub] at h; exact h) | (simp only [hnb] at h; exact h) | (rw [hb] at h; exact h))) ?_
    simp [encP, encD, encG, encF, sg0, ex0, ty0, hnx, hub]
    refine z _ ?_
    clear z Z
    refine AT_ret ?_
    simp [encP, encD, encG, encF, sg0, ex0, ty0, Tryz.f36]
    all_goals first | (· simp [typedR, typedH, hnx, hz, encS, encD, encG, encF, sg0, ex0, ty0, encTy_def, encE_mk, encE_def, encP]) | skip

end Go.Proofs.YtepbmjchhcmcoaaGreatDoor
end

section
/- Contracts: castingsref08: methods, words. -/
set_option linter.all false
set_option maxHeartbeats 1000000
set_option maxRecDepth 10000
namespace Go.Proofs.YtepbmjchhcmcoaaGreatDoor
open Go Go.Pv
variable (g : Nat → Option (List AV)) (rnd : Bool)

theorem c_ref08x_words (L : List Tk) (hE : EndsT L) (hn : L.length ≤ 1000000) (p : Pl) (hk : p.k < L.length) (ws : List Str) (hw : ws.length ≤ 1000) : Valid Tryz.prog (G0 g false) 34 [.agg (encP L p), .slice (ws.map encS)] (.agg (encP L (wordsR L ws p))) := by

 refine valid_of [] Tryz.func34 rfl (by kernel_rfl) ?_
 refine sr fun Z z => ?_
 simp [encP, row_map, encS, Tryz.f34]
 refine z _ ?_
 clear z Z
 refine AT_seq_k fun K1 hK1 => ?_
 refine sr fun Z z => ?_
 simp [encP, row_map, encS]
 refine z _ ?_
 clear z Z
 refine AT_block ?_
 refine AT_loop_q [1,2,4,5] [2,4] (fun j s => ∃ k u, k ≤ ws.length ∧ (wordsR L ws p = wordsR L (ws.drop k) u ∧ u.k < L.length) ∧ j = ws.length - k ∧ s = { n := 19, tm := [(1, .v (.slice (ws.map encS)) none), (2, .lp 2 0), (4, .lp 4 0), (5, .v (.int .i64 k) none)], bx := [(2, encP L u), (4, [.slice [], .int .i64 0, .bool false])], tb := [], sh := [], hint := [] }) (ws.length) (by first | rfl | simp) ?_ ?_
 exact ⟨0, p, by simp, ⟨by simp, hk⟩, by simp, by simp [encP]⟩
 rintro j s ⟨k, u, hk9, ⟨hc, hu⟩, rfl, rfl⟩ K2 hK2
 refine AT_seq_k fun K3 hK3 => ?_
 refine sr fun Z z => ?_
 simp [encP, row_map, encS]
 refine z _ ?_
 clear z Z
 refine AT_cond (g := none) rfl (fun hb9 => ?_) (fun hb9 => ?_)
 simp [encP, row_map, encS] at hb9
 refine AT_skip ?_
 refine hK3 _ ?_
 refine AT_seq_k fun K4 hK4 => ?_
 refine AT_block ?_
 refine AT_draw_q Pt.mixed (by kernel_rfl) fun Z z => ?_
 have hk8 : k < ws.length := by omega
 have hda := List.drop_eq_getElem_cons hk8
 simp [encP, row_map, encS, hb9]
 refine RVdn_call ((by have h := c_ref07x_Must g L hn u hu ws[k]; simp only [encP] at h; first | exact h | (simp only [hub] at h; exact h) | (simp only [hnb] at h; exact h) | (rw [hb] at h; exact h))) ?_
 simp [encP, row_map, encS, hb9]
 refine z _ ?_
 clear z Z
 refine hK4 _ ?_
 refine AT_region_q fun Z z => ?_
 simp [encP, row_map, encS, hb9]
 repeat refine sg ?_
 refine z _ ?_
 clear z Z
 refine hK2 _ (by first | rfl | simp) (ws.length - (k+1)) (by omega) ?_
 refine ⟨k+1, u.must L ws[k], by omega, ⟨by rw [hc, hda, wordsR_cons], (Pl.must_lt hE _ hu).2⟩, by omega, by simp [encP]⟩
 simp [encP, row_map, encS] at hb9
 refine AT_exit ?_
 refine hK1 _ ?_
 refine sr fun Z z => ?_
 simp [encP, row_map, encS, hb9]
 refine z _ ?_
 clear z Z
 refine AT_ret ?_
 simp [encP, row_map, encS, Tryz.f34]
 have hz : wordsR L ws p = u := by rw [hc, List.drop_eq_nil_of_le (by omega)]; rfl
 simp [hz, encP]

theorem c_ref08x_method (L : List Tk) (hE : EndsT L) (hn : L.length ≤ 1000000) (hL : ∀ t ∈ L, t.2.1.length ≤ 1000000) (p : Pl) (hk : p.k < L.length) : Valid Tryz.prog (G0 g false) 37 [.agg (encP L p)] (.tup [.agg (encP L (methodR L (typeR L (L.length + 1)) (exprR L (L.length + 1)) p).2), .agg (encD (methodR L (typeR L (L.length + 1)) (exprR L (L.length + 1)) p).1)]) := by
 have h1 := Pl.must_lt hE wFunc hk
 have h2 := Pl.must_lt hE [40] h1.2
 have h3 := Pl.name_lt hE h2.2
 have h4 := Pl.name_lt hE h3.2
 obtain ⟨v, hv⟩ : ∃ v, v = recvR L (Pl.name L (Pl.name L ((p.must L wFunc).must L [40]))) := ⟨_, rfl⟩
 have h5 : v.2.k < L.length := by rw [hv]; exact (g_recv hE _ h4.2).2
 have h6 := Pl.must_lt hE [41] h5
 have h7 := g_sig hE _ h6.2
 have h8 := Pl.must_lt hE [123] h7.2
 have h9 := Pl.must_lt hE wReturn h8.2
 have h10 := g_ex hE _ h9.2
 have h11 := Pl.must_lt hE [125] h10.2
 refine valid_of [(104006, 9)] Tryz.func37 rfl (by kernel_rfl) ?_
 refine sr fun Z z => ?_
 simp [encP, encD, encG, encS, sg0, ex0, ty0, Tryz.f37]
 refine z _ ?_
 clear z Z
 refine sr fun Z z => ?_
 simp [encP, encD, encG, encS, sg0, ex0, ty0]
 refine z _ ?_
 clear z Z
 refine sr fun Z z => ?_
 simp [encP, encD, encG, encS, sg0, ex0, ty0]
 refine RVn_call ((by have h := c_ref07x_Must g L hn p hk wFunc; simp only [encP] at h; first | exact h | (simp only [hub] at h; exact h) | (simp only [hnb] at h; exact h) | (rw [hb] at h; exact h))) ?_
 simp [encP, encD, encG, encS, sg0, ex0, ty0]
 refine z _ ?_
 clear z Z
 refine sr fun Z z => ?_
 simp [encP, encD, encG, encS, sg0, ex0, ty0]
 refine RVn_call ((by have h := c_ref07x_Must g L hn (p.must L wFunc) h1.2 [40]; simp only [encP] at h; first | exact h | (simp only [hub] at h; exact h) | (simp only [hnb] at h; exact h) | (rw [hb] at h; exact h))) ?_
 simp [encP, encD, encG, encS, sg0, ex0, ty0]
 refine z _ ?_
 clear z Z
 refine sr fun Z z => ?_
 simp [encP, encD, encG, encS, sg0, ex0, ty0]
 refine RVn_call ((by have h := c_ref07x_Name g L hn ((p.must L wFunc).must L [40]) h2.2 hL; simp only [encP] at h; first | exact h | (simp only [hub] at h; exact h) | (simp only [hnb] at h; exact h) | (rw [hb] at h; exact h))) ?_
 simp [encP, encD, encG, encS, sg0, ex0, ty0]
 refine z _ ?_
 clear z Z
 refine sr fun Z z => ?_
 simp [encP, encD, encG, encS, sg0, ex0, ty0]
 refine RVn_call ((by have h := c_ref07x_Name g L hn (Pl.name L ((p.must L wFunc).must L [40])) h3.2 hL; simp only [encP] at h; first | exact h | (simp only [hub] at h; exact h) | (simp only [hnb] at h; exact h) | (rw [hb] at h; exact h))) ?_
 simp [encP, encD, encG, encS, sg0, ex0, ty0]
 refine z _ ?_
 clear z Z
 refine sr fun Z z => ?_
 simp [encP, encD, encG, encS, sg0, ex0, ty0]
 refine z _ ?_
 clear z Z
 refine AT_seq_k fun K1 hK1 => ?_
 refine AT_block ?_
 refine AT_loop_q [1,2,3,4,5] [1,2,3,4] (fun j s => ∃ q9 u acc m, varsG L [91] (L.length - (Pl.name L (Pl.name L ((p.must L wFunc).must L [40]))).k) (Pl.name L (Pl.name L ((p.must L wFunc).must L [40]))) = (acc ++ (varsG L q9 m u).1, (varsG L q9 m u).2) ∧ (u.k < L.length ∧ L.length - u.k ≤ m ∧ acc.length + m ≤ L.length) ∧ ((q9 = [91] ∧ u = (Pl.name L (Pl.name L ((p.must L wFunc).must L [40]))) ∧ acc = []) ∨ (q9 = [44] ∧ (Pl.name L (Pl.name L ((p.must L wFunc).must L [40]))).is L [91] = true)) ∧ j = m ∧ s = { n := 74, tm := [(1, .lp 1 0), (2, .lp 2 0), (3, .lp 3 0), (4, .lp 4 0), (5, .v (.str q9) none)], bx := [(1, encP L u), (2, [.slice [], .int .i64 0, .bool false]), (3, encD ⟨0, [], [], [], [], [], [], sg0, ex0, 0⟩), (4, encD ⟨3, (Pl.name L ((p.must L wFunc).must L [40])).nm L, [], [], [], ((p.must L wFunc).must L [40]).nm L, acc, sg0, ex0, (Pl.name L ((p.must L wFunc).must L [40])).at_ L⟩)], tb := [(4, 6, 104006, 9)], sh := [], hint := [(104006, 9)] }) (L.length - (Pl.name L (Pl.name L ((p.must L wFunc).must L [40]))).k) (by first | rfl | simp) ?_ ?_
 ·
  exact ⟨[91], (Pl.name L (Pl.name L ((p.must L wFunc).must L [40]))), [], L.length - (Pl.name L (Pl.name L ((p.must L wFunc).must L [40]))).k, by simp, ⟨h4.2, Nat.le_refl _, by simp⟩, .inl ⟨rfl, rfl, rfl⟩, rfl, by simp [encS, encD, encG, encF, sg0, ex0, ty0, encTy_def, encE_mk, encE_def, encP]⟩
 ·
  rintro j s ⟨q9, u, acc, m, hq, ⟨hu1, hu2, hu3⟩, hsg, hjm, rfl⟩ K2 hK2
  subst hjm
  have his9 := c_ref07x_Is g L hn u hu1 q9
  refine AT_seq_k fun K3 hK3 => ?_
  cases hsi : u.is L q9
  ·
   have hq2 : varsG L [91] (L.length - (Pl.name L (Pl.name L ((p.must L wFunc).must L [40]))).k) (Pl.name L (Pl.name L ((p.must L wFunc).must L [40]))) = (acc, u) := by rw [hq, varsG_end hsi]; simp
   rcases hsg with ⟨rfl, hs2, rfl⟩ | ⟨rfl, hy91⟩
   ·
    have hv2 : v = ([], u) := by rw [hv, ← hs2, recvR_no hsi]
    have hv3 := congrArg Prod.snd hv2
    simp only [] at hv3
    have hv4 := congrArg Prod.fst hv2
    simp only [] at hv4
    refine sr fun Z z => ?_
    simp [encP, encD, encG, encS, sg0, ex0, ty0, hsi]
    refine RVn_call ((by have h := his9; simp only [encP] at h; first | exact h | (simp only [hub] at h; exact h) | (simp only [hnb] at h; exact h) | (rw [hb] at h; exact h))) ?_
    simp [encP, encD, encG, encS, sg0, ex0, ty0, hsi]
    refine z _ ?_
    clear z Z
    refine cF (by simp [hsi]) ?_
    refine AT_exit ?_
    refine hK1 _ ?_
    refine AT_seq_k fun K4 hK4 => ?_
    refine sr fun Z z => ?_
    simp [encP, encD, encG, encS, sg0, ex0, ty0, hsi]
    refine z _ ?_
    clear z Z
    refine cF (by simp [hsi]) ?_
    refine AT_skip ?_
    refine hK4 _ ?_
    refine sr fun Z z => ?_
    simp [encP, encD, encG, encS, sg0, ex0, ty0, hsi]
    refine RVn_call ((by have h := c_ref07x_Must g L hn v.2 h5 [41]; rw [hv3] at h; simp only [encP] at h; first | exact h | (simp only [hub] at h; exact h) | (simp only [hnb] at h; exact h) | (rw [hb] at h; exact h))) ?_
    simp [encP, encD, encG, encS, sg0, ex0, ty0, hsi]
    refine z _ ?_
    clear z Z
    refine sr fun Z z => ?_
    simp [encP, encD, encG, encS, sg0, ex0, ty0, hsi]
    refine RVn_call ((by have h := c_ref08x_sig g L hE hn hL (v.2.must L [41]) h6.2; rw [hv3] at h; simp only [encP] at h; first | exact h | (simp only [hub] at h; exact h) | (simp only [hnb] at h; exact h) | (rw [hb] at h; exact h))) ?_
    simp [encP, encD, encG, encS, sg0, ex0, ty0, hsi]
    refine z _ ?_
    clear z Z
    refine sr fun Z z => ?_
    simp [encP, encD, encG, encS, sg0, ex0, ty0, hsi]
    refine RVn_call ((by have h := c_ref07x_Must g L hn (sigR L (typeR L (L.length + 1)) (v.2.must L [41])).2 h7.2 [123]; rw [hv3] at h; simp only [encP] at h; first | exact h | (simp only [hub] at h; exact h) | (simp only [hnb] at h; exact h) | (rw [hb] at h; exact h))) ?_
    simp [encP, encD, encG, encS, sg0, ex0, ty0, hsi]
    refine RVn_call ((by have h := c_ref07x_Must g L hn ((sigR L (typeR L (L.length + 1)) (v.2.must L [41])).2.must L [123]) h8.2 wReturn; rw [hv3] at h; simp only [encP] at h; first | exact h | (simp only [hub] at h; exact h) | (simp only [hnb] at h; exact h) | (rw [hb] at h; exact h))) ?_
    simp [encP, encD, encG, encS, sg0, ex0, ty0, hsi]
    refine z _ ?_
    clear z Z
    refine AT_seq_k fun K5 hK5 => ?_
    cases hb : (((sigR L (typeR L (L.length + 1)) (v.2.must L [41])).2.must L [123]).must L wReturn).bad
    ·
     have hex := exR_ok (rE := (exprR L (L.length + 1))) hb
     refine sr fun Z z => ?_
     rw [← hv3]
     simp [encP, encD, encG, encS, sg0, ex0, ty0, hsi, hb]
     refine z _ ?_
     clear z Z
     refine cT (by simp [hsi, hb]) ?_
     refine AT_region_q fun Z z => ?_
     simp [encP, encD, encG, encS, sg0, ex0, ty0, encE_def, hsi, hb]
     refine RVn_call ((by have h := c_ref07x_Expr g L hE hn hL (L.length + 1) (((sigR L (typeR L (L.length + 1)) (v.2.must L [41])).2.must L [123]).must L wReturn) (by omega) h9.2; simp only [encP] at h; first | exact h | (simp only [hub] at h; exact h) | (simp only [hnb] at h; exact h) | (rw [hb] at h; exact h))) ?_
     simp [encP, encD, encG, encS, sg0, ex0, ty0, encE_def, hsi, hb]
     refine z _ ?_
     clear z Z
     refine hK5 _ ?_
     refine AT_seq_draw_m false [(1, 1), (2, 2), (3, 3), (4, 4)] Pt.mixed (by kernel_rfl) ⟨by simp [Im, okP, AS.get, look, TV.strip], fun h => by cases h⟩ fun Z z => ?_
     simp [encP, encD, encG, encS, sg0, ex0, ty0, hsi, hb]
     refine RVdn_call ((by have h := c_ref07x_Must g L hn (exR (exprR L (L.length + 1)) (((sigR L (typeR L (L.length + 1)) (v.2.must L [41])).2.must L [123]).must L wReturn)).2 h10.2 [125]; rw [hex] at h; simp only [encP] at h; first | exact h | (simp only [hub] at h; exact h) | (simp only [hnb] at h; exact h) | (rw [hb] at h; exact h))) ?_
     simp [encP, encD, encG, encS, sg0, ex0, ty0, hsi, hb]
     refine RVdn_call ((by have h := c_ref07x_Must g L hn ((exR (exprR L (L.length + 1)) (((sigR L (typeR L (L.length + 1)) (v.2.must L [41])).2.must L [123]).must L wReturn)).2.must L [125]) h11.2 [59]; rw [hex] at h; simp only [encP] at h; first | exact h | (simp only [hub] at h; exact h) | (simp only [hnb] at h; exact h) | (rw [hb] at h; exact h))) ?_
     simp [encP, encD, encG, encS, sg0, ex0, ty0, hsi, hb]
     refine z _ ?_
     clear z Z
     refine AT_ret ?_
     simp [encP, encD, encG, encS, sg0, ex0, ty0, Tryz.f37]
     all_goals first | (· simp [methodR, ← hv, hex, hv4, encS, encD, encG, encF, sg0, ex0, ty0, encTy_def, encE_mk, encE_def, encP]) | skip
    ·
     have hex := exR_no (rE := (exprR L (L.length + 1))) hb
     refine sr fun Z z => ?_
     rw [← hv3]
     simp [encP, encD, encG, encS, sg0, ex0, ty0, hsi, hb]
     refine z _ ?_
     clear z Z
     refine cF (by simp [hsi, hb]) ?_
     refine AT_skip ?_
     refine hK5 _ ?_
     refine AT_seq_draw_m false [(1, 1), (2, 2), (3, 3), (4, 4)] Pt.mixed (by kernel_rfl) ⟨by simp [Im, okP, AS.get, look, TV.strip], fun h => by cases h⟩ fun Z z => ?_
     simp [encP, encD, encG, encS, sg0, ex0, ty0, hsi, hb]
     refine RVdn_call ((by have h := c_ref07x_Must g L hn (exR (exprR L (L.length + 1)) (((sigR L (typeR L (L.length + 1)) (v.2.must L [41])).2.must L [123]).must L wReturn)).2 h10.2 [125]; rw [hex] at h; simp only [encP] at h; first | exact h | (simp only [hub] at h; exact h) | (simp only [hnb] at h; exact h) | (rw [hb] at h; exact h))) ?_
     simp [encP, encD, encG, encS, sg0, ex0, ty0, hsi, hb]
     refine RVdn_call ((by have h := c_ref07x_Must g L hn ((exR (exprR L (L.length + 1)) (((sigR L (typeR L (L.length + 1)) (v.2.must L [41])).2.must L [123]).must L wReturn)).2.must L [125]) h11.2 [59]; rw [hex] at h; simp only [encP] at h; first | exact h | (simp only [hub] at h; exact h) | (simp only [hnb] at h; exact h) | (rw [hb] at h; exact h))) ?_
     simp [encP, encD, encG, encS, sg0, ex0, ty0, hsi, hb]
     refine z _ ?_
     clear z Z
     refine AT_ret ?_
     simp [encP, encD, encG, encS, sg0, ex0, ty0, Tryz.f37]
     all_goals first | (· simp [methodR, ← hv, hex, hv4, encS, encD, encG, encF, sg0, ex0, ty0, encTy_def, encE_mk, encE_def, encP]) | skip
   ·
    have hv2 : v = (acc, u.must L [93]) := by rw [hv, recvR_yes hy91, hq2]
    have hv3 := congrArg Prod.snd hv2
    simp only [] at hv3
    have hv4 := congrArg Prod.fst hv2
    simp only [] at hv4
    refine sr fun Z z => ?_
    simp [encP, encD, encG, encS, sg0, ex0, ty0, hsi]
    refine RVn_call ((by have h := his9; simp only [encP] at h; first | exact h | (simp only [hub] at h; exact h) | (simp only [hnb] at h; exact h) | (rw [hb] at h; exact h))) ?_
    simp [encP, encD, encG, encS, sg0, ex0, ty0, hsi]
    refine z _ ?_
    clear z Z
    refine cF (by simp [hsi]) ?_
    refine AT_exit ?_
    refine hK1 _ ?_
    refine AT_seq_k fun K6 hK6 => ?_
    refine sr fun Z z => ?_
    simp [encP, encD, encG, encS, sg0, ex0, ty0, hsi]
    refine z _ ?_
    clear z Z
    refine cT (by simp [hsi]) ?_
    refine AT_region_q fun Z z => ?_
    simp [encP, encD, encG, encS, sg0, ex0, ty0, hsi]
    refine RVn_call ((by have h := c_ref07x_Must g L hn u hu1 [93]; simp only [encP] at h; first | exact h | (simp only [hub] at h; exact h) | (simp only [hnb] at h; exact h) | (rw [hb] at h; exact h))) ?_
    simp [encP, encD, encG, encS, sg0, ex0, ty0, hsi]
    refine z _ ?_
    clear z Z
    refine hK6 _ ?_
    refine sr fun Z z => ?_
    simp [encP, encD, encG, encS, sg0, ex0, ty0, hsi]
    refine RVn_call ((by have h := c_ref07x_Must g L hn v.2 h5 [41]; rw [hv3] at h; simp only [encP] at h; first | exact h | (simp only [hub] at h; exact h) | (simp only [hnb] at h; exact h) | (rw [hb] at h; exact h))) ?_
    simp [encP, encD, encG, encS, sg0, ex0, ty0, hsi]
    refine z _ ?_
    clear z Z
    refine sr fun Z z => ?_
    simp [encP, encD, encG, encS, sg0, ex0, ty0, hsi]
    refine RVn_call ((by have h := c_ref08x_sig g L hE hn hL (v.2.must L [41]) h6.2; rw [hv3] at h; simp only [encP] at h; first | exact h | (simp only [hub] at h; exact h) | (simp only [hnb] at h; exact h) | (rw [hb] at h; exact h))) ?_
    simp [encP, encD, encG, encS, sg0, ex0, ty0, hsi]
    refine z _ ?_
    clear z Z
    refine sr fun Z z => ?_
    simp [encP, encD, encG, encS, sg0, ex0, ty0, hsi]
    refine RVn_call ((by have h := c_ref07x_Must g L hn (sigR L (typeR L (L.length + 1)) (v.2.must L [41])).2 h7.2 [123]; rw [hv3] at h; simp only [encP] at h; first | exact h | (simp only [hub] at h; exact h) | (simp only [hnb] at h; exact h) | (rw [hb] at h; exact h))) ?_
    simp [encP, encD, encG, encS, sg0, ex0, ty0, hsi]
    refine RVn_call ((by have h := c_ref07x_Must g L hn ((sigR L (typeR L (L.length + 1)) (v.2.must L [41])).2.must L [123]) h8.2 wReturn; rw [hv3] at h; simp only [encP] at h; first | exact h | (simp only [hub] at h; exact h) | (simp only [hnb] at h; exact h) | (rw [hb] at h; exact h))) ?_
    simp [encP, encD, encG, encS, sg0, ex0, ty0, hsi]
    refine z _ ?_
    clear z Z
    refine AT_seq_k fun K7 hK7 => ?_
    cases hb : (((sigR L (typeR L (L.length + 1)) (v.2.must L [41])).2.must L [123]).must L wReturn).bad
    ·
     have hex := exR_ok (rE := (exprR L (L.length + 1))) hb
     refine sr fun Z z => ?_
     rw [← hv3]
     simp [encP, encD, encG, encS, sg0, ex0, ty0, hsi, hb]
     refine z _ ?_
     clear z Z
     refine cT (by simp [hsi, hb]) ?_
     refine AT_region_q fun Z z => ?_
     simp [encP, encD, encG, encS, sg0, ex0, ty0, encE_def, hsi, hb]
     refine RVn_call ((by have h := c_ref07x_Expr g L hE hn hL (L.length + 1) (((sigR L (typeR L (L.length + 1)) (v.2.must L [41])).2.must L [123]).must L wReturn) (by omega) h9.2; simp only [encP] at h; first | exact h | (simp only [hub] at h; exact h) | (simp only [hnb] at h; exact h) | (rw [hb] at h; exact h))) ?_
     simp [encP, encD, encG, encS, sg0, ex0, ty0, encE_def, hsi, hb]
     refine z _ ?_
     clear z Z
     refine hK7 _ ?_
     refine AT_seq_draw_m false [(1, 1), (2, 2), (3, 3), (4, 4)] Pt.mixed (by kernel_rfl) ⟨by simp [Im, okP, AS.get, look, TV.strip], fun h => by cases h⟩ fun Z z => ?_
     simp [encP, encD, encG, encS, sg0, ex0, ty0, hsi, hb]
     refine RVdn_call ((by have h := c_ref07x_Must g L hn (exR (exprR L (L.length + 1)) (((sigR L (typeR L (L.length + 1)) (v.2.must L [41])).2.must L [123]).must L wReturn)).2 h10.2 [125]; rw [hex] at h; simp only [encP] at h; first | exact h | (simp only [hub] at h; exact h) | (simp only [hnb] at h; exact h) | (rw [hb] at h; exact h))) ?_
     simp [encP, encD, encG, encS, sg0, ex0, ty0, hsi, hb]
     refine RVdn_call ((by have h := c_ref07x_Must g L hn ((exR (exprR L (L.length + 1)) (((sigR L (typeR L (L.length + 1)) (v.2.must L [41])).2.must L [123]).must L wReturn)).2.must L [125]) h11.2 [59]; rw [hex] at h; simp only [encP] at h; first | exact h | (simp only [hub] at h; exact h) | (simp only [hnb] at h; exact h) | (rw [hb] at h; exact h))) ?_
     simp [encP, encD, encG, encS, sg0, ex0, ty0, hsi, hb]
     refine z _ ?_
     clear z Z
     refine AT_ret ?_
     simp [encP, encD, encG, encS, sg0, ex0, ty0, Tryz.f37]
     all_goals first | (· simp [methodR, ← hv, hex, hv4, encS, encD, encG, encF, sg0, ex0, ty0, encTy_def, encE_mk, encE_def, encP]) | skip
    ·
     have hex := exR_no (rE := (exprR L (L.length + 1))) hb
     refine sr fun Z z => ?_
     rw [← hv3]
     simp [encP, encD, encG, encS, sg0, ex0, ty0, hsi, hb]
     refine z _ ?_
     clear z Z
     refine cF (by simp [hsi, hb]) ?_
     refine AT_skip ?_
     refine hK7 _ ?_
     refine AT_seq_draw_m false [(1, 1), (2, 2), (3, 3), (4, 4)] Pt.mixed (by kernel_rfl) ⟨by simp [Im, okP, AS.get, look, TV.strip], fun h => by cases h⟩ fun Z z => ?_
     simp [encP, encD, encG, encS, sg0, ex0, ty0, hsi, hb]
     refine RVdn_call ((by have h := c_ref07x_Must g L hn (exR (exprR L (L.length + 1)) (((sigR L (typeR L (L.length + 1)) (v.2.must L [41])).2.must L [123]).must L wReturn)).2 h10.2 [125]; rw [hex] at h; simp only [encP] at h; first | exact h | (simp only [hub] at h; exact h) | (simp only [hnb] at h; exact h) | (rw [hb] at h; exact h))) ?_
     simp [encP, encD, encG, encS, sg0, ex0, ty0, hsi, hb]
     refine RVdn_call ((by have h := c_ref07x_Must g L hn ((exR (exprR L (L.length + 1)) (((sigR L (typeR L (L.length + 1)) (v.2.must L [41])).2.must L [123]).must L wReturn)).2.must L [125]) h11.2 [59]; rw [hex] at h; simp only [encP] at h; first | exact h | (simp only [hub] at h; exact h) | (simp only [hnb] at h; exact h) | (rw [hb] at h; exact h))) ?_
     simp [encP, encD, encG, encS, sg0, ex0, ty0, hsi, hb]
     refine z _ ?_
     clear z Z
     refine AT_ret ?_
     simp [encP, encD, encG, encS, sg0, ex0, ty0, Tryz.f37]
     all_goals first | (· simp [methodR, ← hv, hex, hv4, encS, encD, encG, encF, sg0, ex0, ty0, encTy_def, encE_mk, encE_def, encP]) | skip
  ·
   obtain ⟨m, rfl⟩ : ∃ i, j = i + 1 := ⟨j - 1, by omega⟩
   have hub := (Pl.is_bad hsi).1
   have hua : u.adv.k < L.length := Pl.adv_lt hE hu1 hsi
   have hun := Pl.name_lt hE hua
   have hak : u.adv.k = u.k + 1 := rfl
   refine sr fun Z z => ?_
   simp [encP, encD, encG, encS, sg0, ex0, ty0, hsi]
   refine RVn_call ((by have h := his9; simp only [encP] at h; first | exact h | (simp only [hub] at h; exact h) | (simp only [hnb] at h; exact h) | (rw [hb] at h; exact h))) ?_
   simp [encP, encD, encG, encS, sg0, ex0, ty0, hsi]
   refine z _ ?_
   clear z Z
   refine cT (by simp [hsi]) ?_
   refine AT_skip ?_
   refine hK3 _ ?_
   refine AT_block ?_
   refine sr fun Z z => ?_
   simp [encP, encD, encG, encS, sg0, ex0, ty0, hsi]
   refine z _ ?_
   clear z Z
   refine sr fun Z z => ?_
   simp [encP, encD, encG, encS, sg0, ex0, ty0, hsi]
   repeat refine sg ?_
   refine z _ ?_
   clear z Z
   refine sr fun Z z => ?_
   simp [encP, encD, encG, encS, sg0, ex0, ty0, hsi]
   refine RVn_call ((by have h := c_ref07x_Name g L hn u.adv hua hL; simp only [encP, Pl.adv] at h; first | exact h | (simp only [hub] at h; exact h) | (simp only [hnb] at h; exact h) | (rw [hb] at h; exact h))) ?_
   simp [encP, encD, encG, encS, sg0, ex0, ty0, hsi]
   refine z _ ?_
   clear z Z
   refine sr fun Z z => ?_
   simp [encP, encD, encG, encS, sg0, ex0, ty0, hsi]
   repeat refine sg ?_
   refine z _ ?_
   clear z Z
   refine AT_region_q fun Z z => ?_
   simp [encP, encD, encG, encS, sg0, ex0, ty0, hsi]
   refine z _ ?_
   clear z Z
   refine hK2 _ (by first | rfl | simp) (m) (by omega) ?_
   refine ⟨[44], u.adv.name L, acc ++ [u.adv.nm L], m, by rw [hq, varsG_step hsi]; simp, ⟨hun.2, by omega, by simp; omega⟩, .inr ⟨rfl, hsg.elim (fun h => by rw [← h.2.1, ← h.1]; exact hsi) (fun h => h.2)⟩, rfl, by simp [encS, encD, encG, encF, sg0, ex0, ty0, encTy_def, encE_mk, encE_def, encP, Pl.adv]⟩

end Go.Proofs.YtepbmjchhcmcoaaGreatDoor
end

section
/- errors.As at the targets that the package fault has, and what fault.Code and fault.At hand back. -/
set_option linter.all false
set_option maxHeartbeats 1000000
set_option maxRecDepth 10000
namespace Go.Proofs.YtepbmjchhcmcoaaGreatDoor
open Go Go.Pv
variable (g : Nat → Option (List AV)) (rnd : Bool)

open Go.RowKit Go.Extern.Stop Go.Stop Go.Extern
theorem er_rlm (z : Sem Value) (f : TypeId → Addr → Nat → Nat → Sem Value) (v : Value) :
    ReflectliteValue.method z f #[v] = (do match ← ReflectliteValue.parts v with | none => z | some (t, a, fl) => f t a fl (fl % 32)) := rfl
theorem er_rls (v x : Value) : ReflectliteValue.set #[v, x] = (do
    let (some (dst, a, fl), some (src, b, _)) := (← ReflectliteValue.parts v, ← ReflectliteValue.parts x)
      | unsupported (.noEntry "extern/(internal/reflectlite.Value).Set.zeroValue")
    if fl / ReflectliteValue.flagAddr % 2 == 0 then unsupported (.noEntry "extern/(internal/reflectlite.Value).Set.unaddressable")
    let val ← loadVar src b
    if ← Rtype.directlyAssignable dst src then storeVar dst a val
    else if ← Rtype.implements dst src then
      if (← Rtype.kind src) == 20 then
        match val with
        | .nilIface => unsupported (.noEntry "extern/reflectlite: a nil value of one interface type handed on as a value of another")
        | _ => storeVar dst a val
      else storeVar dst a (.iface src val)
    else panicString ("reflectlite.Set: value of type " ++ (← Rtype.spelt src) ++ " is not assignable to type " ++ (← Rtype.spelt dst))
    pure (.tuple #[])) := rfl
theorem er_valueOfPCode (t : Addr) (w : World) : (ReflectliteValue.unpack (.iface 90 (.pointer (some t)))).run Tryz.prog w = .ok (.agg #[.pointer (some ⟨3, 90, none⟩), .pointer (some ⟨w.heap.size, 0, none⟩), .int .u64 150]) (w.alloc (.cells #[.pointer (some t)] 90)) := by kernel_rfl
theorem er_typeCode (a : Addr) (w : World) : (ReflectliteValue.methodAny (ReflectliteValue.valueError "reflectlite.Value.Type" 0) (fun t _ _ _ => ReflectliteType.toType t) #[.agg #[.pointer (some ⟨3, 90, none⟩), .pointer (some a), .int .u64 150]]).run Tryz.prog w = .ok (.iface 177 (.agg #[.pointer (some ⟨3, 90, none⟩)])) w := by kernel_rfl
theorem er_kindPCode (w : World) : ((ReflectliteType.abiMethod fun t => (fun a : Nat => Value.int IntKind.u8 (a : Int)) <$> Rtype.kind t) #[.pointer (some ⟨3, 90, none⟩)]).run Tryz.prog w = .ok (.int .u8 22) w := by kernel_rfl
theorem er_kindCode (w : World) : ((ReflectliteType.abiMethod fun t => (fun a : Nat => Value.int IntKind.u8 (a : Int)) <$> Rtype.kind t) #[.pointer (some ⟨3, 50, none⟩)]).run Tryz.prog w = .ok (.int .u8 2) w := by kernel_rfl
theorem er_partsCode (a : Addr) (w : World) : (ReflectliteValue.parts (.agg #[.pointer (some ⟨3, 90, none⟩), .pointer (some a), .int .u64 150])).run Tryz.prog w = .ok (some (90, a, 150)) w := by kernel_rfl
theorem er_isNilCode (a p : Addr) (W : World) (ha : W.cell? a = some (.pointer (some p))) :
    (ReflectliteValue.method (ReflectliteValue.valueError "reflectlite.Value.IsNil" 0) ReflectliteValue.isNil #[.agg #[.pointer (some ⟨3, 90, none⟩), .pointer (some a), .int .u64 150]]).run Tryz.prog W = .ok (.bool false) W := by
  rw [er_rlm]
  simp only [Sem.run_bind, er_partsCode, Result.andThen]
  simp [ReflectliteValue.isNil, loadVar, isAgg, underlying, Tryz.underlying90, ha, Result.andThen]
theorem er_elemCode (w : World) : (ReflectliteType.method ReflectliteType.elem #[.agg #[.pointer (some ⟨3, 90, none⟩)]]).run Tryz.prog w = .ok (.iface 177 (.agg #[.pointer (some ⟨3, 50, none⟩)])) w := by kernel_rfl
theorem er_implCode (w : World) : (ReflectliteType.relation "Implements" ReflectliteType.implements_ #[.agg #[.pointer (some ⟨3, 50, none⟩)], .iface 177 (.agg #[.pointer (some ⟨3, 45, none⟩)])]).run Tryz.prog w = .ok (.bool true) w := by kernel_rfl
theorem er_elemOfCode (w : World) : (Rtype.elem? 90).run Tryz.prog w = .ok (some 50) w := by kernel_rfl
theorem er_mkCode (p : Addr) (w : World) : (ReflectliteValue.mk 50 p ReflectliteValue.flagAddr).run Tryz.prog w = .ok (.agg #[.pointer (some ⟨3, 50, none⟩), .pointer (some p), .int .u64 386]) w := by kernel_rfl
theorem er_elemVCode (a p : Addr) (W : World) (ha : W.cell? a = some (.pointer (some p))) :
    (ReflectliteValue.method (ReflectliteValue.valueError "reflectlite.Value.Elem" 0) ReflectliteValue.elem #[.agg #[.pointer (some ⟨3, 90, none⟩), .pointer (some a), .int .u64 150]]).run Tryz.prog W
      = .ok (.agg #[.pointer (some ⟨3, 50, none⟩), .pointer (some p), .int .u64 386]) W := by
  rw [er_rlm]
  simp only [Sem.run_bind, er_partsCode, Result.andThen]
  simp [ReflectliteValue.elem, loadVar, isAgg, underlying, Tryz.underlying90, ha, Result.andThen, er_elemOfCode, er_mkCode]
theorem er_typeOfCode (v : Value) (w : World) : (ReflectliteType.typeOf #[.iface 50 v]).run Tryz.prog w = .ok (.iface 177 (.agg #[.pointer (some ⟨3, 50, none⟩)])) w := by kernel_rfl
theorem er_asgnCode (w : World) : (ReflectliteType.relation "AssignableTo" ReflectliteType.assignableTo #[.agg #[.pointer (some ⟨3, 50, none⟩)], .iface 177 (.agg #[.pointer (some ⟨3, 50, none⟩)])]).run Tryz.prog w = .ok (.bool true) w := by kernel_rfl
theorem er_partsACode (a : Addr) (w : World) : (ReflectliteValue.parts (.agg #[.pointer (some ⟨3, 50, none⟩), .pointer (some a), .int .u64 386])).run Tryz.prog w = .ok (some (50, a, 386)) w := by kernel_rfl
theorem er_partsBCode (a : Addr) (w : World) : (ReflectliteValue.parts (.agg #[.pointer (some ⟨3, 50, none⟩), .pointer (some a), .int .u64 130])).run Tryz.prog w = .ok (some (50, a, 130)) w := by kernel_rfl
theorem er_directCode (w : World) : (Rtype.directlyAssignable 50 50).run Tryz.prog w = .ok true w := by kernel_rfl
theorem er_valueOfPFault (t : Addr) (w : World) : (ReflectliteValue.unpack (.iface 93 (.pointer (some t)))).run Tryz.prog w = .ok (.agg #[.pointer (some ⟨3, 93, none⟩), .pointer (some ⟨w.heap.size, 0, none⟩), .int .u64 150]) (w.alloc (.cells #[.pointer (some t)] 93)) := by kernel_rfl
theorem er_typeFault (a : Addr) (w : World) : (ReflectliteValue.methodAny (ReflectliteValue.valueError "reflectlite.Value.Type" 0) (fun t _ _ _ => ReflectliteType.toType t) #[.agg #[.pointer (some ⟨3, 93, none⟩), .pointer (some a), .int .u64 150]]).run Tryz.prog w = .ok (.iface 177 (.agg #[.pointer (some ⟨3, 93, none⟩)])) w := by kernel_rfl
theorem er_kindPFault (w : World) : ((ReflectliteType.abiMethod fun t => (fun a : Nat => Value.int IntKind.u8 (a : Int)) <$> Rtype.kind t) #[.pointer (some ⟨3, 93, none⟩)]).run Tryz.prog w = .ok (.int .u8 22) w := by kernel_rfl
theorem er_kindFault (w : World) : ((ReflectliteType.abiMethod fun t => (fun a : Nat => Value.int IntKind.u8 (a : Int)) <$> Rtype.kind t) #[.pointer (some ⟨3, 92, none⟩)]).run Tryz.prog w = .ok (.int .u8 25) w := by kernel_rfl
theorem er_partsFault (a : Addr) (w : World) : (ReflectliteValue.parts (.agg #[.pointer (some ⟨3, 93, none⟩), .pointer (some a), .int .u64 150])).run Tryz.prog w = .ok (some (93, a, 150)) w := by kernel_rfl
theorem er_isNilFault (a p : Addr) (W : World) (ha : W.cell? a = some (.pointer (some p))) :
    (ReflectliteValue.method (ReflectliteValue.valueError "reflectlite.Value.IsNil" 0) ReflectliteValue.isNil #[.agg #[.pointer (some ⟨3, 93, none⟩), .pointer (some a), .int .u64 150]]).run Tryz.prog W = .ok (.bool false) W := by
  rw [er_rlm]
  simp only [Sem.run_bind, er_partsFault, Result.andThen]
  simp [ReflectliteValue.isNil, loadVar, isAgg, underlying, Tryz.underlying93, ha, Result.andThen]
theorem er_elemFault (w : World) : (ReflectliteType.method ReflectliteType.elem #[.agg #[.pointer (some ⟨3, 93, none⟩)]]).run Tryz.prog w = .ok (.iface 177 (.agg #[.pointer (some ⟨3, 92, none⟩)])) w := by kernel_rfl
theorem er_implFault (w : World) : (ReflectliteType.relation "Implements" ReflectliteType.implements_ #[.agg #[.pointer (some ⟨3, 92, none⟩)], .iface 177 (.agg #[.pointer (some ⟨3, 45, none⟩)])]).run Tryz.prog w = .ok (.bool true) w := by kernel_rfl
theorem er_elemOfFault (w : World) : (Rtype.elem? 93).run Tryz.prog w = .ok (some 92) w := by kernel_rfl
theorem er_mkFault (p : Addr) (w : World) : (ReflectliteValue.mk 92 p ReflectliteValue.flagAddr).run Tryz.prog w = .ok (.agg #[.pointer (some ⟨3, 92, none⟩), .pointer (some p), .int .u64 409]) w := by kernel_rfl
theorem er_elemVFault (a p : Addr) (W : World) (ha : W.cell? a = some (.pointer (some p))) :
    (ReflectliteValue.method (ReflectliteValue.valueError "reflectlite.Value.Elem" 0) ReflectliteValue.elem #[.agg #[.pointer (some ⟨3, 93, none⟩), .pointer (some a), .int .u64 150]]).run Tryz.prog W
      = .ok (.agg #[.pointer (some ⟨3, 92, none⟩), .pointer (some p), .int .u64 409]) W := by
  rw [er_rlm]
  simp only [Sem.run_bind, er_partsFault, Result.andThen]
  simp [ReflectliteValue.elem, loadVar, isAgg, underlying, Tryz.underlying93, ha, Result.andThen, er_elemOfFault, er_mkFault]
theorem er_typeOfFault (v : Value) (w : World) : (ReflectliteType.typeOf #[.iface 92 v]).run Tryz.prog w = .ok (.iface 177 (.agg #[.pointer (some ⟨3, 92, none⟩)])) w := by kernel_rfl
theorem er_asgnFault (w : World) : (ReflectliteType.relation "AssignableTo" ReflectliteType.assignableTo #[.agg #[.pointer (some ⟨3, 92, none⟩)], .iface 177 (.agg #[.pointer (some ⟨3, 92, none⟩)])]).run Tryz.prog w = .ok (.bool true) w := by kernel_rfl
theorem er_partsAFault (a : Addr) (w : World) : (ReflectliteValue.parts (.agg #[.pointer (some ⟨3, 92, none⟩), .pointer (some a), .int .u64 409])).run Tryz.prog w = .ok (some (92, a, 409)) w := by kernel_rfl
theorem er_partsBFault (a : Addr) (w : World) : (ReflectliteValue.parts (.agg #[.pointer (some ⟨3, 92, none⟩), .pointer (some a), .int .u64 153])).run Tryz.prog w = .ok (some (92, a, 153)) w := by kernel_rfl
theorem er_directFault (w : World) : (Rtype.directlyAssignable 92 92).run Tryz.prog w = .ok true w := by kernel_rfl
theorem er_valueOfCode (c : Int) (w : World) : (ReflectliteValue.unpack (.iface 50 (.int .i64 c))).run Tryz.prog w = .ok (.agg #[.pointer (some ⟨3, 50, none⟩), .pointer (some ⟨w.heap.size, 0, none⟩), .int .u64 130]) (w.alloc (.cells #[.int .i64 c] 50)) := by kernel_rfl
theorem er_valueOfFault (c n : Int) (w : World) : (ReflectliteValue.unpack (.iface 92 (.agg #[.int .i64 c, .int .i64 n]))).run Tryz.prog w = .ok (.agg #[.pointer (some ⟨3, 92, none⟩), .pointer (some ⟨w.heap.size, 0, none⟩), .int .u64 153]) (w.alloc (.cells #[.int .i64 c, .int .i64 n] 92)) := by kernel_rfl
theorem er_asgnNo (w : World) : (ReflectliteType.relation "AssignableTo" ReflectliteType.assignableTo #[.agg #[.pointer (some ⟨3, 92, none⟩)], .iface 177 (.agg #[.pointer (some ⟨3, 50, none⟩)])]).run Tryz.prog w = .ok (.bool false) w := by kernel_rfl
theorem er_methodElem (h : Value) (w : World) : (Go.method 351 177 (.agg #[h]) "Elem").run Tryz.prog w = .ok (170, .agg #[h]) w := by kernel_rfl
theorem er_methodImplements (h : Value) (w : World) : (Go.method 351 177 (.agg #[h]) "Implements").run Tryz.prog w = .ok (171, .agg #[h]) w := by kernel_rfl
theorem er_methodAssignableTo (h : Value) (w : World) : (Go.method 351 177 (.agg #[h]) "AssignableTo").run Tryz.prog w = .ok (168, .agg #[h]) w := by kernel_rfl
theorem er_methodKind (h : Value) (w : World) : (Go.method 351 177 (.agg #[h]) "Kind").run Tryz.prog w = .ok (157, h) w := by kernel_rfl
theorem er_methodUnwrap (a : Value) (w : World) : (Go.method 351 92 a "Unwrap").run Tryz.prog w = .ok (162, a) w := by kernel_rfl
theorem er_noAs (v : Value) (xT : TypeId) (w : World) : (Instr.typeAssert (.iface 92 v) xT 182 true).run Tryz.prog w = .ok (.tuple #[.nilIface, .bool false]) w := run_typeAssert_lacksB Tryz.underlying182 (by kernel_rfl) (by kernel_rfl) v xT w
theorem er_hasUn (v : Value) (xT : TypeId) (w : World) : (Instr.typeAssert (.iface 92 v) xT 185 true).run Tryz.prog w = .ok (.tuple #[.iface 92 v, .bool true]) w := run_typeAssert_hasB Tryz.underlying185 (by kernel_rfl) v xT w
theorem er_size64 (w : World) : (sizeOf 92).run Tryz.prog w = .ok 2 w := by kernel_rfl
theorem er_setCode (ta b : Addr) (c : Int) (old : Value) (W : World) (hb : W.cell? b = some (.int .i64 c)) (ht : W.cell? ta = some old) (hf : W.frozen? ta = false) :
    (ReflectliteValue.set #[.agg #[.pointer (some ⟨3, 50, none⟩), .pointer (some ta), .int .u64 386], .agg #[.pointer (some ⟨3, 50, none⟩), .pointer (some b), .int .u64 130]]).run Tryz.prog W
      = .ok (.tuple #[]) (W.setCell ta (.int .i64 c)) := by
  rw [er_rls]
  simp only [Sem.run_bind, er_partsACode, er_partsBCode, Result.andThen]
  simp [ReflectliteValue.flagAddr, loadVar, isAgg, underlying, Tryz.underlying50, hb, Result.andThen, er_directCode, storeVar, Value.cells, storeCells, Addr.add]
  rw [run_store Tryz.prog W ta _ _ (by rfl)]
  simp [ht, hf]
theorem er_setFault (ta b : Nat) (c n : Int) (o1 o2 : Value) (e : TypeId) (W : World) (hb1 : W.cell? ⟨b, 0, none⟩ = some (.int .i64 c)) (hb2 : W.cell? ⟨b, 1, none⟩ = some (.int .i64 n)) (hrow : W.heap[ta]? = some (.cells #[o1, o2] e (0, 0))) :
    (ReflectliteValue.set #[.agg #[.pointer (some ⟨3, 92, none⟩), .pointer (some ⟨ta, 0, none⟩), .int .u64 409], .agg #[.pointer (some ⟨3, 92, none⟩), .pointer (some ⟨b, 0, none⟩), .int .u64 153]]).run Tryz.prog W
      = .ok (.tuple #[]) (W.setRow ta #[.int .i64 c, .int .i64 n]) := by
  have hl : (loadVar 92 ⟨b, 0, none⟩).run Tryz.prog W = .ok (.agg #[.int .i64 c, .int .i64 n]) W := by
    have h := run_loadCells_list (P := Tryz.prog) W ⟨b, 0, none⟩ [.int .i64 c, .int .i64 n] (fun j v hj => by
      match j, hj with
      | 0, hj => injection hj with hj; subst hj; exact hb1
      | 1, hj => injection hj with hj; subst hj; exact hb2)
    unfold loadVar
    simp [isAgg, underlying, Tryz.underlying92, Result.andThen, er_size64]
    simp at h
    rw [h]
  have hs := run_storeVar (P := Tryz.prog) (w := W) (t := 92) (b := ta) (off := 0) (v := .agg #[.int .i64 c, .int .i64 n]) hrow (by kernel_rfl) (by kernel_rfl) (by simp [Value.cells]) (by simp [Value.cells, Value.oneCell'])
  rw [er_rls]
  simp only [Sem.run_bind, er_partsAFault, er_partsBFault, Result.andThen_ok, hl]
  simp only [ReflectliteValue.flagAddr, show ((409 / 256 % 2 == 0) = false) by decide, Bool.false_eq_true, if_false, Sem.run_bind, Sem.run_pure, Result.andThen_ok, hl, er_directFault, if_true, hs]
  simp [Value.cells]
set_option maxHeartbeats 8000000 in
theorem er_asCode (c n : Int) (t : Nat) (old : Value) (w : World) (hg : w.cell? ⟨0, 0, none⟩ = some (.iface 177 (.agg #[.pointer (some ⟨3, 45, none⟩)]))) (ht0 : w.cell? ⟨t, 0, none⟩ = some old) (hf0 : w.frozen? ⟨t, 0, none⟩ = false) :
    Calls Tryz.prog 41 #[.iface 92 (.agg #[.int .i64 c, .int .i64 n]), .iface 90 (.pointer (some ⟨t, 0, none⟩))] w fun ev w' => ev = .returned (.bool true) ∧ w' = (((((w.alloc (.cells #[.pointer (some ⟨t, 0, none⟩)] 90)).alloc (.cells #[.pointer (some ⟨3, 90, none⟩), .pointer (some ⟨w.heap.size, 0, none⟩), .int .u64 150] 137)).alloc (.cells #[.pointer (some ⟨3, 90, none⟩), .pointer (some ⟨w.heap.size, 0, none⟩), .int .u64 150] 137)).alloc (.cells #[.int .i64 c, .int .i64 n] 92)).alloc (.cells #[.int .i64 c] 50)).setCell ⟨t, 0, none⟩ (.int .i64 c) := by
  have h6 := @run_callFunc_extern Tryz.prog 74 _ (fun args => ReflectliteValue.unpack (args.getD 0 (.tuple #[]))) Tryz.func74 (by kernel_rfl) (by kernel_rfl) (by kernel_rfl) (by kernel_rfl)
  have h7 := @run_callFunc_extern Tryz.prog 75 _ (ReflectliteValue.methodAny (ReflectliteValue.valueError "reflectlite.Value.Type" 0) (fun t _ _ _ => ReflectliteType.toType t)) Tryz.func75 (by kernel_rfl) (by kernel_rfl) (by kernel_rfl) (by kernel_rfl)
  have h8 := @run_callFunc_extern Tryz.prog 76 _ (ReflectliteValue.method (ReflectliteValue.valueError "reflectlite.Value.IsNil" 0) ReflectliteValue.isNil) Tryz.func76 (by kernel_rfl) (by kernel_rfl) (by kernel_rfl) (by kernel_rfl)
  have h27 := @run_callFunc_extern Tryz.prog 157 _ (ReflectliteType.abiMethod fun t => do pure (.int .u8 (← Rtype.kind t))) Tryz.func157 (by kernel_rfl) (by kernel_rfl) (by kernel_rfl) (by kernel_rfl)
  have h37 := @run_callFunc_extern Tryz.prog 170 _ (ReflectliteType.method ReflectliteType.elem) Tryz.func170 (by kernel_rfl) (by kernel_rfl) (by kernel_rfl) (by kernel_rfl)
  have h38 := @run_callFunc_extern Tryz.prog 171 _ (ReflectliteType.relation "Implements" ReflectliteType.implements_) Tryz.func171 (by kernel_rfl) (by kernel_rfl) (by kernel_rfl) (by kernel_rfl)
  have h10 := @run_callFunc_extern Tryz.prog 102 _ ReflectliteType.typeOf Tryz.func102 (by kernel_rfl) (by kernel_rfl) (by kernel_rfl) (by kernel_rfl)
  have h35 := @run_callFunc_extern Tryz.prog 168 _ (ReflectliteType.relation "AssignableTo" ReflectliteType.assignableTo) Tryz.func168 (by kernel_rfl) (by kernel_rfl) (by kernel_rfl) (by kernel_rfl)
  have h11 := @run_callFunc_extern Tryz.prog 103 _ (ReflectliteValue.method (ReflectliteValue.valueError "reflectlite.Value.Elem" 0) ReflectliteValue.elem) Tryz.func103 (by kernel_rfl) (by kernel_rfl) (by kernel_rfl) (by kernel_rfl)
  have h12 := @run_callFunc_extern Tryz.prog 104 _ ReflectliteValue.set Tryz.func104 (by kernel_rfl) (by kernel_rfl) (by kernel_rfl) (by kernel_rfl)
  have tO := er_typeOfCode
  have tF := er_typeOfFault
  have mA := er_methodAssignableTo
  have aC := er_asgnCode
  have aF := er_asgnFault
  have aN := er_asgnNo
  have vC := er_valueOfCode
  have vF := er_valueOfFault
  have f6 := er_valueOfPCode
  have f7 := er_typeCode
  have mK := er_methodKind
  have mE := er_methodElem
  have mI := er_methodImplements
  have k27 := er_kindPCode
  have k25 := er_kindCode
  have e27 := er_elemCode
  have i25 := er_implCode
  have mU := er_methodUnwrap
  have nA := er_noAs
  have hU := er_hasUn
  have hlt : 0 < w.heap.size := by
    rcases Nat.lt_or_ge 0 w.heap.size with h | h
    · exact h
    · simp [World.cell?, Array.getElem?_eq_none h] at hg
  have n8 := er_isNilCode ⟨w.heap.size, 0, none⟩ ⟨t, 0, none⟩ ((w.alloc (.cells #[.pointer (some ⟨t, 0, none⟩)] 90)).alloc (.cells #[.pointer (some ⟨3, 90, none⟩), .pointer (some ⟨w.heap.size, 0, none⟩), .int .u64 150] 137)) (by simp)
  have hg2 : ((w.alloc (.cells #[.pointer (some ⟨t, 0, none⟩)] 90)).alloc (.cells #[.pointer (some ⟨3, 90, none⟩), .pointer (some ⟨w.heap.size, 0, none⟩), .int .u64 150] 137)).cell? ⟨0, 0, none⟩ = some (.iface 177 (.agg #[.pointer (some ⟨3, 45, none⟩)])) := by
    rw [World.cell?_alloc_lt _ _ ⟨0, 0, none⟩ (by simp <;> omega), World.cell?_alloc_lt _ _ ⟨0, 0, none⟩ hlt]; exact hg
  have htl : t < w.heap.size := by
    rcases Nat.lt_or_ge t w.heap.size with h | h
    · exact h
    · simp [World.cell?, Array.getElem?_eq_none h] at ht0
  have el := er_elemVCode ⟨w.heap.size, 0, none⟩ ⟨t, 0, none⟩ ((((w.alloc (.cells #[.pointer (some ⟨t, 0, none⟩)] 90)).alloc (.cells #[.pointer (some ⟨3, 90, none⟩), .pointer (some ⟨w.heap.size, 0, none⟩), .int .u64 150] 137)).alloc (.cells #[.pointer (some ⟨3, 90, none⟩), .pointer (some ⟨w.heap.size, 0, none⟩), .int .u64 150] 137)).alloc (.cells #[.int .i64 c, .int .i64 n] 92)) (by rw [World.cell?_alloc_lt _ _ ⟨w.heap.size, 0, none⟩ (by simp; omega), World.cell?_alloc_lt _ _ ⟨w.heap.size, 0, none⟩ (by simp; omega)]; simp)
  have st := er_setCode ⟨t, 0, none⟩ ⟨w.heap.size + 1 + 1 + 1 + 1, 0, none⟩ c old (((((w.alloc (.cells #[.pointer (some ⟨t, 0, none⟩)] 90)).alloc (.cells #[.pointer (some ⟨3, 90, none⟩), .pointer (some ⟨w.heap.size, 0, none⟩), .int .u64 150] 137)).alloc (.cells #[.pointer (some ⟨3, 90, none⟩), .pointer (some ⟨w.heap.size, 0, none⟩), .int .u64 150] 137)).alloc (.cells #[.int .i64 c, .int .i64 n] 92)).alloc (.cells #[.int .i64 c] 50))
    (by rw [World.cell?_alloc_at _ _ _ _ (by simp)]; rfl)
    (by rw [World.cell?_alloc_lt _ _ ⟨t, 0, none⟩ (by simp; omega), World.cell?_alloc_lt _ _ ⟨t, 0, none⟩ (by simp; omega), World.cell?_alloc_lt _ _ ⟨t, 0, none⟩ (by simp; omega), World.cell?_alloc_lt _ _ ⟨t, 0, none⟩ (by simp; omega), World.cell?_alloc_lt _ _ ⟨t, 0, none⟩ htl]; exact ht0)
    (by rw [World.frozen?_alloc_old _ _ ⟨t, 0, none⟩ (by simp; omega), World.frozen?_alloc_old _ _ ⟨t, 0, none⟩ (by simp; omega), World.frozen?_alloc_old _ _ ⟨t, 0, none⟩ (by simp; omega), World.frozen?_alloc_old _ _ ⟨t, 0, none⟩ (by simp; omega), World.frozen?_alloc_old _ _ ⟨t, 0, none⟩ (Nat.ne_of_lt htl)]; exact hf0)
  go_enter Tryz.func41, Tryz.ntmps41
  go_wp2
  refine wp_loop_rounds 2 ?_
  rw [rounds_succ]
  go_wp2
  rw [rounds_succ]
  go_wp2
  go_ret
  exact ⟨rfl, rfl⟩
set_option maxHeartbeats 8000000 in
theorem er_asAt (c n : Int) (t : Nat) (o1 o2 : Value) (w : World) (hg : w.cell? ⟨0, 0, none⟩ = some (.iface 177 (.agg #[.pointer (some ⟨3, 45, none⟩)]))) (e : TypeId) (hrow : w.heap[t]? = some (.cells #[o1, o2] e (0, 0))) :
    Calls Tryz.prog 41 #[.iface 92 (.agg #[.int .i64 c, .int .i64 n]), .iface 93 (.pointer (some ⟨t, 0, none⟩))] w fun ev w' => ev = .returned (.bool true) ∧ w' = ((((w.alloc (.cells #[.pointer (some ⟨t, 0, none⟩)] 93)).alloc (.cells #[.pointer (some ⟨3, 93, none⟩), .pointer (some ⟨w.heap.size, 0, none⟩), .int .u64 150] 137)).alloc (.cells #[.pointer (some ⟨3, 93, none⟩), .pointer (some ⟨w.heap.size, 0, none⟩), .int .u64 150] 137)).alloc (.cells #[.int .i64 c, .int .i64 n] 92)).setRow t #[.int .i64 c, .int .i64 n] := by
  have h6 := @run_callFunc_extern Tryz.prog 74 _ (fun args => ReflectliteValue.unpack (args.getD 0 (.tuple #[]))) Tryz.func74 (by kernel_rfl) (by kernel_rfl) (by kernel_rfl) (by kernel_rfl)
  have h7 := @run_callFunc_extern Tryz.prog 75 _ (ReflectliteValue.methodAny (ReflectliteValue.valueError "reflectlite.Value.Type" 0) (fun t _ _ _ => ReflectliteType.toType t)) Tryz.func75 (by kernel_rfl) (by kernel_rfl) (by kernel_rfl) (by kernel_rfl)
  have h8 := @run_callFunc_extern Tryz.prog 76 _ (ReflectliteValue.method (ReflectliteValue.valueError "reflectlite.Value.IsNil" 0) ReflectliteValue.isNil) Tryz.func76 (by kernel_rfl) (by kernel_rfl) (by kernel_rfl) (by kernel_rfl)
  have h27 := @run_callFunc_extern Tryz.prog 157 _ (ReflectliteType.abiMethod fun t => do pure (.int .u8 (← Rtype.kind t))) Tryz.func157 (by kernel_rfl) (by kernel_rfl) (by kernel_rfl) (by kernel_rfl)
  have h37 := @run_callFunc_extern Tryz.prog 170 _ (ReflectliteType.method ReflectliteType.elem) Tryz.func170 (by kernel_rfl) (by kernel_rfl) (by kernel_rfl) (by kernel_rfl)
  have h38 := @run_callFunc_extern Tryz.prog 171 _ (ReflectliteType.relation "Implements" ReflectliteType.implements_) Tryz.func171 (by kernel_rfl) (by kernel_rfl) (by kernel_rfl) (by kernel_rfl)
  have h10 := @run_callFunc_extern Tryz.prog 102 _ ReflectliteType.typeOf Tryz.func102 (by kernel_rfl) (by kernel_rfl) (by kernel_rfl) (by kernel_rfl)
  have h35 := @run_callFunc_extern Tryz.prog 168 _ (ReflectliteType.relation "AssignableTo" ReflectliteType.assignableTo) Tryz.func168 (by kernel_rfl) (by kernel_rfl) (by kernel_rfl) (by kernel_rfl)
  have h11 := @run_callFunc_extern Tryz.prog 103 _ (ReflectliteValue.method (ReflectliteValue.valueError "reflectlite.Value.Elem" 0) ReflectliteValue.elem) Tryz.func103 (by kernel_rfl) (by kernel_rfl) (by kernel_rfl) (by kernel_rfl)
  have h12 := @run_callFunc_extern Tryz.prog 104 _ ReflectliteValue.set Tryz.func104 (by kernel_rfl) (by kernel_rfl) (by kernel_rfl) (by kernel_rfl)
  have tO := er_typeOfCode
  have tF := er_typeOfFault
  have mA := er_methodAssignableTo
  have aC := er_asgnCode
  have aF := er_asgnFault
  have aN := er_asgnNo
  have vC := er_valueOfCode
  have vF := er_valueOfFault
  have f6 := er_valueOfPFault
  have f7 := er_typeFault
  have mK := er_methodKind
  have mE := er_methodElem
  have mI := er_methodImplements
  have k27 := er_kindPFault
  have k25 := er_kindFault
  have e27 := er_elemFault
  have i25 := er_implFault
  have mU := er_methodUnwrap
  have nA := er_noAs
  have hU := er_hasUn
  have hlt : 0 < w.heap.size := by
    rcases Nat.lt_or_ge 0 w.heap.size with h | h
    · exact h
    · simp [World.cell?, Array.getElem?_eq_none h] at hg
  have n8 := er_isNilFault ⟨w.heap.size, 0, none⟩ ⟨t, 0, none⟩ ((w.alloc (.cells #[.pointer (some ⟨t, 0, none⟩)] 93)).alloc (.cells #[.pointer (some ⟨3, 93, none⟩), .pointer (some ⟨w.heap.size, 0, none⟩), .int .u64 150] 137)) (by simp)
  have hg2 : ((w.alloc (.cells #[.pointer (some ⟨t, 0, none⟩)] 93)).alloc (.cells #[.pointer (some ⟨3, 93, none⟩), .pointer (some ⟨w.heap.size, 0, none⟩), .int .u64 150] 137)).cell? ⟨0, 0, none⟩ = some (.iface 177 (.agg #[.pointer (some ⟨3, 45, none⟩)])) := by
    rw [World.cell?_alloc_lt _ _ ⟨0, 0, none⟩ (by simp <;> omega), World.cell?_alloc_lt _ _ ⟨0, 0, none⟩ hlt]; exact hg
  have htl : t < w.heap.size := by
    rcases Nat.lt_or_ge t w.heap.size with h | h
    · exact h
    · rw [Array.getElem?_eq_none h] at hrow; cases hrow
  have el := er_elemVFault ⟨w.heap.size, 0, none⟩ ⟨t, 0, none⟩ (((w.alloc (.cells #[.pointer (some ⟨t, 0, none⟩)] 93)).alloc (.cells #[.pointer (some ⟨3, 93, none⟩), .pointer (some ⟨w.heap.size, 0, none⟩), .int .u64 150] 137)).alloc (.cells #[.pointer (some ⟨3, 93, none⟩), .pointer (some ⟨w.heap.size, 0, none⟩), .int .u64 150] 137)) (by rw [World.cell?_alloc_lt _ _ ⟨w.heap.size, 0, none⟩ (by simp; omega)]; simp)
  have st := er_setFault t (w.heap.size + 1 + 1 + 1) c n o1 o2 e ((((w.alloc (.cells #[.pointer (some ⟨t, 0, none⟩)] 93)).alloc (.cells #[.pointer (some ⟨3, 93, none⟩), .pointer (some ⟨w.heap.size, 0, none⟩), .int .u64 150] 137)).alloc (.cells #[.pointer (some ⟨3, 93, none⟩), .pointer (some ⟨w.heap.size, 0, none⟩), .int .u64 150] 137)).alloc (.cells #[.int .i64 c, .int .i64 n] 92))
    (by rw [World.cell?_alloc_at _ _ _ _ (by simp)]; rfl)
    (by rw [World.cell?_alloc_at _ _ _ _ (by simp)]; rfl)
    (by simp only [World.alloc, Array.getElem?_push, Array.size_push]; rw [if_neg (by omega), if_neg (by omega), if_neg (by omega), if_neg (by omega)]; exact hrow)
  go_enter Tryz.func41, Tryz.ntmps41
  go_wp2
  refine wp_loop_rounds 1 ?_
  rw [rounds_succ]
  go_wp2
  go_ret
  exact ⟨rfl, rfl⟩

theorem er_hg {w : World} (o : Obj) (hg : w.cell? ⟨0, 0, none⟩ = some (.iface 177 (.agg #[.pointer (some ⟨3, 45, none⟩)]))) : (w.alloc o).cell? ⟨0, 0, none⟩ = some (.iface 177 (.agg #[.pointer (some ⟨3, 45, none⟩)])) := by
  have hlt : 0 < w.heap.size := by
    rcases Nat.lt_or_ge 0 w.heap.size with h | h
    · exact h
    · simp [World.cell?, Array.getElem?_eq_none h] at hg
  rw [World.cell?_alloc_lt _ _ ⟨0, 0, none⟩ hlt]; exact hg
theorem er_setRow {B : Nat} {a w : World} (h : Below B a w) {b : Nat} (hb : B ≤ b) (c : Array Value) : Below B a (w.setRow b c) := by
  refine h.trans ⟨rfl, rfl, rfl, by simp [World.setRow], fun k hk => ?_⟩
  simp only [World.setRow, Array.getElem?_modify]
  rw [if_neg (by omega)]
set_option maxHeartbeats 4000000 in
theorem er_codeFault (c n : Int) (w : World) (hg : w.cell? ⟨0, 0, none⟩ = some (.iface 177 (.agg #[.pointer (some ⟨3, 45, none⟩)]))) : Calls Tryz.prog 15 #[.iface 92 (.agg #[.int .i64 c, .int .i64 n])] w fun e w' => e = .returned (.tuple #[.int .i64 c, .bool true]) ∧ Below w.heap.size w w' := by
  have hA := er_asCode c n w.heap.size (.int .i64 0) (w.alloc (.cells #[.int .i64 0] 50)) (er_hg _ hg) (by simp) (by simp)
  go_enter Tryz.func15, Tryz.ntmps15
  go_wp2_with (first | (go_at_call 41; refine hA.mono ?_; rintro e w' ⟨rfl, rfl⟩))
  go_ret2
  refine ⟨rfl, ?_⟩
  refine Below.alloc ?_ (by simp <;> omega) _
  refine Below.alloc ?_ (by simp <;> omega) _
  refine Below.alloc ?_ (by simp <;> omega) _
  refine Below.alloc ?_ (by simp <;> omega) _
  refine Below.alloc ?_ (by simp <;> omega) _
  refine Below.alloc ?_ (by simp <;> omega) _
  exact Below.refl _ _
set_option maxHeartbeats 4000000 in
theorem er_atFault (c n : Int) (w : World) (hg : w.cell? ⟨0, 0, none⟩ = some (.iface 177 (.agg #[.pointer (some ⟨3, 45, none⟩)]))) : Calls Tryz.prog 16 #[.iface 92 (.agg #[.int .i64 c, .int .i64 n])] w fun e w' => e = .returned (.tuple #[.int .i64 n, .bool true]) ∧ Below w.heap.size w w' := by
  have hA := er_asAt c n w.heap.size (.int .i64 0) (.int .i64 0) (w.alloc (.cells #[.int .i64 0, .int .i64 0] 92)) (er_hg _ hg) 92 (by simp only [World.alloc]; exact Array.getElem?_push_size)
  have hcell : ∀ (W : World) (c n : Value) (o1 o2 o3 o4 : Obj), (((((((W.alloc (.cells #[.int .i64 0, .int .i64 0] 92)).alloc o1).alloc o2).alloc o3).alloc o4).setRow W.heap.size #[c, n])).cell? ⟨W.heap.size, 1, none⟩ = some n := by
    intro W c n o1 o2 o3 o4
    simp only [World.cell?, World.setRow, World.alloc, Array.getElem?_modify, Array.getElem?_push, Array.size_push]
    rw [if_neg (show ¬ W.heap.size = W.heap.size + 1 + 1 + 1 + 1 by omega), if_neg (show ¬ W.heap.size = W.heap.size + 1 + 1 + 1 by omega), if_neg (show ¬ W.heap.size = W.heap.size + 1 + 1 by omega), if_neg (show ¬ W.heap.size = W.heap.size + 1 by omega)]
    simp
  go_enter Tryz.func16, Tryz.ntmps16
  go_wp2_with (first | (go_at_call 41; refine hA.mono ?_; rintro e w' ⟨rfl, rfl⟩))
  go_ret2
  refine ⟨rfl, ?_⟩
  refine er_setRow ?_ (Nat.le_refl _) _
  refine Below.alloc ?_ (by simp <;> omega) _
  refine Below.alloc ?_ (by simp <;> omega) _
  refine Below.alloc ?_ (by simp <;> omega) _
  refine Below.alloc ?_ (by simp <;> omega) _
  refine Below.alloc ?_ (by simp <;> omega) _
  exact Below.refl _ _

theorem er_rep {lim : Lim} {h : Array Obj} {v : Value} {t : TypeId} {c n : Int} (r : Rep lim h v (.iface t (.agg [.int .i64 c, .int .i64 n]))) : v = .iface t (.agg #[.int .i64 c, .int .i64 n]) := by
  cases r with
  | iface t u x hx =>
    obtain ⟨cs, rfl, hr⟩ := Rep.agg_iff.1 hx
    obtain ⟨l⟩ := cs
    match l, hr with
    | [], hr => exact absurd hr.1 (by simp)
    | [a], hr => exact absurd hr.1 (by simp)
    | [a, b], hr => rw [rep_int hr.head, rep_int hr.tail.head]
    | a :: b :: d :: r, hr => exact absurd hr.1 (by simp)
theorem er_cell {lim : Lim} {w : World} {i t b o : Nat} (r : GlAt lim w.heap i [.iface t (.agg [.gp b o])]) : w.cell? ⟨i, 0, none⟩ = some (.iface t (.agg #[.pointer (some ⟨b, o, none⟩)])) := by
  obtain ⟨b', off, vs, he, hv, hc⟩ := Rep.ro_iff.1 r.1
  injection he with he; injection he with he; injection he with h1 h2
  subst h1; subst h2
  obtain ⟨u, hu, hr⟩ := hv.get (j := 0) rfl
  have h0 := (hc 0 u hu).2
  rw [cell?_eq]
  rw [h0]
  cases hr with
  | iface t u x hx =>
    obtain ⟨cs, rfl, hr⟩ := Rep.agg_iff.1 hx
    obtain ⟨l⟩ := cs
    match l, hr with
    | [], hr => exact absurd hr.1 (by simp)
    | [a], hr => rw [rep_gp hr.head]
    | a :: b :: r, hr => exact absurd hr.1 (by simp)
def errTy : List AV := [.iface 177 (.agg [.gp 3 45])]
theorem er_rt {lim : Lim} {h : Array Obj} (n : Int) (b : Bool) : Rep lim h (.tuple #[.int .i64 n, .bool b]) (.tup [.int .i64 n, .bool b]) :=
  Rep.tup_iff.2 ⟨_, rfl, .cons (.int _ _) (.cons (.bool _) (RepL.nil _ _))⟩
theorem er_one {vs : List Value} {lim : Lim} {h : Array Obj} {x : AV} (r : RepL lim h vs [x]) : ∃ v, vs = [v] ∧ Rep lim h v x := by
  match vs, r with
  | [], r => exact absurd r.1 (by simp)
  | [a], r => exact ⟨a, rfl, r.head⟩
  | a :: b :: q, r => exact absurd r.1 (by simp)
theorem fault_Code_f (hty : g 0 = some errTy) (c n : Int) : Valid Tryz.prog (G0 g rnd) 15 [.iface 92 (.agg [.int .i64 c, .int .i64 n])] (.tup [.int .i64 c, .bool true]) :=
  valid_callsG (by kernel_rfl) fun lim w cargs hgl hargs => by
    obtain ⟨v, rfl, hv⟩ := er_one hargs
    rw [er_rep hv]
    exact (er_codeFault c n w (er_cell (hgl _ _ hty))).mono fun e w' he => ⟨_, he.1, he.2, fun _ _ => er_rt _ _⟩
theorem fault_At_f (hty : g 0 = some errTy) (c n : Int) : Valid Tryz.prog (G0 g rnd) 16 [.iface 92 (.agg [.int .i64 c, .int .i64 n])] (.tup [.int .i64 n, .bool true]) :=
  valid_callsG (by kernel_rfl) fun lim w cargs hgl hargs => by
    obtain ⟨v, rfl, hv⟩ := er_one hargs
    rw [er_rep hv]
    exact (er_atFault c n w (er_cell (hgl _ _ hty))).mono fun e w' he => ⟨_, he.1, he.2, fun _ _ => er_rt _ _⟩
end Go.Proofs.YtepbmjchhcmcoaaGreatDoor
end
