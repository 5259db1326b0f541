import Derived.Test.YtepbmjchhcmcoaaGreatDoorPt
import Derived.Test.YtepbmjchhcmcoaaGreatDoorPvPb
import Derived.Test.YtepbmjchhcmcoaaGreatDoorPvY
import Derived.Test.YtepbmjchhcmcoaaGreatDoorXRdF
import Derived.Test.YtepbmjchhcmcoaaGreatDoorXExC
import Derived.Test.YtepbmjchhcmcoaaGreatDoorPvMb
import Derived.Test.YtepbmjchhcmcoaaGreatDoorPvHe
import Derived.Test.YtepbmjchhcmcoaaGreatDoorPvEa
import Derived.Test.YtepbmjchhcmcoaaGreatDoorXLxC
section
/- Contracts: the reference reads types. -/
set_option linter.all false
set_option maxHeartbeats 1000000
set_option maxRecDepth 10000
namespace Go.Proofs.YtepbmjchhcmcoaaGreatDoor
open Go Go.Pv
variable (g : Nat → Option (List AV)) (rnd : Bool)

theorem c_ref07x_targs (L : List Tk) (hE : EndsT L) (hn : L.length ≤ 1000000) (q n : Nat) (hT : ∀ p, L.length - p.k < n → p.k < L.length → Valid Tryz.prog (G0 g false) 71 [.agg (encP L p)] (.tup [.agg (encP L (typeR L q p).2), .agg (encTy (typeR L q p).1)])) (p : Pl) (hk : p.k < L.length) (hc : p.is L [91] = true → L.length - p.adv.k < n) : Valid Tryz.prog (G0 g false) 72 [.agg (encP L p)] (.tup [.agg (encP L (targsR L (typeR L q) p).2), .slice ((targsR L (typeR L q) p).1.map encTy)]) := by

 refine valid_of [(4, 25)] Tryz.func72 rfl (by kernel_rfl) ?_
 refine sr fun Z z => ?_
 simp [encP, Tryz.f72]
 refine z _ ?_
 clear z Z
 refine AT_seq_k fun K1 hK1 => ?_
 cases h91 : p.is L [91]
 ·
  refine sr fun Z z => ?_
  simp [encP, h91]
  refine RVn_call ((by have h := c_ref07x_Is g L hn p hk [91]; first | (simp only [encP, hpb] at h; exact h) | exact h)) ?_
  simp [encP, h91]
  refine z _ ?_
  clear z Z
  refine cT (by simp [h91]) ?_
  refine sr fun Z z => ?_
  simp [encP, h91]
  refine z _ ?_
  clear z Z
  refine AT_ret ?_
  simp [encP, Tryz.f72]
  all_goals first | (· rw [hq, tloopR, show Pl.adv ⟨k, false⟩ = ⟨k + 1, false⟩ from rfl, hi]; simp [encP]) | (· simp [targsR, h91, encP])
 ·
  have hpb : p.bad = false := (Pl.is_bad h91).1
  have hlt : p.k + 1 < L.length := Pl.adv_lt hE hk h91
  have hcn : L.length - (p.k + 1) < n := hc h91
  refine sr fun Z z => ?_
  simp [encP, h91, hpb]
  refine RVn_call ((by have h := c_ref07x_Is g L hn p hk [91]; first | (simp only [encP, hpb] at h; exact h) | exact h)) ?_
  simp [encP, h91, hpb]
  refine z _ ?_
  clear z Z
  refine cF (by simp [h91, hpb]) ?_
  refine AT_skip ?_
  refine hK1 _ ?_
  refine sr fun Z z => ?_
  simp [encP, h91, hpb]
  refine z _ ?_
  clear z Z
  refine AT_seq_k fun K2 hK2 => ?_
  refine AT_block ?_
  refine AT_loop_q [1,2,4] [1,2] (fun j s => ∃ k acc m, targsR L (typeR L q) p = (acc ++ (tloopR L (typeR L q) m ⟨k, false⟩).1, (tloopR L (typeR L q) m ⟨k, false⟩).2) ∧ (k + 1 < L.length ∧ L.length - k ≤ m ∧ L.length - (k + 1) < n) ∧ acc.length ≤ k ∧ j = m ∧ s = { n := 34, tm := [(1, .lp 1 0), (2, .lp 2 0), (4, .v (.slice (acc.map encTy)) (some (4, 25)))], bx := [(1, [.slice (L.map encK), .int .i64 k, .bool false]), (2, [.slice [], .int .i64 0, .bool false])], tb := [], sh := [], hint := [(4, 25)] }) (L.length - p.k) (by first | rfl | simp) ?_ ?_
  ·
   refine ⟨p.k, [], L.length - p.k, ?_, ⟨hlt, Nat.le_refl _, hcn⟩, by simp, rfl, by simp [hpb]⟩
   have hpp : p = ⟨p.k, false⟩ := Pl.eta_ hpb
   rw [targsR, if_pos h91, ← hpp]; simp
  ·
   rintro j s ⟨k, acc, m, hq, ⟨hk1, hk2, hk3⟩, hka, rfl, rfl⟩ K3 hK3
   obtain ⟨m, rfl⟩ : ∃ i, j = i + 1 := ⟨j - 1, by omega⟩
   have hg := typeR_lt hE q ⟨k + 1, false⟩ hk1
   have hgk : k + 1 ≤ (typeR L q ⟨k + 1, false⟩).2.k := hg.1
   refine AT_seq_k fun K4 hK4 => ?_
   refine sr fun Z z => ?_
   simp [encP, h91, hpb]
   refine z _ ?_
   clear z Z
   refine cT (by simp [h91, hpb]) ?_
   refine AT_skip ?_
   refine hK4 _ ?_
   refine AT_block ?_
   refine sr fun Z z => ?_
   simp [encP, h91, hpb]
   repeat refine sg ?_
   refine z _ ?_
   clear z Z
   refine sr fun Z z => ?_
   simp [encP, h91, hpb]
   refine z _ ?_
   clear z Z
   refine sr fun Z z => ?_
   simp [encP, h91, hpb]
   refine RVn_call ((by have h := hT ⟨k + 1, false⟩ hk3 hk1; simpa [encP] using h)) ?_
   simp [encP, h91, hpb]
   refine z _ ?_
   clear z Z
   refine sr fun Z z => ?_
   simp [encP, h91, hpb]
   repeat refine sg ?_
   refine z _ ?_
   clear z Z
   cases hi : (typeR L q ⟨k + 1, false⟩).2.is L [44]
   ·
    refine sr fun Z z => ?_
    simp [encP, h91, hpb, hi]
    refine RVn_call ((by have h := c_ref07x_Is g L hn (typeR L q ⟨k + 1, false⟩).2 hg.2 [44]; first | (simp only [encP, hib] at h; exact h) | exact h)) ?_
    simp [encP, h91, hpb, hi]
    refine z _ ?_
    clear z Z
    refine cT (by simp [h91, hpb, hi]) ?_
    refine sr fun Z z => ?_
    simp [encP, h91, hpb, hi]
    refine RVn_call (c_ref07x_Must g L hn (typeR L q ⟨k + 1, false⟩).2 hg.2 [93]) ?_
    simp [encP, h91, hpb, hi]
    refine z _ ?_
    clear z Z
    refine AT_ret ?_
    simp [encP, Tryz.f72]
    all_goals first | (· rw [hq, tloopR, show Pl.adv ⟨k, false⟩ = ⟨k + 1, false⟩ from rfl, hi]; simp [encP]) | (· simp [targsR, h91, encP])
   ·
    have hib : (typeR L q ⟨k + 1, false⟩).2.bad = false := (Pl.is_bad hi).1
    refine sr fun Z z => ?_
    simp [encP, h91, hpb, hi, hib]
    refine RVn_call ((by have h := c_ref07x_Is g L hn (typeR L q ⟨k + 1, false⟩).2 hg.2 [44]; first | (simp only [encP, hib] at h; exact h) | exact h)) ?_
    simp [encP, h91, hpb, hi, hib]
    refine z _ ?_
    clear z Z
    refine cF (by simp [h91, hpb, hi, hib]) ?_
    refine AT_skip ?_
    refine hK3 _ (by first | rfl | simp) (m) (by omega) ?_
    refine ⟨(typeR L q ⟨k + 1, false⟩).2.k, acc ++ [(typeR L q ⟨k + 1, false⟩).1], m, ?_, ⟨Pl.adv_lt hE hg.2 hi, by omega, by omega⟩, by simp; omega, rfl, by simp [hib]⟩
    have hpp : (typeR L q ⟨k + 1, false⟩).2 = ⟨(typeR L q ⟨k + 1, false⟩).2.k, false⟩ := Pl.eta_ hib
    rw [← hpp, hq, tloopR, show Pl.adv ⟨k, false⟩ = ⟨k + 1, false⟩ from rfl, if_pos hi]; simp

theorem c_ref07x_Type (L : List Tk) (hE : EndsT L) (hn : L.length ≤ 1000000) (hL : ∀ t ∈ L, t.2.1.length ≤ 1000000) : ∀ (n : Nat) (p : Pl), L.length - p.k < n → p.k < L.length → Valid Tryz.prog (G0 g false) 71 [.agg (encP L p)] (.tup [.agg (encP L (typeR L n p).2), .agg (encTy (typeR L n p).1)]) := by
 intro n
 induction n with
 | zero => intro p hc; omega
 | succ q ih =>
 intro p hc hk
 have hnl := Pl.name_lt hE hk
 have hnx : (p.name L).is L [91] = true → L.length - (p.name L).adv.k < q := fun h => by
   have h1 : p.k + 1 = (p.name L).k := by
     have h2 := Pl.is_bad h
     unfold Pl.name at h2 ⊢
     split
     · rfl
     · rename_i h3; rw [if_neg h3] at h2; cases h2.1
   have h4 : (p.name L).adv.k = (p.name L).k + 1 := rfl
   omega
 refine valid_of [] Tryz.func71 rfl (by kernel_rfl) ?_
 refine sr fun Z z => ?_
 simp [encP, Tryz.f71]
 refine z _ ?_
 clear z Z
 refine sr fun Z z => ?_
 simp [encP]
 refine z _ ?_
 clear z Z
 refine sr fun Z z => ?_
 simp [encP]
 refine RVn_call (c_ref07x_Name g L hn p hk hL) ?_
 simp [encP]
 refine z _ ?_
 clear z Z
 refine AT_seq_k fun K1 hK1 => ?_
 cases hb : (p.name L).bad
 ·
  refine sr fun Z z => ?_
  simp [encP, hb]
  refine z _ ?_
  clear z Z
  refine cF (by simp [hb]) ?_
  refine AT_skip ?_
  refine hK1 _ ?_
  refine sr fun Z z => ?_
  simp [encP, hb]
  refine RVn_call ((by have h := c_ref07x_targs g L hE hn q q ih (p.name L) hnl.2 hnx; simp only [encP, hb] at h; exact h)) ?_
  simp [encP, hb]
  refine z _ ?_
  clear z Z
  refine AT_seq_draw_m false [(1, 1), (2, 2), (3, 3), (4, 4)] Pt.mixed (by kernel_rfl) ⟨by simp [Im, okP, AS.get, look, TV.strip], fun h => by cases h⟩ fun Z z => ?_
  simp [encP, hb]
  refine z _ ?_
  clear z Z
  refine AT_ret ?_
  simp [encP, Tryz.f71]
  all_goals first | (· simp [typeR, targsR, his, hb, encP, encTy_mk]) | (· simp [typeR, hb, encP, encTy_mk])
 ·
  have his : (p.name L).is L [91] = false := by simp [Pl.is, hb]
  refine sr fun Z z => ?_
  simp [encP, hb]
  refine z _ ?_
  clear z Z
  refine cT (by simp [hb]) ?_
  refine AT_seq_draw_m false [(1, 1), (2, 2), (3, 3), (4, 4)] Pt.mixed (by kernel_rfl) ⟨by simp [Im, okP, AS.get, look, TV.strip], fun h => by cases h⟩ fun Z z => ?_
  simp [encP, hb]
  refine z _ ?_
  clear z Z
  refine AT_ret ?_
  simp [encP, Tryz.f71]
  all_goals first | (· simp [typeR, targsR, his, hb, encP, encTy_mk]) | (· simp [typeR, hb, encP, encTy_mk])

end Go.Proofs.YtepbmjchhcmcoaaGreatDoor
end

section
/- Contracts: the reference reads expressions. -/
set_option linter.all false
set_option maxHeartbeats 1000000
set_option maxRecDepth 10000
namespace Go.Proofs.YtepbmjchhcmcoaaGreatDoor
open Go Go.Pv
variable (g : Nat → Option (List AV)) (rnd : Bool)

theorem c_ref07x_args (L : List Tk) (hE : EndsT L) (hn : L.length ≤ 1000000) (q n : Nat) (hX : ∀ p, L.length - p.k < n → p.k < L.length → Valid Tryz.prog (G0 g false) 38 [.agg (encP L p)] (.tup [.agg (encP L (exprR L q p).2), .agg (encE (exprR L q p).1)])) (e : Str) (p : Pl) (hk : p.k < L.length) (hc : p.bad = false → L.length - p.k < n) : Valid Tryz.prog (G0 g false) 73 [.agg (encP L p), .str e] (.tup [.agg (encP L (argsR L (exprR L q) e p).2), .slice ((argsR L (exprR L q) e p).1.map encE)]) := by

 refine valid_of [(6, 28)] Tryz.func73 rfl (by kernel_rfl) ?_
 refine sr fun Z z => ?_
 simp [encP, Tryz.f73]
 refine z _ ?_
 clear z Z
 refine AT_seq_k fun K1 hK1 => ?_
 cases his : p.is L e
 ·
  refine sr fun Z z => ?_
  simp [encP, his]
  refine RVn_call (c_ref07x_Is g L hn p hk e) ?_
  simp [encP, his]
  refine z _ ?_
  clear z Z
  refine cF (by simp [his]) ?_
  refine AT_skip ?_
  refine hK1 _ ?_
  refine sr fun Z z => ?_
  simp [encP, his]
  refine z _ ?_
  clear z Z
  refine AT_seq_k fun K2 hK2 => ?_
  refine AT_block ?_
  refine AT_loop_q [1,2,4,6] [2,4] (fun j s => ∃ k acc m bd, argsR L (exprR L q) e p = (acc ++ (alB L (exprR L q) e m ⟨k, bd⟩).1, (alB L (exprR L q) e m ⟨k, bd⟩).2) ∧ (k < L.length ∧ L.length - k ≤ m ∧ (bd = false → L.length - k < n)) ∧ (acc.length ≤ k ∧ (bd = true → acc = [])) ∧ j = m ∧ s = { n := 39, tm := [(1, .v (.str e) none), (2, .lp 2 0), (4, .lp 4 0), (6, .v (.slice (acc.map encE)) (some (6, 28)))], bx := [(2, [.slice (L.map encK), .int .i64 k, .bool bd]), (4, [.slice [], .int .i64 0, .bool false])], tb := [], sh := [], hint := [(6, 28)] }) (L.length - p.k) (by first | rfl | simp) ?_ ?_
  ·
   refine ⟨p.k, [], L.length - p.k, p.bad, ?_, ⟨hk, Nat.le_refl _, hc⟩, ⟨by simp, fun _ => rfl⟩, rfl, by simp⟩
   rw [argsR, his]; simp [alB]
  ·
   rintro j s ⟨k, acc, m, bd, hq, ⟨hk1, hk2, hk3⟩, ⟨hka, hkb⟩, hjm, rfl⟩ K3 hK3
   subst hjm
   obtain ⟨m, rfl⟩ : ∃ i, j = i + 1 := ⟨j - 1, by omega⟩
   refine AT_seq_k fun K4 hK4 => ?_
   cases bd
   ·
    have hk3 := hk3 rfl
    have hg := exprR_lt hE q ⟨k, false⟩ hk1
    have hgk : k ≤ (exprR L q ⟨k, false⟩).2.k := hg.1
    refine sr fun Z z => ?_
    simp [encP, his]
    refine z _ ?_
    clear z Z
    refine cT (by simp [his]) ?_
    refine AT_skip ?_
    refine hK4 _ ?_
    refine AT_block ?_
    refine sr fun Z z => ?_
    simp [encP, his]
    refine z _ ?_
    clear z Z
    refine sr fun Z z => ?_
    simp [encP, his]
    refine RVn_call ((by have h := hX ⟨k, false⟩ hk3 hk1; simpa [encP] using h)) ?_
    simp [encP, his]
    refine z _ ?_
    clear z Z
    refine sr fun Z z => ?_
    simp [encP, his]
    repeat refine sg ?_
    refine z _ ?_
    clear z Z
    refine AT_seq_k fun K5 hK5 => ?_
    cases hi : (exprR L q ⟨k, false⟩).2.is L [44]
    ·
     refine sr fun Z z => ?_
     simp [encP, his, hi]
     refine RVn_call ((by have h := c_ref07x_Is g L hn (exprR L q ⟨k, false⟩).2 hg.2 [44]; first | (simp only [encP, hib] at h; exact h) | exact h)) ?_
     simp [encP, his, hi]
     refine z _ ?_
     clear z Z
     refine cT (by simp [his, hi]) ?_
     refine sr fun Z z => ?_
     simp [encP, his, hi]
     refine RVn_call (c_ref07x_Must g L hn (exprR L q ⟨k, false⟩).2 hg.2 e) ?_
     simp [encP, his, hi]
     refine z _ ?_
     clear z Z
     refine AT_ret ?_
     simp [encP, Tryz.f73]
     all_goals first | (· rw [hq, alB, if_neg (by simp), aloopR, hi]; simp [encP]) | (· rw [hq, alB, if_pos rfl]; simp [encP]) | (· simp [argsR, his, encP])
    ·
     have hib : (exprR L q ⟨k, false⟩).2.bad = false := (Pl.is_bad hi).1
     refine sr fun Z z => ?_
     simp [encP, his, hi, hib]
     refine RVn_call ((by have h := c_ref07x_Is g L hn (exprR L q ⟨k, false⟩).2 hg.2 [44]; first | (simp only [encP, hib] at h; exact h) | exact h)) ?_
     simp [encP, his, hi, hib]
     refine z _ ?_
     clear z Z
     refine cF (by simp [his, hi, hib]) ?_
     refine AT_skip ?_
     refine hK5 _ ?_
     refine AT_region_q fun Z z => ?_
     simp [encP, his, hi, hib]
     repeat refine sg ?_
     refine z _ ?_
     clear z Z
     refine hK3 _ (by first | rfl | simp) (m) (by omega) ?_
     refine ⟨(exprR L q ⟨k, false⟩).2.k + 1, acc ++ [(exprR L q ⟨k, false⟩).1], m, false, ?_, ⟨Pl.adv_lt hE hg.2 hi, by omega, fun _ => by omega⟩, ⟨by simp; omega, fun h => by cases h⟩, rfl, by simp⟩
     rw [hq, alB, if_neg (by simp), aloopR, if_pos hi, show (exprR L q ⟨k, false⟩).2.adv = ⟨(exprR L q ⟨k, false⟩).2.k + 1, false⟩ by simp [Pl.adv, hib]]; simp [alB]
   ·
    obtain rfl := hkb rfl
    refine sr fun Z z => ?_
    simp [encP, his]
    refine z _ ?_
    clear z Z
    refine cF (by simp [his]) ?_
    refine AT_exit ?_
    refine hK2 _ ?_
    refine sr fun Z z => ?_
    simp [encP, his]
    refine z _ ?_
    clear z Z
    refine AT_ret ?_
    simp [encP, Tryz.f73]
    all_goals first | (· rw [hq, alB, if_neg (by simp), aloopR, hi]; simp [encP]) | (· rw [hq, alB, if_pos rfl]; simp [encP]) | (· simp [argsR, his, encP])
 ·
  refine sr fun Z z => ?_
  simp [encP, his]
  refine RVn_call (c_ref07x_Is g L hn p hk e) ?_
  simp [encP, his]
  refine z _ ?_
  clear z Z
  refine cT (by simp [his]) ?_
  refine sr fun Z z => ?_
  simp [encP, his]
  refine RVn_call (c_ref07x_Must g L hn p hk e) ?_
  simp [encP, his]
  refine z _ ?_
  clear z Z
  refine AT_ret ?_
  simp [encP, Tryz.f73]
  all_goals first | (· rw [hq, alB, if_neg (by simp), aloopR, hi]; simp [encP]) | (· rw [hq, alB, if_pos rfl]; simp [encP]) | (· simp [argsR, his, encP])

theorem c_ref07x_Expr (L : List Tk) (hE : EndsT L) (hn : L.length ≤ 1000000) (hL : ∀ t ∈ L, t.2.1.length ≤ 1000000) : ∀ (n : Nat) (p : Pl), L.length - p.k < n → p.k < L.length → Valid Tryz.prog (G0 g false) 38 [.agg (encP L p)] (.tup [.agg (encP L (exprR L n p).2), .agg (encE (exprR L n p).1)]) := by
 intro n
 induction n with
 | zero => intro p hc; omega
 | succ q ih =>
 intro p hc hk
 have hT := fun p h hk => c_ref07x_Type g L hE hn hL q p h hk
 have hnl := Pl.name_lt hE hk
 have hnk : ∀ (p : Pl) (s : Str), (p.name L).is L s = true → (p.name L).k = p.k + 1 := fun p s h => by
   have h2 := Pl.is_bad h
   unfold Pl.name at h2 ⊢
   split
   · rfl
   · rename_i h3; rw [if_neg h3] at h2; cases h2.1
 have hgl := targsR_lt hE (typeR_lt hE q) _ hnl.2
 have hml := Pl.must_lt hE [123] hgl.2
 have hbl := baseR_lt hE (typeR_lt hE q) (exprR_lt hE q) p hk
 refine valid_of [(300052, 0)] Tryz.func38 rfl (by kernel_rfl) ?_
 refine sr fun Z z => ?_
 simp [encP, Tryz.f38]
 refine z _ ?_
 clear z Z
 refine sr fun Z z => ?_
 simp [encP]
 refine z _ ?_
 clear z Z
 refine sr fun Z z => ?_
 simp [encP]
 refine RVn_call (c_ref07x_Name g L hn p hk hL) ?_
 simp [encP]
 refine z _ ?_
 clear z Z
 refine AT_seq_k fun K1 hK1 => ?_
 cases h91 : (p.name L).is L [91]
 cases h123 : (p.name L).is L [123]
 refine sr fun Z z => ?_
 simp [encP, h91, h123]
 refine RVn_call ((by have h := c_ref07x_Is g L hn (p.name L) hnl.2 [91]; simp only [encP] at h; exact h)) ?_
 simp [encP, h91, h123]
 repeat refine sg ?_
 refine RVn_call ((by have h := c_ref07x_Is g L hn (p.name L) hnl.2 [123]; simp only [encP] at h; exact h)) ?_
 simp [encP, h91, h123]
 repeat refine sg ?_
 refine z _ ?_
 clear z Z
 refine cF (by simp [h91, h123]) ?_
 refine AT_skip ?_
 refine hK1 _ ?_
 refine AT_seq_k fun K2 hK2 => ?_
 refine AT_block ?_
 refine AT_loop_q [1,2,3,4] [1,2,3,4] (fun j s => ∃ e u m, dotsR L (restR L (typeR L q) (exprR L q)) (L.length - (baseR L (typeR L q) (exprR L q) p).2.k) (baseR L (typeR L q) (exprR L q) p).1 (baseR L (typeR L q) (exprR L q) p).2 = dotsR L (restR L (typeR L q) (exprR L q)) m e u ∧ (u.k < L.length ∧ L.length - u.k ≤ m ∧ L.length - u.k ≤ q) ∧ j = m ∧ s = { n := 115, tm := [(1, .lp 1 0), (2, .lp 2 0), (3, .lp 3 0), (4, .lp 4 0)], bx := [(1, encP L u), (2, [.slice [], .int .i64 0, .bool false]), (3, [.int .i64 0, .str [], .str [], .slice [], .int .i64 0, .slice [], .slice [], .int .i64 0]), (4, encE e)], tb := [], sh := [], hint := [(300052, 0)] }) (L.length - (baseR L (typeR L q) (exprR L q) p).2.k) (by first | rfl | simp) ?_ ?_
 refine ⟨(baseR L (typeR L q) (exprR L q) p).1, (baseR L (typeR L q) (exprR L q) p).2, L.length - (baseR L (typeR L q) (exprR L q) p).2.k, rfl, ⟨hbl.2, Nat.le_refl _, by omega⟩, rfl, ?_⟩
 (· simp [baseR, h91, h123, encE_mk, ty0, encP])
 rintro j s ⟨e, u, m, hq, ⟨hk1, hk2, hk3⟩, hjm, rfl⟩ K3 hK3
 subst hjm
 obtain ⟨m, rfl⟩ : ∃ i, j = i + 1 := ⟨j - 1, by omega⟩
 refine AT_seq_k fun K4 hK4 => ?_
 cases hdot : u.is L [46]
 refine sr fun Z z => ?_
 simp [encP, h91, h123, hdot]
 refine RVn_call ((by have h := c_ref07x_Is g L hn u hk1 [46]; simp only [encP] at h; exact h)) ?_
 simp [encP, h91, h123, hdot]
 refine z _ ?_
 clear z Z
 refine cF (by simp [h91, h123, hdot]) ?_
 refine AT_exit ?_
 refine hK2 _ ?_
 refine AT_seq_draw_m false [(1, 1), (2, 2), (3, 3), (4, 4)] Pt.mixed (by kernel_rfl) ⟨by simp [Im, okP, AS.get, look, TV.strip], fun h => by cases h⟩ fun Z z => ?_
 simp [encP, h91, h123, hdot]
 refine z _ ?_
 clear z Z
 refine AT_ret ?_
 simp [encP, Tryz.f38]
 rw [exprR, hq, dotsR, if_neg (by simp [hdot])]; simp [encP]
 have hub := (Pl.is_bad hdot).1
 have hkv : u.k + 1 < L.length := Pl.adv_lt hE hk1 hdot
 have hvr : row (L.map encK) (u.k + 1) = encK (hdK L (⟨u.k + 1, false⟩ : Pl)) := row_hdK (p := (⟨u.k + 1, false⟩ : Pl)) hkv
 have hvn := Pl.name_lt hE (p := (⟨u.k + 1, false⟩ : Pl)) hkv
 have hvg := targsR_lt hE (typeR_lt hE q) _ hvn.2
 have hvm := Pl.must_lt hE [40] hvg.2
 have hvk : u.k + 1 ≤ (Pl.name L (⟨u.k + 1, false⟩ : Pl)).k := hvn.1
 have hvc := argsR_count (L := L) (exprR L q) [41] ((targsR L (typeR L q) (Pl.name L (⟨u.k + 1, false⟩ : Pl))).2.must L [40])
 refine sr fun Z z => ?_
 simp [encP, h91, h123, hdot]
 refine RVn_call ((by have h := c_ref07x_Is g L hn u hk1 [46]; simp only [encP] at h; exact h)) ?_
 simp [encP, h91, h123, hdot]
 refine z _ ?_
 clear z Z
 refine cT (by simp [h91, h123, hdot]) ?_
 refine AT_skip ?_
 refine hK4 _ ?_
 refine AT_block ?_
 refine sr fun Z z => ?_
 simp [encP, hub, h91, h123, hdot]
 repeat refine sg ?_
 refine z _ ?_
 clear z Z
 refine sr fun Z z => ?_
 simp [encP, encE_mk, h91, h123, hdot]
 refine z _ ?_
 clear z Z
 refine AT_seq_k fun K5 hK5 => ?_
 cases h40 : (⟨u.k + 1, false⟩ : Pl).is L [40]
 refine sr fun Z z => ?_
 simp [encP, h91, h123, hdot, h40]
 refine RVn_call ((by have h := c_ref07x_Is g L hn (⟨u.k + 1, false⟩ : Pl) hkv [40]; simpa [encP] using h)) ?_
 simp [encP, h91, h123, hdot, h40]
 refine z _ ?_
 clear z Z
 refine cF (by simp [h91, h123, hdot, h40]) ?_
 refine AT_skip ?_
 refine hK5 _ ?_
 refine sr fun Z z => ?_
 simp [encP, h91, h123, hdot, h40]
 refine z _ ?_
 clear z Z
 refine sr fun Z z => ?_
 simp [encP, h91, h123, hdot, h40]
 refine RVn_call ((by have h := c_ref07x_Name g L hn (⟨u.k + 1, false⟩ : Pl) hkv hL; simpa [encP] using h)) ?_
 simp [encP, h91, h123, hdot, h40]
 refine z _ ?_
 clear z Z
 refine AT_seq_k fun K6 hK6 => ?_
 cases g91 : (Pl.name L (⟨u.k + 1, false⟩ : Pl)).is L [91]
 cases g40 : (Pl.name L (⟨u.k + 1, false⟩ : Pl)).is L [40]
 refine sr fun Z z => ?_
 simp [encP, h91, h123, hdot, h40, g91, g40]
 refine RVn_call ((by have h := c_ref07x_Is g L hn (Pl.name L (⟨u.k + 1, false⟩ : Pl)) hvn.2 [91]; simp only [encP] at h; exact h)) ?_
 simp [encP, h91, h123, hdot, h40, g91, g40]
 repeat refine sg ?_
 refine RVn_call ((by have h := c_ref07x_Is g L hn (Pl.name L (⟨u.k + 1, false⟩ : Pl)) hvn.2 [40]; simp only [encP] at h; exact h)) ?_
 simp [encP, h91, h123, hdot, h40, g91, g40]
 repeat refine sg ?_
 refine z _ ?_
 clear z Z
 refine cF (by simp [h91, h123, hdot, h40, g91, g40]) ?_
 refine AT_skip ?_
 refine hK6 _ ?_
 first | (refine AT_str (Gives.weakX 5 6 rfl rfl) ?_; simp only [List.set_cons_succ, List.set_cons_zero]) | skip
 refine AT_region_q fun Z z => ?_
 simp [encP, h91, h123, hdot, h40, g91, g40]
 refine z _ ?_
 clear z Z
 refine hK3 _ (by first | rfl | simp) (m) (by omega) ?_
 have hr := restR_lt hE (typeR_lt hE q) (exprR_lt hE q) e (⟨u.k + 1, false⟩ : Pl) hkv
 have hr1 : u.k + 1 ≤ ((restR L (typeR L q) (exprR L q)) e (⟨u.k + 1, false⟩ : Pl)).2.k := hr.1
 refine ⟨((restR L (typeR L q) (exprR L q)) e (⟨u.k + 1, false⟩ : Pl)).1, ((restR L (typeR L q) (exprR L q)) e (⟨u.k + 1, false⟩ : Pl)).2, m, ?_, ⟨hr.2, by omega, by omega⟩, rfl, ?_⟩
 · rw [hq, dotsR, if_pos hdot, show u.adv = (⟨u.k + 1, false⟩ : Pl) by simp [Pl.adv, hub]]
 · first
   | (· simp [restR, h40, Pl.adv, encE_mk, encTy_def, encP])
   | (· simp [restR, h40, g91, g40, Pl.adv, encE_mk, encTy_def, encP, ty0])
   | (· simp [restR, h40, g91, Pl.adv, encE_mk, encTy_def, encP, ty0])
   | (· simp [restR, h40, g40, Pl.adv, encE_mk, encTy_def, encP, ty0])
 refine sr fun Z z => ?_
 simp [encP, h91, h123, hdot, h40, g91, g40]
 refine RVn_call ((by have h := c_ref07x_Is g L hn (Pl.name L (⟨u.k + 1, false⟩ : Pl)) hvn.2 [91]; simp only [encP] at h; exact h)) ?_
 simp [encP, h91, h123, hdot, h40, g91, g40]
 repeat refine sg ?_
 refine RVn_call ((by have h := c_ref07x_Is g L hn (Pl.name L (⟨u.k + 1, false⟩ : Pl)) hvn.2 [40]; simp only [encP] at h; exact h)) ?_
 simp [encP, h91, h123, hdot, h40, g91, g40]
 repeat refine sg ?_
 refine z _ ?_
 clear z Z
 refine cT (by simp [h91, h123, hdot, h40, g91, g40]) ?_
 refine sr fun Z z => ?_
 simp [encP, h91, h123, hdot, h40, g91, g40]
 refine z _ ?_
 clear z Z
 refine sr fun Z z => ?_
 simp [encP, h91, h123, hdot, h40, g91, g40]
 refine RVn_call ((by have h := c_ref07x_targs g L hE hn q q hT (Pl.name L (⟨u.k + 1, false⟩ : Pl)) hvn.2 (fun h => by have : (Pl.name L (⟨u.k + 1, false⟩ : Pl)).adv.k = (Pl.name L (⟨u.k + 1, false⟩ : Pl)).k + 1 := rfl; omega); simp only [encP] at h; exact h)) ?_
 simp [encP, h91, h123, hdot, h40, g91, g40]
 refine z _ ?_
 clear z Z
 refine sr fun Z z => ?_
 simp [encP, h91, h123, hdot, h40, g91, g40]
 refine RVn_call ((by have h := c_ref07x_Must g L hn (targsR L (typeR L q) (Pl.name L (⟨u.k + 1, false⟩ : Pl))).2 hvg.2 [40]; simp only [encP] at h; exact h)) ?_
 simp [encP, h91, h123, hdot, h40, g91, g40]
 refine z _ ?_
 clear z Z
 refine sr fun Z z => ?_
 simp [encP, h91, h123, hdot, h40, g91, g40]
 refine z _ ?_
 clear z Z
 refine sr fun Z z => ?_
 simp [encP, h91, h123, hdot, h40, g91, g40]
 refine RVn_call ((by have h := c_ref07x_args g L hE hn q q ih [41] ((targsR L (typeR L q) (Pl.name L (⟨u.k + 1, false⟩ : Pl))).2.must L [40]) hvm.2 (fun _ => by omega); simp only [encP] at h; exact h)) ?_
 simp [encP, h91, h123, hdot, h40, g91, g40]
 refine z _ ?_
 clear z Z
 refine AT_region_q fun Z z => ?_
 simp [encP, h91, h123, hdot, h40, g91, g40]
 repeat refine sg ?_
 refine z _ ?_
 clear z Z
 refine hK6 _ ?_
 first | (refine AT_str (Gives.weakX 5 6 rfl rfl) ?_; simp only [List.set_cons_succ, List.set_cons_zero]) | skip
 refine AT_region_q fun Z z => ?_
 simp [encP, h91, h123, hdot, h40, g91, g40]
 refine z _ ?_
 clear z Z
 refine hK3 _ (by first | rfl | simp) (m) (by omega) ?_
 have hr := restR_lt hE (typeR_lt hE q) (exprR_lt hE q) e (⟨u.k + 1, false⟩ : Pl) hkv
 have hr1 : u.k + 1 ≤ ((restR L (typeR L q) (exprR L q)) e (⟨u.k + 1, false⟩ : Pl)).2.k := hr.1
 refine ⟨((restR L (typeR L q) (exprR L q)) e (⟨u.k + 1, false⟩ : Pl)).1, ((restR L (typeR L q) (exprR L q)) e (⟨u.k + 1, false⟩ : Pl)).2, m, ?_, ⟨hr.2, by omega, by omega⟩, rfl, ?_⟩
 · rw [hq, dotsR, if_pos hdot, show u.adv = (⟨u.k + 1, false⟩ : Pl) by simp [Pl.adv, hub]]
 · first
   | (· simp [restR, h40, Pl.adv, encE_mk, encTy_def, encP])
   | (· simp [restR, h40, g91, g40, Pl.adv, encE_mk, encTy_def, encP, ty0])
   | (· simp [restR, h40, g91, Pl.adv, encE_mk, encTy_def, encP, ty0])
   | (· simp [restR, h40, g40, Pl.adv, encE_mk, encTy_def, encP, ty0])
 refine sr fun Z z => ?_
 simp [encP, h91, h123, hdot, h40, g91]
 refine RVn_call ((by have h := c_ref07x_Is g L hn (Pl.name L (⟨u.k + 1, false⟩ : Pl)) hvn.2 [91]; simp only [encP] at h; exact h)) ?_
 simp [encP, h91, h123, hdot, h40, g91]
 repeat refine sg ?_
 refine z _ ?_
 clear z Z
 refine cT (by simp [h91, h123, hdot, h40, g91]) ?_
 refine sr fun Z z => ?_
 simp [encP, h91, h123, hdot, h40, g91]
 refine z _ ?_
 clear z Z
 refine sr fun Z z => ?_
 simp [encP, h91, h123, hdot, h40, g91]
 refine RVn_call ((by have h := c_ref07x_targs g L hE hn q q hT (Pl.name L (⟨u.k + 1, false⟩ : Pl)) hvn.2 (fun h => by have : (Pl.name L (⟨u.k + 1, false⟩ : Pl)).adv.k = (Pl.name L (⟨u.k + 1, false⟩ : Pl)).k + 1 := rfl; omega); simp only [encP] at h; exact h)) ?_
 simp [encP, h91, h123, hdot, h40, g91]
 refine z _ ?_
 clear z Z
 refine sr fun Z z => ?_
 simp [encP, h91, h123, hdot, h40, g91]
 refine RVn_call ((by have h := c_ref07x_Must g L hn (targsR L (typeR L q) (Pl.name L (⟨u.k + 1, false⟩ : Pl))).2 hvg.2 [40]; simp only [encP] at h; exact h)) ?_
 simp [encP, h91, h123, hdot, h40, g91]
 refine z _ ?_
 clear z Z
 refine sr fun Z z => ?_
 simp [encP, h91, h123, hdot, h40, g91]
 refine z _ ?_
 clear z Z
 refine sr fun Z z => ?_
 simp [encP, h91, h123, hdot, h40, g91]
 refine RVn_call ((by have h := c_ref07x_args g L hE hn q q ih [41] ((targsR L (typeR L q) (Pl.name L (⟨u.k + 1, false⟩ : Pl))).2.must L [40]) hvm.2 (fun _ => by omega); simp only [encP] at h; exact h)) ?_
 simp [encP, h91, h123, hdot, h40, g91]
 refine z _ ?_
 clear z Z
 refine AT_region_q fun Z z => ?_
 simp [encP, h91, h123, hdot, h40, g91]
 repeat refine sg ?_
 refine z _ ?_
 clear z Z
 refine hK6 _ ?_
 first | (refine AT_str (Gives.weakX 5 6 rfl rfl) ?_; simp only [List.set_cons_succ, List.set_cons_zero]) | skip
 refine AT_region_q fun Z z => ?_
 simp [encP, h91, h123, hdot, h40, g91]
 refine z _ ?_
 clear z Z
 refine hK3 _ (by first | rfl | simp) (m) (by omega) ?_
 have hr := restR_lt hE (typeR_lt hE q) (exprR_lt hE q) e (⟨u.k + 1, false⟩ : Pl) hkv
 have hr1 : u.k + 1 ≤ ((restR L (typeR L q) (exprR L q)) e (⟨u.k + 1, false⟩ : Pl)).2.k := hr.1
 refine ⟨((restR L (typeR L q) (exprR L q)) e (⟨u.k + 1, false⟩ : Pl)).1, ((restR L (typeR L q) (exprR L q)) e (⟨u.k + 1, false⟩ : Pl)).2, m, ?_, ⟨hr.2, by omega, by omega⟩, rfl, ?_⟩
 · rw [hq, dotsR, if_pos hdot, show u.adv = (⟨u.k + 1, false⟩ : Pl) by simp [Pl.adv, hub]]
 · first
   | (· simp [restR, h40, Pl.adv, encE_mk, encTy_def, encP])
   | (· simp [restR, h40, g91, g40, Pl.adv, encE_mk, encTy_def, encP, ty0])
   | (· simp [restR, h40, g91, Pl.adv, encE_mk, encTy_def, encP, ty0])
   | (· simp [restR, h40, g40, Pl.adv, encE_mk, encTy_def, encP, ty0])
 have hk2v : u.k + 1 + 1 < L.length := Pl.adv_lt hE (p := (⟨u.k + 1, false⟩ : Pl)) hkv h40
 have htv := typeR_lt hE q (⟨u.k + 1 + 1, false⟩ : Pl) hk2v
 refine sr fun Z z => ?_
 simp [encP, h91, h123, hdot, h40]
 refine RVn_call ((by have h := c_ref07x_Is g L hn (⟨u.k + 1, false⟩ : Pl) hkv [40]; simpa [encP] using h)) ?_
 simp [encP, h91, h123, hdot, h40]
 refine z _ ?_
 clear z Z
 refine cT (by simp [h91, h123, hdot, h40]) ?_
 refine AT_str (Gives.weakX 5 6 rfl rfl) ?_
 simp only [List.set_cons_succ, List.set_cons_zero]
 refine sr fun Z z => ?_
 simp [encP, h91, h123, hdot, h40]
 refine z _ ?_
 clear z Z
 refine sr fun Z z => ?_
 simp [encP, hvr, encK, h91, h123, hdot, h40]
 repeat refine sg ?_
 refine z _ ?_
 clear z Z
 refine sr fun Z z => ?_
 simp [encP, h91, h123, hdot, h40]
 repeat refine sg ?_
 refine z _ ?_
 clear z Z
 refine sr fun Z z => ?_
 simp [encP, encTy_def, h91, h123, hdot, h40]
 refine RVn_call ((by have h := c_ref07x_Type g L hE hn hL q (⟨u.k + 1 + 1, false⟩ : Pl) (by show L.length - (u.k + 1 + 1) < q; omega) hk2v; simpa [encP] using h)) ?_
 simp [encP, encTy_def, h91, h123, hdot, h40]
 refine z _ ?_
 clear z Z
 refine sr fun Z z => ?_
 simp [encP, h91, h123, hdot, h40]
 refine RVn_call ((by have h := c_ref07x_Must g L hn (typeR L q (⟨u.k + 1 + 1, false⟩ : Pl)).2 htv.2 [41]; simp only [encP] at h; exact h)) ?_
 simp [encP, h91, h123, hdot, h40]
 refine z _ ?_
 clear z Z
 refine sr fun Z z => ?_
 simp [encP, encE_mk, encTy_def, h91, h123, hdot, h40]
 refine z _ ?_
 clear z Z
 refine AT_exit ?_
 refine hK3 _ (by first | rfl | simp) (m) (by omega) ?_
 have hr := restR_lt hE (typeR_lt hE q) (exprR_lt hE q) e (⟨u.k + 1, false⟩ : Pl) hkv
 have hr1 : u.k + 1 ≤ ((restR L (typeR L q) (exprR L q)) e (⟨u.k + 1, false⟩ : Pl)).2.k := hr.1
 refine ⟨((restR L (typeR L q) (exprR L q)) e (⟨u.k + 1, false⟩ : Pl)).1, ((restR L (typeR L q) (exprR L q)) e (⟨u.k + 1, false⟩ : Pl)).2, m, ?_, ⟨hr.2, by omega, by omega⟩, rfl, ?_⟩
 · rw [hq, dotsR, if_pos hdot, show u.adv = (⟨u.k + 1, false⟩ : Pl) by simp [Pl.adv, hub]]
 · first
   | (· simp [restR, h40, Pl.adv, encE_mk, encTy_def, encP])
   | (· simp [restR, h40, g91, g40, Pl.adv, encE_mk, encTy_def, encP, ty0])
   | (· simp [restR, h40, g91, Pl.adv, encE_mk, encTy_def, encP, ty0])
   | (· simp [restR, h40, g40, Pl.adv, encE_mk, encTy_def, encP, ty0])
 have hnq := hnk p _ h123
 have hbd := (Pl.is_bad h123).1
 refine sr fun Z z => ?_
 simp [encP, h91, h123]
 refine RVn_call ((by have h := c_ref07x_Is g L hn (p.name L) hnl.2 [91]; simp only [encP] at h; exact h)) ?_
 simp [encP, h91, h123]
 repeat refine sg ?_
 refine RVn_call ((by have h := c_ref07x_Is g L hn (p.name L) hnl.2 [123]; simp only [encP] at h; exact h)) ?_
 simp [encP, h91, h123]
 repeat refine sg ?_
 refine z _ ?_
 clear z Z
 refine cT (by simp [h91, h123]) ?_
 refine sr fun Z z => ?_
 simp [encP, h91, h123]
 refine z _ ?_
 clear z Z
 refine sr fun Z z => ?_
 simp [encP, h91, h123]
 refine RVn_call ((by have h := c_ref07x_targs g L hE hn q q hT (p.name L) hnl.2 (fun h => by have : (p.name L).adv.k = (p.name L).k + 1 := rfl; omega); simp only [encP] at h; exact h)) ?_
 simp [encP, h91, h123]
 refine z _ ?_
 clear z Z
 refine sr fun Z z => ?_
 simp [encP, h91, h123]
 refine RVn_call ((by have h := c_ref07x_Must g L hn (targsR L (typeR L q) (p.name L)).2 hgl.2 [123]; simp only [encP] at h; exact h)) ?_
 simp [encP, h91, h123]
 refine z _ ?_
 clear z Z
 refine AT_region_q fun Z z => ?_
 simp [encP, h91, h123]
 refine RVn_call ((by have h := c_ref07x_args g L hE hn q q ih [125] ((targsR L (typeR L q) (p.name L)).2.must L [123]) hml.2 (fun _ => by omega); simp only [encP] at h; exact h)) ?_
 simp [encP, h91, h123]
 refine z _ ?_
 clear z Z
 refine hK1 _ ?_
 refine AT_seq_k fun K7 hK7 => ?_
 refine AT_block ?_
 refine AT_loop_q [1,2,3,4] [1,2,3,4] (fun j s => ∃ e u m, dotsR L (restR L (typeR L q) (exprR L q)) (L.length - (baseR L (typeR L q) (exprR L q) p).2.k) (baseR L (typeR L q) (exprR L q) p).1 (baseR L (typeR L q) (exprR L q) p).2 = dotsR L (restR L (typeR L q) (exprR L q)) m e u ∧ (u.k < L.length ∧ L.length - u.k ≤ m ∧ L.length - u.k ≤ q) ∧ j = m ∧ s = { n := 115, tm := [(1, .lp 1 0), (2, .lp 2 0), (3, .lp 3 0), (4, .lp 4 0)], bx := [(1, encP L u), (2, [.slice [], .int .i64 0, .bool false]), (3, [.int .i64 0, .str [], .str [], .slice [], .int .i64 0, .slice [], .slice [], .int .i64 0]), (4, encE e)], tb := [], sh := [], hint := [(300052, 0)] }) (L.length - (baseR L (typeR L q) (exprR L q) p).2.k) (by first | rfl | simp) ?_ ?_
 refine ⟨(baseR L (typeR L q) (exprR L q) p).1, (baseR L (typeR L q) (exprR L q) p).2, L.length - (baseR L (typeR L q) (exprR L q) p).2.k, rfl, ⟨hbl.2, Nat.le_refl _, by omega⟩, rfl, ?_⟩
 (· simp [baseR, h91, h123, encE_mk, ty0, encP])
 rintro j s ⟨e, u, m, hq, ⟨hk1, hk2, hk3⟩, hjm, rfl⟩ K8 hK8
 subst hjm
 obtain ⟨m, rfl⟩ : ∃ i, j = i + 1 := ⟨j - 1, by omega⟩
 refine AT_seq_k fun K9 hK9 => ?_
 cases hdot : u.is L [46]
 refine sr fun Z z => ?_
 simp [encP, h91, h123, hdot]
 refine RVn_call ((by have h := c_ref07x_Is g L hn u hk1 [46]; simp only [encP] at h; exact h)) ?_
 simp [encP, h91, h123, hdot]
 refine z _ ?_
 clear z Z
 refine cF (by simp [h91, h123, hdot]) ?_
 refine AT_exit ?_
 refine hK7 _ ?_
 refine AT_seq_draw_m false [(1, 1), (2, 2), (3, 3), (4, 4)] Pt.mixed (by kernel_rfl) ⟨by simp [Im, okP, AS.get, look, TV.strip], fun h => by cases h⟩ fun Z z => ?_
 simp [encP, h91, h123, hdot]
 refine z _ ?_
 clear z Z
 refine AT_ret ?_
 simp [encP, Tryz.f38]
 rw [exprR, hq, dotsR, if_neg (by simp [hdot])]; simp [encP]
 have hub := (Pl.is_bad hdot).1
 have hkv : u.k + 1 < L.length := Pl.adv_lt hE hk1 hdot
 have hvr : row (L.map encK) (u.k + 1) = encK (hdK L (⟨u.k + 1, false⟩ : Pl)) := row_hdK (p := (⟨u.k + 1, false⟩ : Pl)) hkv
 have hvn := Pl.name_lt hE (p := (⟨u.k + 1, false⟩ : Pl)) hkv
 have hvg := targsR_lt hE (typeR_lt hE q) _ hvn.2
 have hvm := Pl.must_lt hE [40] hvg.2
 have hvk : u.k + 1 ≤ (Pl.name L (⟨u.k + 1, false⟩ : Pl)).k := hvn.1
 have hvc := argsR_count (L := L) (exprR L q) [41] ((targsR L (typeR L q) (Pl.name L (⟨u.k + 1, false⟩ : Pl))).2.must L [40])
 refine sr fun Z z => ?_
 simp [encP, h91, h123, hdot]
 refine RVn_call ((by have h := c_ref07x_Is g L hn u hk1 [46]; simp only [encP] at h; exact h)) ?_
 simp [encP, h91, h123, hdot]
 refine z _ ?_
 clear z Z
 refine cT (by simp [h91, h123, hdot]) ?_
 refine AT_skip ?_
 refine hK9 _ ?_
 refine AT_block ?_
 refine sr fun Z z => ?_
 simp [encP, hub, h91, h123, hdot]
 repeat refine sg ?_
 refine z _ ?_
 clear z Z
 refine sr fun Z z => ?_
 simp [encP, encE_mk, h91, h123, hdot]
 refine z _ ?_
 clear z Z
 refine AT_seq_k fun K10 hK10 => ?_
 cases h40 : (⟨u.k + 1, false⟩ : Pl).is L [40]
 refine sr fun Z z => ?_
 simp [encP, h91, h123, hdot, h40]
 refine RVn_call ((by have h := c_ref07x_Is g L hn (⟨u.k + 1, false⟩ : Pl) hkv [40]; simpa [encP] using h)) ?_
 simp [encP, h91, h123, hdot, h40]
 refine z _ ?_
 clear z Z
 refine cF (by simp [h91, h123, hdot, h40]) ?_
 refine AT_skip ?_
 refine hK10 _ ?_
 refine sr fun Z z => ?_
 simp [encP, h91, h123, hdot, h40]
 refine z _ ?_
 clear z Z
 refine sr fun Z z => ?_
 simp [encP, h91, h123, hdot, h40]
 refine RVn_call ((by have h := c_ref07x_Name g L hn (⟨u.k + 1, false⟩ : Pl) hkv hL; simpa [encP] using h)) ?_
 simp [encP, h91, h123, hdot, h40]
 refine z _ ?_
 clear z Z
 refine AT_seq_k fun K11 hK11 => ?_
 cases g91 : (Pl.name L (⟨u.k + 1, false⟩ : Pl)).is L [91]
 cases g40 : (Pl.name L (⟨u.k + 1, false⟩ : Pl)).is L [40]
 refine sr fun Z z => ?_
 simp [encP, h91, h123, hdot, h40, g91, g40]
 refine RVn_call ((by have h := c_ref07x_Is g L hn (Pl.name L (⟨u.k + 1, false⟩ : Pl)) hvn.2 [91]; simp only [encP] at h; exact h)) ?_
 simp [encP, h91, h123, hdot, h40, g91, g40]
 repeat refine sg ?_
 refine RVn_call ((by have h := c_ref07x_Is g L hn (Pl.name L (⟨u.k + 1, false⟩ : Pl)) hvn.2 [40]; simp only [encP] at h; exact h)) ?_
 simp [encP, h91, h123, hdot, h40, g91, g40]
 repeat refine sg ?_
 refine z _ ?_
 clear z Z
 refine cF (by simp [h91, h123, hdot, h40, g91, g40]) ?_
 refine AT_skip ?_
 refine hK11 _ ?_
 first | (refine AT_str (Gives.weakX 5 6 rfl rfl) ?_; simp only [List.set_cons_succ, List.set_cons_zero]) | skip
 refine AT_region_q fun Z z => ?_
 simp [encP, h91, h123, hdot, h40, g91, g40]
 refine z _ ?_
 clear z Z
 refine hK8 _ (by first | rfl | simp) (m) (by omega) ?_
 have hr := restR_lt hE (typeR_lt hE q) (exprR_lt hE q) e (⟨u.k + 1, false⟩ : Pl) hkv
 have hr1 : u.k + 1 ≤ ((restR L (typeR L q) (exprR L q)) e (⟨u.k + 1, false⟩ : Pl)).2.k := hr.1
 refine ⟨((restR L (typeR L q) (exprR L q)) e (⟨u.k + 1, false⟩ : Pl)).1, ((restR L (typeR L q) (exprR L q)) e (⟨u.k + 1, false⟩ : Pl)).2, m, ?_, ⟨hr.2, by omega, by omega⟩, rfl, ?_⟩
 · rw [hq, dotsR, if_pos hdot, show u.adv = (⟨u.k + 1, false⟩ : Pl) by simp [Pl.adv, hub]]
 · first
   | (· simp [restR, h40, Pl.adv, encE_mk, encTy_def, encP])
   | (· simp [restR, h40, g91, g40, Pl.adv, encE_mk, encTy_def, encP, ty0])
   | (· simp [restR, h40, g91, Pl.adv, encE_mk, encTy_def, encP, ty0])
   | (· simp [restR, h40, g40, Pl.adv, encE_mk, encTy_def, encP, ty0])
 refine sr fun Z z => ?_
 simp [encP, h91, h123, hdot, h40, g91, g40]
 refine RVn_call ((by have h := c_ref07x_Is g L hn (Pl.name L (⟨u.k + 1, false⟩ : Pl)) hvn.2 [91]; simp only [encP] at h; exact h)) ?_
 simp [encP, h91, h123, hdot, h40, g91, g40]
 repeat refine sg ?_
 refine RVn_call ((by have h := c_ref07x_Is g L hn (Pl.name L (⟨u.k + 1, false⟩ : Pl)) hvn.2 [40]; simp only [encP] at h; exact h)) ?_
 simp [encP, h91, h123, hdot, h40, g91, g40]
 repeat refine sg ?_
 refine z _ ?_
 clear z Z
 refine cT (by simp [h91, h123, hdot, h40, g91, g40]) ?_
 refine sr fun Z z => ?_
 simp [encP, h91, h123, hdot, h40, g91, g40]
 refine z _ ?_
 clear z Z
 refine sr fun Z z => ?_
 simp [encP, h91, h123, hdot, h40, g91, g40]
 refine RVn_call ((by have h := c_ref07x_targs g L hE hn q q hT (Pl.name L (⟨u.k + 1, false⟩ : Pl)) hvn.2 (fun h => by have : (Pl.name L (⟨u.k + 1, false⟩ : Pl)).adv.k = (Pl.name L (⟨u.k + 1, false⟩ : Pl)).k + 1 := rfl; omega); simp only [encP] at h; exact h)) ?_
 simp [encP, h91, h123, hdot, h40, g91, g40]
 refine z _ ?_
 clear z Z
 refine sr fun Z z => ?_
 simp [encP, h91, h123, hdot, h40, g91, g40]
 refine RVn_call ((by have h := c_ref07x_Must g L hn (targsR L (typeR L q) (Pl.name L (⟨u.k + 1, false⟩ : Pl))).2 hvg.2 [40]; simp only [encP] at h; exact h)) ?_
 simp [encP, h91, h123, hdot, h40, g91, g40]
 refine z _ ?_
 clear z Z
 refine sr fun Z z => ?_
 simp [encP, h91, h123, hdot, h40, g91, g40]
 refine z _ ?_
 clear z Z
 refine sr fun Z z => ?_
 simp [encP, h91, h123, hdot, h40, g91, g40]
 refine RVn_call ((by have h := c_ref07x_args g L hE hn q q ih [41] ((targsR L (typeR L q) (Pl.name L (⟨u.k + 1, false⟩ : Pl))).2.must L [40]) hvm.2 (fun _ => by omega); simp only [encP] at h; exact h)) ?_
 simp [encP, h91, h123, hdot, h40, g91, g40]
 refine z _ ?_
 clear z Z
 refine AT_region_q fun Z z => ?_
 simp [encP, h91, h123, hdot, h40, g91, g40]
 repeat refine sg ?_
 refine z _ ?_
 clear z Z
 refine hK11 _ ?_
 first | (refine AT_str (Gives.weakX 5 6 rfl rfl) ?_; simp only [List.set_cons_succ, List.set_cons_zero]) | skip
 refine AT_region_q fun Z z => ?_
 simp [encP, h91, h123, hdot, h40, g91, g40]
 refine z _ ?_
 clear z Z
 refine hK8 _ (by first | rfl | simp) (m) (by omega) ?_
 have hr := restR_lt hE (typeR_lt hE q) (exprR_lt hE q) e (⟨u.k + 1, false⟩ : Pl) hkv
 have hr1 : u.k + 1 ≤ ((restR L (typeR L q) (exprR L q)) e (⟨u.k + 1, false⟩ : Pl)).2.k := hr.1
 refine ⟨((restR L (typeR L q) (exprR L q)) e (⟨u.k + 1, false⟩ : Pl)).1, ((restR L (typeR L q) (exprR L q)) e (⟨u.k + 1, false⟩ : Pl)).2, m, ?_, ⟨hr.2, by omega, by omega⟩, rfl, ?_⟩
 · rw [hq, dotsR, if_pos hdot, show u.adv = (⟨u.k + 1, false⟩ : Pl) by simp [Pl.adv, hub]]
 · first
   | (· simp [restR, h40, Pl.adv, encE_mk, encTy_def, encP])
   | (· simp [restR, h40, g91, g40, Pl.adv, encE_mk, encTy_def, encP, ty0])
   | (· simp [restR, h40, g91, Pl.adv, encE_mk, encTy_def, encP, ty0])
   | (· simp [restR, h40, g40, Pl.adv, encE_mk, encTy_def, encP, ty0])
 refine sr fun Z z => ?_
 simp [encP, h91, h123, hdot, h40, g91]
 refine RVn_call ((by have h := c_ref07x_Is g L hn (Pl.name L (⟨u.k + 1, false⟩ : Pl)) hvn.2 [91]; simp only [encP] at h; exact h)) ?_
 simp [encP, h91, h123, hdot, h40, g91]
 repeat refine sg ?_
 refine z _ ?_
 clear z Z
 refine cT (by simp [h91, h123, hdot, h40, g91]) ?_
 refine sr fun Z z => ?_
 simp [encP, h91, h123, hdot, h40, g91]
 refine z _ ?_
 clear z Z
 refine sr fun Z z => ?_
 simp [encP, h91, h123, hdot, h40, g91]
 refine RVn_call ((by have h := c_ref07x_targs g L hE hn q q hT (Pl.name L (⟨u.k + 1, false⟩ : Pl)) hvn.2 (fun h => by have : (Pl.name L (⟨u.k + 1, false⟩ : Pl)).adv.k = (Pl.name L (⟨u.k + 1, false⟩ : Pl)).k + 1 := rfl; omega); simp only [encP] at h; exact h)) ?_
 simp [encP, h91, h123, hdot, h40, g91]
 refine z _ ?_
 clear z Z
 refine sr fun Z z => ?_
 simp [encP, h91, h123, hdot, h40, g91]
 refine RVn_call ((by have h := c_ref07x_Must g L hn (targsR L (typeR L q) (Pl.name L (⟨u.k + 1, false⟩ : Pl))).2 hvg.2 [40]; simp only [encP] at h; exact h)) ?_
 simp [encP, h91, h123, hdot, h40, g91]
 refine z _ ?_
 clear z Z
 refine sr fun Z z => ?_
 simp [encP, h91, h123, hdot, h40, g91]
 refine z _ ?_
 clear z Z
 refine sr fun Z z => ?_
 simp [encP, h91, h123, hdot, h40, g91]
 refine RVn_call ((by have h := c_ref07x_args g L hE hn q q ih [41] ((targsR L (typeR L q) (Pl.name L (⟨u.k + 1, false⟩ : Pl))).2.must L [40]) hvm.2 (fun _ => by omega); simp only [encP] at h; exact h)) ?_
 simp [encP, h91, h123, hdot, h40, g91]
 refine z _ ?_
 clear z Z
 refine AT_region_q fun Z z => ?_
 simp [encP, h91, h123, hdot, h40, g91]
 repeat refine sg ?_
 refine z _ ?_
 clear z Z
 refine hK11 _ ?_
 first | (refine AT_str (Gives.weakX 5 6 rfl rfl) ?_; simp only [List.set_cons_succ, List.set_cons_zero]) | skip
 refine AT_region_q fun Z z => ?_
 simp [encP, h91, h123, hdot, h40, g91]
 refine z _ ?_
 clear z Z
 refine hK8 _ (by first | rfl | simp) (m) (by omega) ?_
 have hr := restR_lt hE (typeR_lt hE q) (exprR_lt hE q) e (⟨u.k + 1, false⟩ : Pl) hkv
 have hr1 : u.k + 1 ≤ ((restR L (typeR L q) (exprR L q)) e (⟨u.k + 1, false⟩ : Pl)).2.k := hr.1
 refine ⟨((restR L (typeR L q) (exprR L q)) e (⟨u.k + 1, false⟩ : Pl)).1, ((restR L (typeR L q) (exprR L q)) e (⟨u.k + 1, false⟩ : Pl)).2, m, ?_, ⟨hr.2, by omega, by omega⟩, rfl, ?_⟩
 · rw [hq, dotsR, if_pos hdot, show u.adv = (⟨u.k + 1, false⟩ : Pl) by simp [Pl.adv, hub]]
 · first
   | (· simp [restR, h40, Pl.adv, encE_mk, encTy_def, encP])
   | (· simp [restR, h40, g91, g40, Pl.adv, encE_mk, encTy_def, encP, ty0])
   | (· simp [restR, h40, g91, Pl.adv, encE_mk, encTy_def, encP, ty0])
   | (· simp [restR, h40, g40, Pl.adv, encE_mk, encTy_def, encP, ty0])
 have hk2v : u.k + 1 + 1 < L.length := Pl.adv_lt hE (p := (⟨u.k + 1, false⟩ : Pl)) hkv h40
 have htv := typeR_lt hE q (⟨u.k + 1 + 1, false⟩ : Pl) hk2v
 refine sr fun Z z => ?_
 simp [encP, h91, h123, hdot, h40]
 refine RVn_call ((by have h := c_ref07x_Is g L hn (⟨u.k + 1, false⟩ : Pl) hkv [40]; simpa [encP] using h)) ?_
 simp [encP, h91, h123, hdot, h40]
 refine z _ ?_
 clear z Z
 refine cT (by simp [h91, h123, hdot, h40]) ?_
 refine AT_str (Gives.weakX 5 6 rfl rfl) ?_
 simp only [List.set_cons_succ, List.set_cons_zero]
 refine sr fun Z z => ?_
 simp [encP, h91, h123, hdot, h40]
 refine z _ ?_
 clear z Z
 refine sr fun Z z => ?_
 simp [encP, hvr, encK, h91, h123, hdot, h40]
 repeat refine sg ?_
 refine z _ ?_
 clear z Z
 refine sr fun Z z => ?_
 simp [encP, h91, h123, hdot, h40]
 repeat refine sg ?_
 refine z _ ?_
 clear z Z
 refine sr fun Z z => ?_
 simp [encP, encTy_def, h91, h123, hdot, h40]
 refine RVn_call ((by have h := c_ref07x_Type g L hE hn hL q (⟨u.k + 1 + 1, false⟩ : Pl) (by show L.length - (u.k + 1 + 1) < q; omega) hk2v; simpa [encP] using h)) ?_
 simp [encP, encTy_def, h91, h123, hdot, h40]
 refine z _ ?_
 clear z Z
 refine sr fun Z z => ?_
 simp [encP, h91, h123, hdot, h40]
 refine RVn_call ((by have h := c_ref07x_Must g L hn (typeR L q (⟨u.k + 1 + 1, false⟩ : Pl)).2 htv.2 [41]; simp only [encP] at h; exact h)) ?_
 simp [encP, h91, h123, hdot, h40]
 refine z _ ?_
 clear z Z
 refine sr fun Z z => ?_
 simp [encP, encE_mk, encTy_def, h91, h123, hdot, h40]
 refine z _ ?_
 clear z Z
 refine AT_exit ?_
 refine hK8 _ (by first | rfl | simp) (m) (by omega) ?_
 have hr := restR_lt hE (typeR_lt hE q) (exprR_lt hE q) e (⟨u.k + 1, false⟩ : Pl) hkv
 have hr1 : u.k + 1 ≤ ((restR L (typeR L q) (exprR L q)) e (⟨u.k + 1, false⟩ : Pl)).2.k := hr.1
 refine ⟨((restR L (typeR L q) (exprR L q)) e (⟨u.k + 1, false⟩ : Pl)).1, ((restR L (typeR L q) (exprR L q)) e (⟨u.k + 1, false⟩ : Pl)).2, m, ?_, ⟨hr.2, by omega, by omega⟩, rfl, ?_⟩
 · rw [hq, dotsR, if_pos hdot, show u.adv = (⟨u.k + 1, false⟩ : Pl) by simp [Pl.adv, hub]]
 · first
   | (· simp [restR, h40, Pl.adv, encE_mk, encTy_def, encP])
   | (· simp [restR, h40, g91, g40, Pl.adv, encE_mk, encTy_def, encP, ty0])
   | (· simp [restR, h40, g91, Pl.adv, encE_mk, encTy_def, encP, ty0])
   | (· simp [restR, h40, g40, Pl.adv, encE_mk, encTy_def, encP, ty0])
 have hnq := hnk p _ h91
 have hbd := (Pl.is_bad h91).1
 refine sr fun Z z => ?_
 simp [encP, h91]
 refine RVn_call ((by have h := c_ref07x_Is g L hn (p.name L) hnl.2 [91]; simp only [encP] at h; exact h)) ?_
 simp [encP, h91]
 repeat refine sg ?_
 refine z _ ?_
 clear z Z
 refine cT (by simp [h91]) ?_
 refine sr fun Z z => ?_
 simp [encP, h91]
 refine z _ ?_
 clear z Z
 refine sr fun Z z => ?_
 simp [encP, h91]
 refine RVn_call ((by have h := c_ref07x_targs g L hE hn q q hT (p.name L) hnl.2 (fun h => by have : (p.name L).adv.k = (p.name L).k + 1 := rfl; omega); simp only [encP] at h; exact h)) ?_
 simp [encP, h91]
 refine z _ ?_
 clear z Z
 refine sr fun Z z => ?_
 simp [encP, h91]
 refine RVn_call ((by have h := c_ref07x_Must g L hn (targsR L (typeR L q) (p.name L)).2 hgl.2 [123]; simp only [encP] at h; exact h)) ?_
 simp [encP, h91]
 refine z _ ?_
 clear z Z
 refine AT_region_q fun Z z => ?_
 simp [encP, h91]
 refine RVn_call ((by have h := c_ref07x_args g L hE hn q q ih [125] ((targsR L (typeR L q) (p.name L)).2.must L [123]) hml.2 (fun _ => by omega); simp only [encP] at h; exact h)) ?_
 simp [encP, h91]
 refine z _ ?_
 clear z Z
 refine hK1 _ ?_
 refine AT_seq_k fun K12 hK12 => ?_
 refine AT_block ?_
 refine AT_loop_q [1,2,3,4] [1,2,3,4] (fun j s => ∃ e u m, dotsR L (restR L (typeR L q) (exprR L q)) (L.length - (baseR L (typeR L q) (exprR L q) p).2.k) (baseR L (typeR L q) (exprR L q) p).1 (baseR L (typeR L q) (exprR L q) p).2 = dotsR L (restR L (typeR L q) (exprR L q)) m e u ∧ (u.k < L.length ∧ L.length - u.k ≤ m ∧ L.length - u.k ≤ q) ∧ j = m ∧ s = { n := 115, tm := [(1, .lp 1 0), (2, .lp 2 0), (3, .lp 3 0), (4, .lp 4 0)], bx := [(1, encP L u), (2, [.slice [], .int .i64 0, .bool false]), (3, [.int .i64 0, .str [], .str [], .slice [], .int .i64 0, .slice [], .slice [], .int .i64 0]), (4, encE e)], tb := [], sh := [], hint := [(300052, 0)] }) (L.length - (baseR L (typeR L q) (exprR L q) p).2.k) (by first | rfl | simp) ?_ ?_
 refine ⟨(baseR L (typeR L q) (exprR L q) p).1, (baseR L (typeR L q) (exprR L q) p).2, L.length - (baseR L (typeR L q) (exprR L q) p).2.k, rfl, ⟨hbl.2, Nat.le_refl _, by omega⟩, rfl, ?_⟩
 (· simp [baseR, h91, encE_mk, encP])
 rintro j s ⟨e, u, m, hq, ⟨hk1, hk2, hk3⟩, hjm, rfl⟩ K13 hK13
 subst hjm
 obtain ⟨m, rfl⟩ : ∃ i, j = i + 1 := ⟨j - 1, by omega⟩
 refine AT_seq_k fun K14 hK14 => ?_
 cases hdot : u.is L [46]
 refine sr fun Z z => ?_
 simp [encP, h91, hdot]
 refine RVn_call ((by have h := c_ref07x_Is g L hn u hk1 [46]; simp only [encP] at h; exact h)) ?_
 simp [encP, h91, hdot]
 refine z _ ?_
 clear z Z
 refine cF (by simp [h91, hdot]) ?_
 refine AT_exit ?_
 refine hK12 _ ?_
 refine AT_seq_draw_m false [(1, 1), (2, 2), (3, 3), (4, 4)] Pt.mixed (by kernel_rfl) ⟨by simp [Im, okP, AS.get, look, TV.strip], fun h => by cases h⟩ fun Z z => ?_
 simp [encP, h91, hdot]
 refine z _ ?_
 clear z Z
 refine AT_ret ?_
 simp [encP, Tryz.f38]
 rw [exprR, hq, dotsR, if_neg (by simp [hdot])]; simp [encP]
 have hub := (Pl.is_bad hdot).1
 have hkv : u.k + 1 < L.length := Pl.adv_lt hE hk1 hdot
 have hvr : row (L.map encK) (u.k + 1) = encK (hdK L (⟨u.k + 1, false⟩ : Pl)) := row_hdK (p := (⟨u.k + 1, false⟩ : Pl)) hkv
 have hvn := Pl.name_lt hE (p := (⟨u.k + 1, false⟩ : Pl)) hkv
 have hvg := targsR_lt hE (typeR_lt hE q) _ hvn.2
 have hvm := Pl.must_lt hE [40] hvg.2
 have hvk : u.k + 1 ≤ (Pl.name L (⟨u.k + 1, false⟩ : Pl)).k := hvn.1
 have hvc := argsR_count (L := L) (exprR L q) [41] ((targsR L (typeR L q) (Pl.name L (⟨u.k + 1, false⟩ : Pl))).2.must L [40])
 refine sr fun Z z => ?_
 simp [encP, h91, hdot]
 refine RVn_call ((by have h := c_ref07x_Is g L hn u hk1 [46]; simp only [encP] at h; exact h)) ?_
 simp [encP, h91, hdot]
 refine z _ ?_
 clear z Z
 refine cT (by simp [h91, hdot]) ?_
 refine AT_skip ?_
 refine hK14 _ ?_
 refine AT_block ?_
 refine sr fun Z z => ?_
 simp [encP, hub, h91, hdot]
 repeat refine sg ?_
 refine z _ ?_
 clear z Z
 refine sr fun Z z => ?_
 simp [encP, encE_mk, h91, hdot]
 refine z _ ?_
 clear z Z
 refine AT_seq_k fun K15 hK15 => ?_
 cases h40 : (⟨u.k + 1, false⟩ : Pl).is L [40]
 refine sr fun Z z => ?_
 simp [encP, h91, hdot, h40]
 refine RVn_call ((by have h := c_ref07x_Is g L hn (⟨u.k + 1, false⟩ : Pl) hkv [40]; simpa [encP] using h)) ?_
 simp [encP, h91, hdot, h40]
 refine z _ ?_
 clear z Z
 refine cF (by simp [h91, hdot, h40]) ?_
 refine AT_skip ?_
 refine hK15 _ ?_
 refine sr fun Z z => ?_
 simp [encP, h91, hdot, h40]
 refine z _ ?_
 clear z Z
 refine sr fun Z z => ?_
 simp [encP, h91, hdot, h40]
 refine RVn_call ((by have h := c_ref07x_Name g L hn (⟨u.k + 1, false⟩ : Pl) hkv hL; simpa [encP] using h)) ?_
 simp [encP, h91, hdot, h40]
 refine z _ ?_
 clear z Z
 refine AT_seq_k fun K16 hK16 => ?_
 cases g91 : (Pl.name L (⟨u.k + 1, false⟩ : Pl)).is L [91]
 cases g40 : (Pl.name L (⟨u.k + 1, false⟩ : Pl)).is L [40]
 refine sr fun Z z => ?_
 simp [encP, h91, hdot, h40, g91, g40]
 refine RVn_call ((by have h := c_ref07x_Is g L hn (Pl.name L (⟨u.k + 1, false⟩ : Pl)) hvn.2 [91]; simp only [encP] at h; exact h)) ?_
 simp [encP, h91, hdot, h40, g91, g40]
 repeat refine sg ?_
 refine RVn_call ((by have h := c_ref07x_Is g L hn (Pl.name L (⟨u.k + 1, false⟩ : Pl)) hvn.2 [40]; simp only [encP] at h; exact h)) ?_
 simp [encP, h91, hdot, h40, g91, g40]
 repeat refine sg ?_
 refine z _ ?_
 clear z Z
 refine cF (by simp [h91, hdot, h40, g91, g40]) ?_
 refine AT_skip ?_
 refine hK16 _ ?_
 first | (refine AT_str (Gives.weakX 5 6 rfl rfl) ?_; simp only [List.set_cons_succ, List.set_cons_zero]) | skip
 refine AT_region_q fun Z z => ?_
 simp [encP, h91, hdot, h40, g91, g40]
 refine z _ ?_
 clear z Z
 refine hK13 _ (by first | rfl | simp) (m) (by omega) ?_
 have hr := restR_lt hE (typeR_lt hE q) (exprR_lt hE q) e (⟨u.k + 1, false⟩ : Pl) hkv
 have hr1 : u.k + 1 ≤ ((restR L (typeR L q) (exprR L q)) e (⟨u.k + 1, false⟩ : Pl)).2.k := hr.1
 refine ⟨((restR L (typeR L q) (exprR L q)) e (⟨u.k + 1, false⟩ : Pl)).1, ((restR L (typeR L q) (exprR L q)) e (⟨u.k + 1, false⟩ : Pl)).2, m, ?_, ⟨hr.2, by omega, by omega⟩, rfl, ?_⟩
 · rw [hq, dotsR, if_pos hdot, show u.adv = (⟨u.k + 1, false⟩ : Pl) by simp [Pl.adv, hub]]
 · first
   | (· simp [restR, h40, Pl.adv, encE_mk, encTy_def, encP])
   | (· simp [restR, h40, g91, g40, Pl.adv, encE_mk, encTy_def, encP, ty0])
   | (· simp [restR, h40, g91, Pl.adv, encE_mk, encTy_def, encP, ty0])
   | (· simp [restR, h40, g40, Pl.adv, encE_mk, encTy_def, encP, ty0])
 refine sr fun Z z => ?_
 simp [encP, h91, hdot, h40, g91, g40]
 refine RVn_call ((by have h := c_ref07x_Is g L hn (Pl.name L (⟨u.k + 1, false⟩ : Pl)) hvn.2 [91]; simp only [encP] at h; exact h)) ?_
 simp [encP, h91, hdot, h40, g91, g40]
 repeat refine sg ?_
 refine RVn_call ((by have h := c_ref07x_Is g L hn (Pl.name L (⟨u.k + 1, false⟩ : Pl)) hvn.2 [40]; simp only [encP] at h; exact h)) ?_
 simp [encP, h91, hdot, h40, g91, g40]
 repeat refine sg ?_
 refine z _ ?_
 clear z Z
 refine cT (by simp [h91, hdot, h40, g91, g40]) ?_
 refine sr fun Z z => ?_
 simp [encP, h91, hdot, h40, g91, g40]
 refine z _ ?_
 clear z Z
 refine sr fun Z z => ?_
 simp [encP, h91, hdot, h40, g91, g40]
 refine RVn_call ((by have h := c_ref07x_targs g L hE hn q q hT (Pl.name L (⟨u.k + 1, false⟩ : Pl)) hvn.2 (fun h => by have : (Pl.name L (⟨u.k + 1, false⟩ : Pl)).adv.k = (Pl.name L (⟨u.k + 1, false⟩ : Pl)).k + 1 := rfl; omega); simp only [encP] at h; exact h)) ?_
 simp [encP, h91, hdot, h40, g91, g40]
 refine z _ ?_
 clear z Z
 refine sr fun Z z => ?_
 simp [encP, h91, hdot, h40, g91, g40]
 refine RVn_call ((by have h := c_ref07x_Must g L hn (targsR L (typeR L q) (Pl.name L (⟨u.k + 1, false⟩ : Pl))).2 hvg.2 [40]; simp only [encP] at h; exact h)) ?_
 simp [encP, h91, hdot, h40, g91, g40]
 refine z _ ?_
 clear z Z
 refine sr fun Z z => ?_
 simp [encP, h91, hdot, h40, g91, g40]
 refine z _ ?_
 clear z Z
 refine sr fun Z z => ?_
 simp [encP, h91, hdot, h40, g91, g40]
 refine RVn_call ((by have h := c_ref07x_args g L hE hn q q ih [41] ((targsR L (typeR L q) (Pl.name L (⟨u.k + 1, false⟩ : Pl))).2.must L [40]) hvm.2 (fun _ => by omega); simp only [encP] at h; exact h)) ?_
 simp [encP, h91, hdot, h40, g91, g40]
 refine z _ ?_
 clear z Z
 refine AT_region_q fun Z z => ?_
 simp [encP, h91, hdot, h40, g91, g40]
 repeat refine sg ?_
 refine z _ ?_
 clear z Z
 refine hK16 _ ?_
 first | (refine AT_str (Gives.weakX 5 6 rfl rfl) ?_; simp only [List.set_cons_succ, List.set_cons_zero]) | skip
 refine AT_region_q fun Z z => ?_
 simp [encP, h91, hdot, h40, g91, g40]
 refine z _ ?_
 clear z Z
 refine hK13 _ (by first | rfl | simp) (m) (by omega) ?_
 have hr := restR_lt hE (typeR_lt hE q) (exprR_lt hE q) e (⟨u.k + 1, false⟩ : Pl) hkv
 have hr1 : u.k + 1 ≤ ((restR L (typeR L q) (exprR L q)) e (⟨u.k + 1, false⟩ : Pl)).2.k := hr.1
 refine ⟨((restR L (typeR L q) (exprR L q)) e (⟨u.k + 1, false⟩ : Pl)).1, ((restR L (typeR L q) (exprR L q)) e (⟨u.k + 1, false⟩ : Pl)).2, m, ?_, ⟨hr.2, by omega, by omega⟩, rfl, ?_⟩
 · rw [hq, dotsR, if_pos hdot, show u.adv = (⟨u.k + 1, false⟩ : Pl) by simp [Pl.adv, hub]]
 · first
   | (· simp [restR, h40, Pl.adv, encE_mk, encTy_def, encP])
   | (· simp [restR, h40, g91, g40, Pl.adv, encE_mk, encTy_def, encP, ty0])
   | (· simp [restR, h40, g91, Pl.adv, encE_mk, encTy_def, encP, ty0])
   | (· simp [restR, h40, g40, Pl.adv, encE_mk, encTy_def, encP, ty0])
 refine sr fun Z z => ?_
 simp [encP, h91, hdot, h40, g91]
 refine RVn_call ((by have h := c_ref07x_Is g L hn (Pl.name L (⟨u.k + 1, false⟩ : Pl)) hvn.2 [91]; simp only [encP] at h; exact h)) ?_
 simp [encP, h91, hdot, h40, g91]
 repeat refine sg ?_
 refine z _ ?_
 clear z Z
 refine cT (by simp [h91, hdot, h40, g91]) ?_
 refine sr fun Z z => ?_
 simp [encP, h91, hdot, h40, g91]
 refine z _ ?_
 clear z Z
 refine sr fun Z z => ?_
 simp [encP, h91, hdot, h40, g91]
 refine RVn_call ((by have h := c_ref07x_targs g L hE hn q q hT (Pl.name L (⟨u.k + 1, false⟩ : Pl)) hvn.2 (fun h => by have : (Pl.name L (⟨u.k + 1, false⟩ : Pl)).adv.k = (Pl.name L (⟨u.k + 1, false⟩ : Pl)).k + 1 := rfl; omega); simp only [encP] at h; exact h)) ?_
 simp [encP, h91, hdot, h40, g91]
 refine z _ ?_
 clear z Z
 refine sr fun Z z => ?_
 simp [encP, h91, hdot, h40, g91]
 refine RVn_call ((by have h := c_ref07x_Must g L hn (targsR L (typeR L q) (Pl.name L (⟨u.k + 1, false⟩ : Pl))).2 hvg.2 [40]; simp only [encP] at h; exact h)) ?_
 simp [encP, h91, hdot, h40, g91]
 refine z _ ?_
 clear z Z
 refine sr fun Z z => ?_
 simp [encP, h91, hdot, h40, g91]
 refine z _ ?_
 clear z Z
 refine sr fun Z z => ?_
 simp [encP, h91, hdot, h40, g91]
 refine RVn_call ((by have h := c_ref07x_args g L hE hn q q ih [41] ((targsR L (typeR L q) (Pl.name L (⟨u.k + 1, false⟩ : Pl))).2.must L [40]) hvm.2 (fun _ => by omega); simp only [encP] at h; exact h)) ?_
 simp [encP, h91, hdot, h40, g91]
 refine z _ ?_
 clear z Z
 refine AT_region_q fun Z z => ?_
 simp [encP, h91, hdot, h40, g91]
 repeat refine sg ?_
 refine z _ ?_
 clear z Z
 refine hK16 _ ?_
 first | (refine AT_str (Gives.weakX 5 6 rfl rfl) ?_; simp only [List.set_cons_succ, List.set_cons_zero]) | skip
 refine AT_region_q fun Z z => ?_
 simp [encP, h91, hdot, h40, g91]
 refine z _ ?_
 clear z Z
 refine hK13 _ (by first | rfl | simp) (m) (by omega) ?_
 have hr := restR_lt hE (typeR_lt hE q) (exprR_lt hE q) e (⟨u.k + 1, false⟩ : Pl) hkv
 have hr1 : u.k + 1 ≤ ((restR L (typeR L q) (exprR L q)) e (⟨u.k + 1, false⟩ : Pl)).2.k := hr.1
 refine ⟨((restR L (typeR L q) (exprR L q)) e (⟨u.k + 1, false⟩ : Pl)).1, ((restR L (typeR L q) (exprR L q)) e (⟨u.k + 1, false⟩ : Pl)).2, m, ?_, ⟨hr.2, by omega, by omega⟩, rfl, ?_⟩
 · rw [hq, dotsR, if_pos hdot, show u.adv = (⟨u.k + 1, false⟩ : Pl) by simp [Pl.adv, hub]]
 · first
   | (· simp [restR, h40, Pl.adv, encE_mk, encTy_def, encP])
   | (· simp [restR, h40, g91, g40, Pl.adv, encE_mk, encTy_def, encP, ty0])
   | (· simp [restR, h40, g91, Pl.adv, encE_mk, encTy_def, encP, ty0])
   | (· simp [restR, h40, g40, Pl.adv, encE_mk, encTy_def, encP, ty0])
 have hk2v : u.k + 1 + 1 < L.length := Pl.adv_lt hE (p := (⟨u.k + 1, false⟩ : Pl)) hkv h40
 have htv := typeR_lt hE q (⟨u.k + 1 + 1, false⟩ : Pl) hk2v
 refine sr fun Z z => ?_
 simp [encP, h91, hdot, h40]
 refine RVn_call ((by have h := c_ref07x_Is g L hn (⟨u.k + 1, false⟩ : Pl) hkv [40]; simpa [encP] using h)) ?_
 simp [encP, h91, hdot, h40]
 refine z _ ?_
 clear z Z
 refine cT (by simp [h91, hdot, h40]) ?_
 refine AT_str (Gives.weakX 5 6 rfl rfl) ?_
 simp only [List.set_cons_succ, List.set_cons_zero]
 refine sr fun Z z => ?_
 simp [encP, h91, hdot, h40]
 refine z _ ?_
 clear z Z
 refine sr fun Z z => ?_
 simp [encP, hvr, encK, h91, hdot, h40]
 repeat refine sg ?_
 refine z _ ?_
 clear z Z
 refine sr fun Z z => ?_
 simp [encP, h91, hdot, h40]
 repeat refine sg ?_
 refine z _ ?_
 clear z Z
 refine sr fun Z z => ?_
 simp [encP, encTy_def, h91, hdot, h40]
 refine RVn_call ((by have h := c_ref07x_Type g L hE hn hL q (⟨u.k + 1 + 1, false⟩ : Pl) (by show L.length - (u.k + 1 + 1) < q; omega) hk2v; simpa [encP] using h)) ?_
 simp [encP, encTy_def, h91, hdot, h40]
 refine z _ ?_
 clear z Z
 refine sr fun Z z => ?_
 simp [encP, h91, hdot, h40]
 refine RVn_call ((by have h := c_ref07x_Must g L hn (typeR L q (⟨u.k + 1 + 1, false⟩ : Pl)).2 htv.2 [41]; simp only [encP] at h; exact h)) ?_
 simp [encP, h91, hdot, h40]
 refine z _ ?_
 clear z Z
 refine sr fun Z z => ?_
 simp [encP, encE_mk, encTy_def, h91, hdot, h40]
 refine z _ ?_
 clear z Z
 refine AT_exit ?_
 refine hK13 _ (by first | rfl | simp) (m) (by omega) ?_
 have hr := restR_lt hE (typeR_lt hE q) (exprR_lt hE q) e (⟨u.k + 1, false⟩ : Pl) hkv
 have hr1 : u.k + 1 ≤ ((restR L (typeR L q) (exprR L q)) e (⟨u.k + 1, false⟩ : Pl)).2.k := hr.1
 refine ⟨((restR L (typeR L q) (exprR L q)) e (⟨u.k + 1, false⟩ : Pl)).1, ((restR L (typeR L q) (exprR L q)) e (⟨u.k + 1, false⟩ : Pl)).2, m, ?_, ⟨hr.2, by omega, by omega⟩, rfl, ?_⟩
 · rw [hq, dotsR, if_pos hdot, show u.adv = (⟨u.k + 1, false⟩ : Pl) by simp [Pl.adv, hub]]
 · first
   | (· simp [restR, h40, Pl.adv, encE_mk, encTy_def, encP])
   | (· simp [restR, h40, g91, g40, Pl.adv, encE_mk, encTy_def, encP, ty0])
   | (· simp [restR, h40, g91, Pl.adv, encE_mk, encTy_def, encP, ty0])
   | (· simp [restR, h40, g40, Pl.adv, encE_mk, encTy_def, encP, ty0])

end Go.Proofs.YtepbmjchhcmcoaaGreatDoor
end

section
/- Contracts: castingsref08: pairs, formals, signatures. -/
set_option linter.all false
set_option maxHeartbeats 1000000
set_option maxRecDepth 10000
namespace Go.Proofs.YtepbmjchhcmcoaaGreatDoor
open Go Go.Pv
variable (g : Nat → Option (List AV)) (rnd : Bool)

theorem c_ref08x_pairs (L : List Tk) (hE : EndsT L) (hn : L.length ≤ 1000000) (hL : ∀ t ∈ L, t.2.1.length ≤ 1000000) (p : Pl) (hk : p.k < L.length) (e : Str) : Valid Tryz.prog (G0 g false) 101 [.agg (encP L p), .str e] (.tup [.agg (encP L (pairsR L (typeR L (L.length + 1)) e p).2), .slice ((pairsR L (typeR L (L.length + 1)) e p).1.map encF)]) := by

 refine valid_of [(6, 65)] Tryz.func101 rfl (by kernel_rfl) ?_
 refine sr fun Z z => ?_
 simp [encP, encF, Tryz.f101]
 refine z _ ?_
 clear z Z
 refine sr fun Z z => ?_
 simp [encP, encF]
 refine z _ ?_
 clear z Z
 refine AT_seq_k fun K1 hK1 => ?_
 refine AT_block ?_
 refine AT_loop_q [1,2,4,6] [2,4] (fun j s => ∃ k acc m bd, pairsR L (typeR L (L.length + 1)) e p = (acc ++ (pairsB L (typeR L (L.length + 1)) e m ⟨k, bd⟩).1, (pairsB L (typeR L (L.length + 1)) e m ⟨k, bd⟩).2) ∧ (k < L.length ∧ L.length - k ≤ m) ∧ (acc.length ≤ k ∧ (bd = true → acc = [])) ∧ j = m ∧ s = { n := 45, tm := [(1, .v (.str e) none), (2, .lp 2 0), (4, .lp 4 0), (6, .v (.slice (acc.map encF)) (some (6, 65)))], bx := [(2, [.slice (L.map encK), .int .i64 k, .bool bd]), (4, [.slice [], .int .i64 0, .bool false])], tb := [], sh := [], hint := [(6, 65)] }) (L.length - p.k) (by first | rfl | simp) ?_ ?_
 ·
  refine ⟨p.k, [], L.length - p.k, p.bad, ?_, ⟨hk, Nat.le_refl _⟩, ⟨by simp, fun _ => rfl⟩, rfl, by simp⟩
  rw [pairsR, pairsB]; simp
 ·
  rintro j s ⟨k, acc, m, bd, hq, ⟨hk1, hk2⟩, ⟨hka, hkb⟩, hjm, rfl⟩ K2 hK2
  subst hjm
  obtain ⟨m, rfl⟩ : ∃ i, j = i + 1 := ⟨j - 1, by omega⟩
  refine AT_seq_k fun K3 hK3 => ?_
  cases bd
  ·
   have hg := g_item hE (⟨k, false⟩ : Pl) hk1
   have hgk : k ≤ (itemR L (typeR L (L.length + 1)) (⟨k, false⟩ : Pl)).2.k := hg.1
   have hnl := Pl.name_lt hE (p := (⟨k, false⟩ : Pl)) hk1
   refine sr fun Z z => ?_
   simp [encP, encF]
   refine z _ ?_
   clear z Z
   refine cT (by simp) ?_
   refine AT_skip ?_
   refine hK3 _ ?_
   refine AT_block ?_
   refine sr fun Z z => ?_
   simp [encP, encF]
   refine z _ ?_
   clear z Z
   refine sr fun Z z => ?_
   simp [encP, encF]
   refine RVn_call ((by have h := c_ref07x_Name g L hn (⟨k, false⟩ : Pl) hk1 hL; simpa [encP] using h)) ?_
   simp [encP, encF]
   refine z _ ?_
   clear z Z
   refine AT_seq_k fun K4 hK4 => ?_
   cases hb : (Pl.name L (⟨k, false⟩ : Pl)).bad
   ·
    have hit : (itemR L (typeR L (L.length + 1)) (⟨k, false⟩ : Pl)) = (⟨Pl.nm L (⟨k, false⟩ : Pl), (typeR L (L.length + 1) (Pl.name L (⟨k, false⟩ : Pl))).1, Pl.at_ L (⟨k, false⟩ : Pl)⟩, (typeR L (L.length + 1) (Pl.name L (⟨k, false⟩ : Pl))).2) := itemR_ok hb
    have hi2 := congrArg Prod.snd hit
    simp only [] at hi2
    have hgt := hg.2
    rw [hi2] at hgt
    refine sr fun Z z => ?_
    simp [encP, encF, hb]
    refine z _ ?_
    clear z Z
    refine cT (by simp [hb]) ?_
    refine AT_region_q fun Z z => ?_
    simp [encP, encF, encTy_def, hb]
    refine RVn_call ((by have h := c_ref07x_Type g L hE hn hL (L.length + 1) (Pl.name L (⟨k, false⟩ : Pl)) (by omega) hnl.2; simp only [encP, hb] at h; first | exact h | (simp only [hub] at h; exact h) | (simp only [hnb] at h; exact h) | (rw [hb] at h; exact h))) ?_
    simp [encP, encF, encTy_def, hb]
    refine z _ ?_
    clear z Z
    refine hK4 _ ?_
    refine sr fun Z z => ?_
    simp [encP, encF, hb]
    repeat refine sg ?_
    refine z _ ?_
    clear z Z
    refine AT_seq_k fun K5 hK5 => ?_
    cases hi : (itemR L (typeR L (L.length + 1)) (⟨k, false⟩ : Pl)).2.is L [44]
    ·
     refine sr fun Z z => ?_
     simp [encP, encF, hb, hi]
     refine RVn_call ((by have h := c_ref07x_Is g L hn (itemR L (typeR L (L.length + 1)) (⟨k, false⟩ : Pl)).2 hg.2 [44]; rw [hi, hi2] at h; simp only [encP] at h; first | exact h | (simp only [hub] at h; exact h) | (simp only [hnb] at h; exact h) | (rw [hb] at h; exact h))) ?_
     simp [encP, encF, hb, hi]
     refine z _ ?_
     clear z Z
     refine cT (by simp [hb, hi]) ?_
     refine sr fun Z z => ?_
     simp [encP, encF, hb, hi]
     refine RVn_call ((by have h := c_ref07x_Must g L hn (itemR L (typeR L (L.length + 1)) (⟨k, false⟩ : Pl)).2 hg.2 e; rw [hi2] at h; simp only [encP] at h; first | exact h | (simp only [hub] at h; exact h) | (simp only [hnb] at h; exact h) | (rw [hb] at h; exact h))) ?_
     simp [encP, encF, hb, hi]
     refine z _ ?_
     clear z Z
     refine AT_ret ?_
     simp [encP, encF, Tryz.f101]
     all_goals first | (· rw [hq, pairsB, if_neg (by simp), pairsL, hi, hit]; simp [encP, encF, encTy_def, ty0]) | (· rw [hq, pairsB, if_pos rfl]; simp [encP])
    ·
     have hib : (itemR L (typeR L (L.length + 1)) (⟨k, false⟩ : Pl)).2.bad = false := (Pl.is_bad hi).1
     have hib2 := hib
     rw [hi2] at hib2
     refine sr fun Z z => ?_
     simp [encP, encF, hb, hi]
     refine RVn_call ((by have h := c_ref07x_Is g L hn (itemR L (typeR L (L.length + 1)) (⟨k, false⟩ : Pl)).2 hg.2 [44]; rw [hi, hi2] at h; simp only [encP] at h; first | exact h | (simp only [hub] at h; exact h) | (simp only [hnb] at h; exact h) | (rw [hb] at h; exact h))) ?_
     simp [encP, encF, hb, hi]
     refine z _ ?_
     clear z Z
     refine cF (by simp [hb, hi]) ?_
     refine AT_skip ?_
     refine hK5 _ ?_
     refine AT_region_q fun Z z => ?_
     simp [encP, encF, hib2, hb, hi]
     repeat refine sg ?_
     refine z _ ?_
     clear z Z
     refine hK2 _ (by first | rfl | simp) (m) (by omega) ?_
     refine ⟨(itemR L (typeR L (L.length + 1)) (⟨k, false⟩ : Pl)).2.k + 1, acc ++ [(itemR L (typeR L (L.length + 1)) (⟨k, false⟩ : Pl)).1], m, false, ?_, ⟨Pl.adv_lt hE hg.2 hi, by omega⟩, ⟨by simp; omega, fun h => by cases h⟩, rfl, ?_⟩
     · rw [hq, pairsB, if_neg (by simp), pairsL, if_pos hi, show (itemR L (typeR L (L.length + 1)) (⟨k, false⟩ : Pl)).2.adv = ⟨(itemR L (typeR L (L.length + 1)) (⟨k, false⟩ : Pl)).2.k + 1, false⟩ by simp [Pl.adv, hib]]; simp [pairsB]
     · rw [hit]; simp [encF, encTy_def]
   ·
    have hit : (itemR L (typeR L (L.length + 1)) (⟨k, false⟩ : Pl)) = (⟨Pl.nm L (⟨k, false⟩ : Pl), ty0, Pl.at_ L (⟨k, false⟩ : Pl)⟩, (Pl.name L (⟨k, false⟩ : Pl))) := itemR_no hb
    have hi2 := congrArg Prod.snd hit
    simp only [] at hi2
    have hbd : (itemR L (typeR L (L.length + 1)) (⟨k, false⟩ : Pl)).2.bad = true := by rw [hi2]; exact hb
    have hi : (itemR L (typeR L (L.length + 1)) (⟨k, false⟩ : Pl)).2.is L [44] = false := Pl.is_no hbd _
    refine sr fun Z z => ?_
    simp [encP, encF, hb]
    refine z _ ?_
    clear z Z
    refine cF (by simp [hb]) ?_
    refine AT_skip ?_
    refine hK4 _ ?_
    refine sr fun Z z => ?_
    simp [encP, encF, hb]
    repeat refine sg ?_
    refine z _ ?_
    clear z Z
    refine AT_seq_k fun K6 hK6 => ?_
    refine sr fun Z z => ?_
    simp [encP, encF, hi, hb]
    refine RVn_call ((by have h := c_ref07x_Is g L hn (itemR L (typeR L (L.length + 1)) (⟨k, false⟩ : Pl)).2 hg.2 [44]; rw [hi, hi2] at h; simp only [encP, hb] at h; first | exact h | (simp only [hub] at h; exact h) | (simp only [hnb] at h; exact h) | (rw [hb] at h; exact h))) ?_
    simp [encP, encF, hi, hb]
    refine z _ ?_
    clear z Z
    refine cT (by simp [hb]) ?_
    refine sr fun Z z => ?_
    simp [encP, encF, hb]
    refine RVn_call ((by have h := c_ref07x_Must g L hn (itemR L (typeR L (L.length + 1)) (⟨k, false⟩ : Pl)).2 hg.2 e; rw [hi2] at h; simp only [encP] at h; first | exact h | (simp only [hub] at h; exact h) | (simp only [hnb] at h; exact h) | (rw [hb] at h; exact h))) ?_
    simp [encP, encF, hb]
    refine z _ ?_
    clear z Z
    refine AT_ret ?_
    simp [encP, encF, Tryz.f101]
    all_goals first | (· rw [hq, pairsB, if_neg (by simp), pairsL, hi, hit]; simp [encP, encF, encTy_def, ty0]) | (· rw [hq, pairsB, if_pos rfl]; simp [encP])
  ·
   obtain rfl := hkb rfl
   refine sr fun Z z => ?_
   simp [encP, encF]
   refine z _ ?_
   clear z Z
   refine cF (by simp) ?_
   refine AT_exit ?_
   refine hK1 _ ?_
   refine sr fun Z z => ?_
   simp [encP, encF]
   refine z _ ?_
   clear z Z
   refine AT_ret ?_
   simp [encP, encF, Tryz.f101]
   all_goals first | (· rw [hq, pairsB, if_neg (by simp), pairsL, hi, hit]; simp [encP, encF, encTy_def, ty0]) | (· rw [hq, pairsB, if_pos rfl]; simp [encP])

theorem c_ref08x_formals (L : List Tk) (hE : EndsT L) (hn : L.length ≤ 1000000) (hL : ∀ t ∈ L, t.2.1.length ≤ 1000000) (p : Pl) (hk : p.k < L.length) : Valid Tryz.prog (G0 g false) 69 [.agg (encP L p)] (.tup [.agg (encP L (formalsR L (typeR L (L.length + 1)) p).2), .slice ((formalsR L (typeR L (L.length + 1)) p).1.map encF)]) := by
 obtain ⟨q, hq⟩ : ∃ q, q = pairsR L (typeR L (L.length + 1)) [93] p.adv := ⟨_, rfl⟩
 have hql : q.1.length ≤ 1000000 := by
   rw [hq]
   have := pairsR_count (L := L) (rT := (typeR L (L.length + 1))) [93] p.adv
   omega
 refine valid_of [(5, 69)] Tryz.func69 rfl (by kernel_rfl) ?_
 refine sr fun Z z => ?_
 simp [encP, encF, row_map, Tryz.f69]
 refine z _ ?_
 clear z Z
 refine AT_seq_k fun K1 hK1 => ?_
 cases hnx : p.is L [91]
 ·
  refine sr fun Z z => ?_
  simp [encP, encF, row_map, hnx]
  refine RVn_call ((by have h := c_ref07x_Is g L hn p hk [91]; simp only [encP] at h; first | exact h | (simp only [hub] at h; exact h) | (simp only [hnb] at h; exact h) | (rw [hb] at h; exact h))) ?_
  simp [encP, encF, row_map, hnx]
  refine z _ ?_
  clear z Z
  refine cT (by simp [hnx]) ?_
  refine sr fun Z z => ?_
  simp [encP, encF, row_map, hnx]
  refine z _ ?_
  clear z Z
  refine AT_ret ?_
  simp [encP, encF, row_map, Tryz.f69]
  all_goals first | (· simp [formalsR, hnx, encP]) | (· rw [List.take_of_length_le (by simp; omega)]; simp [formalsR, hnx, ← hq, encP])
 ·
  have hpb := (Pl.is_bad hnx).1
  have hpk : p.adv.k < L.length := Pl.adv_lt hE hk hnx
  refine sr fun Z z => ?_
  simp [encP, encF, row_map, hnx]
  refine RVn_call ((by have h := c_ref07x_Is g L hn p hk [91]; simp only [encP] at h; first | exact h | (simp only [hub] at h; exact h) | (simp only [hnb] at h; exact h) | (rw [hb] at h; exact h))) ?_
  simp [encP, encF, row_map, hnx]
  refine z _ ?_
  clear z Z
  refine cF (by simp [hnx]) ?_
  refine AT_skip ?_
  refine hK1 _ ?_
  refine sr fun Z z => ?_
  simp [encP, encF, row_map, hnx]
  repeat refine sg ?_
  refine z _ ?_
  clear z Z
  refine sr fun Z z => ?_
  simp [encP, encF, row_map, hnx]
  refine RVn_call ((by have h := c_ref08x_pairs g L hE hn hL p.adv hpk [93]; rw [← hq] at h; simp only [encP, Pl.adv] at h; exact h)) ?_
  simp [encP, encF, row_map, hnx]
  refine z _ ?_
  clear z Z
  refine sr fun Z z => ?_
  simp [encP, encF, row_map, hnx]
  refine z _ ?_
  clear z Z
  refine AT_seq_k fun K2 hK2 => ?_
  refine sr fun Z z => ?_
  simp [encP, encF, row_map, hnx]
  refine z _ ?_
  clear z Z
  refine AT_block ?_
  refine AT_loop_q [1,2,4,5,6] [1,2] (fun j s => ∃ k, k ≤ q.1.length ∧ j = q.1.length - k ∧ s = { n := 47, tm := [(1, .lp 1 0), (2, .lp 2 0), (4, .v (.slice (q.1.map encF)) none), (5, .v (.slice ((q.1.take k).map encF)) (some (5, 69))), (6, .v (.int .i64 k) none)], bx := [(1, encP L q.2), (2, [.slice [], .int .i64 0, .bool false])], tb := [], sh := [], hint := [(5, 69)] }) (q.1.length) (by first | rfl | simp) ?_ ?_
  ·
   exact ⟨0, by simp, by simp, by simp [encP]⟩
  ·
   rintro j s ⟨k, hk9, rfl, rfl⟩ K3 hK3
   refine AT_seq_k fun K4 hK4 => ?_
   refine sr fun Z z => ?_
   simp [encP, encF, row_map, hnx]
   refine z _ ?_
   clear z Z
   refine AT_cond (g := none) rfl (fun hb23 => ?_) (fun hb23 => ?_)
   ·
    simp [encP, encF, row_map, hnx] at hb23
    refine AT_skip ?_
    refine hK4 _ ?_
    refine AT_seq_k fun K5 hK5 => ?_
    refine AT_block ?_
    refine AT_draw_q Pt.mixed (by kernel_rfl) fun Z z => ?_
    simp [encP, encF, row_map, rows_take, hnx, hb23]
    repeat refine sg ?_
    refine z _ ?_
    clear z Z
    refine hK5 _ ?_
    refine AT_region_q fun Z z => ?_
    simp [encP, encF, row_map, hnx, hb23]
    repeat refine sg ?_
    refine z _ ?_
    clear z Z
    refine hK3 _ (by first | rfl | simp) (q.1.length - (k+1)) (by omega) ?_
    refine ⟨k+1, by omega, by omega, ?_⟩
    have hk8 : k < q.1.length := by omega
    simp [List.take_succ_eq_append_getElem hk8, -List.take_append_getElem, encF, encP]
   ·
    simp [encP, encF, row_map, hnx] at hb23
    refine AT_exit ?_
    refine hK2 _ ?_
    refine sr fun Z z => ?_
    simp [encP, encF, row_map, hnx, hb23]
    refine z _ ?_
    clear z Z
    refine AT_ret ?_
    simp [encP, encF, row_map, Tryz.f69]
    all_goals first | (· simp [formalsR, hnx, encP]) | (· rw [List.take_of_length_le (by simp; omega)]; simp [formalsR, hnx, ← hq, encP])

theorem c_ref08x_sig (L : List Tk) (hE : EndsT L) (hn : L.length ≤ 1000000) (hL : ∀ t ∈ L, t.2.1.length ≤ 1000000) (p : Pl) (hk : p.k < L.length) : Valid Tryz.prog (G0 g false) 70 [.agg (encP L p)] (.tup [.agg (encP L (sigR L (typeR L (L.length + 1)) p).2), .agg (encG (sigR L (typeR L (L.length + 1)) p).1)]) := by
 have h1 := Pl.name_lt hE hk
 have h2 := g_formals hE _ h1.2
 have h3 := Pl.must_lt hE [40] h2.2
 have h4 := g_par hE _ h2.2
 refine valid_of [] Tryz.func70 rfl (by kernel_rfl) ?_
 refine sr fun Z z => ?_
 simp [encP, encG, encF, Tryz.f70]
 refine z _ ?_
 clear z Z
 refine sr fun Z z => ?_
 simp [encP, encG, encF]
 refine z _ ?_
 clear z Z
 refine sr fun Z z => ?_
 simp [encP, encG, encF]
 refine RVn_call ((by have h := c_ref07x_Name g L hn p hk hL; simp only [encP] at h; first | exact h | (simp only [hub] at h; exact h) | (simp only [hnb] at h; exact h) | (rw [hb] at h; exact h))) ?_
 simp [encP, encG, encF]
 refine z _ ?_
 clear z Z
 refine sr fun Z z => ?_
 simp [encP, encG, encF]
 refine RVn_call ((by have h := c_ref08x_formals g L hE hn hL (p.name L) h1.2; simp only [encP] at h; first | exact h | (simp only [hub] at h; exact h) | (simp only [hnb] at h; exact h) | (rw [hb] at h; exact h))) ?_
 simp [encP, encG, encF]
 refine z _ ?_
 clear z Z
 refine sr fun Z z => ?_
 simp [encP, encG, encF]
 refine RVn_call ((by have h := c_ref07x_Must g L hn (formalsR L (typeR L (L.length + 1)) (p.name L)).2 h2.2 [40]; simp only [encP] at h; first | exact h | (simp only [hub] at h; exact h) | (simp only [hnb] at h; exact h) | (rw [hb] at h; exact h))) ?_
 simp [encP, encG, encF]
 refine z _ ?_
 clear z Z
 refine AT_seq_k fun K1 hK1 => ?_
 cases hnx : ((formalsR L (typeR L (L.length + 1)) (p.name L)).2.must L [40]).is L [41]
 ·
  have hp2 : (parR L (typeR L (L.length + 1)) (formalsR L (typeR L (L.length + 1)) (p.name L)).2) = pairsR L (typeR L (L.length + 1)) [41] ((formalsR L (typeR L (L.length + 1)) (p.name L)).2.must L [40]) := by rw [parR, if_neg (by rw [hnx]; exact Bool.false_ne_true)]
  refine sr fun Z z => ?_
  simp [encP, encG, encF, hnx]
  refine RVn_call ((by have h := c_ref07x_Is g L hn ((formalsR L (typeR L (L.length + 1)) (p.name L)).2.must L [40]) h3.2 [41]; simp only [encP] at h; first | exact h | (simp only [hub] at h; exact h) | (simp only [hnb] at h; exact h) | (rw [hb] at h; exact h))) ?_
  simp [encP, encG, encF, hnx]
  refine z _ ?_
  clear z Z
  refine cF (by simp [hnx]) ?_
  refine AT_region_q fun Z z => ?_
  simp [encP, encG, encF, hnx]
  refine RVn_call ((by have h := c_ref08x_pairs g L hE hn hL ((formalsR L (typeR L (L.length + 1)) (p.name L)).2.must L [40]) h3.2 [41]; rw [← hp2] at h; simp only [encP] at h; exact h)) ?_
  simp [encP, encG, encF, hnx]
  refine z _ ?_
  clear z Z
  refine hK1 _ ?_
  refine AT_seq_k fun K2 hK2 => ?_
  cases hb : (parR L (typeR L (L.length + 1)) (formalsR L (typeR L (L.length + 1)) (p.name L)).2).2.bad
  ·
   have hty := tyR_ok (rT := (typeR L (L.length + 1))) hb
   refine sr fun Z z => ?_
   simp [encP, encG, encF, hnx, hb]
   refine z _ ?_
   clear z Z
   refine cT (by simp [hnx, hb]) ?_
   refine AT_region_q fun Z z => ?_
   simp [encP, encG, encF, encTy_def, hnx, hb]
   refine RVn_call ((by have h := c_ref07x_Type g L hE hn hL (L.length + 1) (parR L (typeR L (L.length + 1)) (formalsR L (typeR L (L.length + 1)) (p.name L)).2).2 (by omega) h4.2; simp only [encP, hb] at h; first | exact h | (simp only [hub] at h; exact h) | (simp only [hnb] at h; exact h) | (rw [hb] at h; exact h))) ?_
   simp [encP, encG, encF, encTy_def, hnx, hb]
   refine z _ ?_
   clear z Z
   refine hK2 _ ?_
   refine AT_seq_draw_m false [(1, 1), (2, 2), (3, 3), (4, 4)] Pt.mixed (by kernel_rfl) ⟨by simp [Im, okP, AS.get, look, TV.strip], fun h => by cases h⟩ fun Z z => ?_
   simp [encP, encG, encF, hnx, hb]
   refine z _ ?_
   clear z Z
   refine AT_ret ?_
   simp [encP, encG, encF, Tryz.f70]
   all_goals first | (· simp [sigR, hty, hb, encG, encP, encTy_def, ty0]) | (· have hp6 := congrArg Prod.fst hp2; simp only [] at hp6; simp [sigR, hty, hb, hp6, encG, encP, encTy_def, ty0]) | skip
  ·
   have hty := tyR_no (rT := (typeR L (L.length + 1))) hb
   refine sr fun Z z => ?_
   simp [encP, encG, encF, hnx, hb]
   refine z _ ?_
   clear z Z
   refine cF (by simp [hnx, hb]) ?_
   refine AT_skip ?_
   refine hK2 _ ?_
   refine AT_seq_draw_m false [(1, 1), (2, 2), (3, 3), (4, 4)] Pt.mixed (by kernel_rfl) ⟨by simp [Im, okP, AS.get, look, TV.strip], fun h => by cases h⟩ fun Z z => ?_
   simp [encP, encG, encF, hnx, hb]
   refine z _ ?_
   clear z Z
   refine AT_ret ?_
   simp [encP, encG, encF, Tryz.f70]
   all_goals first | (· simp [sigR, hty, hb, encG, encP, encTy_def, ty0]) | (· have hp6 := congrArg Prod.fst hp2; simp only [] at hp6; simp [sigR, hty, hb, hp6, encG, encP, encTy_def, ty0]) | skip
 ·
  have hmb := (Pl.is_bad hnx).1
  have hp2 : (parR L (typeR L (L.length + 1)) (formalsR L (typeR L (L.length + 1)) (p.name L)).2) = ([], ((formalsR L (typeR L (L.length + 1)) (p.name L)).2.must L [40]).adv) := by rw [parR, if_pos hnx]
  have hp3 := congrArg Prod.snd hp2
  simp only [] at hp3
  have hp4 : (((formalsR L (typeR L (L.length + 1)) (p.name L)).2.must L [40]).k : Int) + 1 = ((parR L (typeR L (L.length + 1)) (formalsR L (typeR L (L.length + 1)) (p.name L)).2).2.k : Int) := by rw [hp3]; simp [Pl.adv]
  have hp5 : ((formalsR L (typeR L (L.length + 1)) (p.name L)).2.must L [40]).bad = (parR L (typeR L (L.length + 1)) (formalsR L (typeR L (L.length + 1)) (p.name L)).2).2.bad := by rw [hp3]; rfl
  refine sr fun Z z => ?_
  simp [encP, encG, encF, hnx]
  refine RVn_call ((by have h := c_ref07x_Is g L hn ((formalsR L (typeR L (L.length + 1)) (p.name L)).2.must L [40]) h3.2 [41]; simp only [encP] at h; first | exact h | (simp only [hub] at h; exact h) | (simp only [hnb] at h; exact h) | (rw [hb] at h; exact h))) ?_
  simp [encP, encG, encF, hnx]
  refine z _ ?_
  clear z Z
  refine cT (by simp [hnx]) ?_
  refine AT_region_q fun Z z => ?_
  simp [encP, encG, encF, hp4, hp5, hnx]
  repeat refine sg ?_
  refine z _ ?_
  clear z Z
  refine hK1 _ ?_
  refine AT_seq_k fun K3 hK3 => ?_
  cases hb : (parR L (typeR L (L.length + 1)) (formalsR L (typeR L (L.length + 1)) (p.name L)).2).2.bad
  ·
   have hty := tyR_ok (rT := (typeR L (L.length + 1))) hb
   refine sr fun Z z => ?_
   simp [encP, encG, encF, hnx, hb]
   refine z _ ?_
   clear z Z
   refine cT (by simp [hnx, hb]) ?_
   refine AT_region_q fun Z z => ?_
   simp [encP, encG, encF, encTy_def, hnx, hb]
   refine RVn_call ((by have h := c_ref07x_Type g L hE hn hL (L.length + 1) (parR L (typeR L (L.length + 1)) (formalsR L (typeR L (L.length + 1)) (p.name L)).2).2 (by omega) h4.2; simp only [encP, hb] at h; first | exact h | (simp only [hub] at h; exact h) | (simp only [hnb] at h; exact h) | (rw [hb] at h; exact h))) ?_
   simp [encP, encG, encF, encTy_def, hnx, hb]
   refine z _ ?_
   clear z Z
   refine hK3 _ ?_
   refine AT_seq_draw_m false [(1, 1), (2, 2), (3, 3), (4, 4)] Pt.mixed (by kernel_rfl) ⟨by simp [Im, okP, AS.get, look, TV.strip], fun h => by cases h⟩ fun Z z => ?_
   simp [encP, encG, encF, hnx, hb]
   refine z _ ?_
   clear z Z
   refine AT_ret ?_
   simp [encP, encG, encF, Tryz.f70]
   all_goals first | (· simp [sigR, hty, hb, encG, encP, encTy_def, ty0]) | (· have hp6 := congrArg Prod.fst hp2; simp only [] at hp6; simp [sigR, hty, hb, hp6, encG, encP, encTy_def, ty0]) | skip
  ·
   have hty := tyR_no (rT := (typeR L (L.length + 1))) hb
   refine sr fun Z z => ?_
   simp [encP, encG, encF, hnx, hb]
   refine z _ ?_
   clear z Z
   refine cF (by simp [hnx, hb]) ?_
   refine AT_skip ?_
   refine hK3 _ ?_
   refine AT_seq_draw_m false [(1, 1), (2, 2), (3, 3), (4, 4)] Pt.mixed (by kernel_rfl) ⟨by simp [Im, okP, AS.get, look, TV.strip], fun h => by cases h⟩ fun Z z => ?_
   simp [encP, encG, encF, hnx, hb]
   refine z _ ?_
   clear z Z
   refine AT_ret ?_
   simp [encP, encG, encF, Tryz.f70]
   all_goals first | (· simp [sigR, hty, hb, encG, encP, encTy_def, ty0]) | (· have hp6 := congrArg Prod.fst hp2; simp only [] at hp6; simp [sigR, hty, hb, hp6, encG, encP, encTy_def, ty0]) | skip

end Go.Proofs.YtepbmjchhcmcoaaGreatDoor
end
