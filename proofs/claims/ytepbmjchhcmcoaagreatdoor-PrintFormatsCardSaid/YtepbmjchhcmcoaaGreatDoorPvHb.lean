import Derived.Test.YtepbmjchhcmcoaaGreatDoorPvFd
import Derived.Test.YtepbmjchhcmcoaaGreatDoorPvFa
import Derived.Test.YtepbmjchhcmcoaaGreatDoorPvRc
import Derived.Test.YtepbmjchhcmcoaaGreatDoorPvDb
set_option linter.all false
section
/- What is read from the tokens of a right program is that program. -/
namespace Go.Pv
open Go

section
variable {c : Cur} {r : List Kt}
theorem At.mustK {x : Kt} (h : At c (x :: r)) (hx : x.1 ≠ 3) : At (c.must x.2) r := by
  rw [Cur.must, h.next]
  rw [if_pos (by simp [nx, hx])]
  exact h.adv
theorem At.mustW {w : Str} (h : At c ((1, w) :: r)) : At (c.must w) r := h.mustK (x := (1, w)) (fun h => absurd (show (1 : Int) = 3 from h) (by decide))
end
theorem toksD_pos (d : Dc) : 0 < (toksD d).length := by
  unfold toksD
  split
  · simp
  · split <;> simp
theorem nx_word {w s : Str} (r : List Kt) (h : w ≠ s) : nx ((1, w) :: r) s = false := by simp [nx, h]
theorem nx_wordS (w : Str) (r : List Kt) : nx ((1, w) :: r) w = true := by simp [nx]
theorem nx_sign {c : UInt8} {s : Str} (r : List Kt) (h : [c] ≠ s) : nx (sgn c :: r) s = false := by simp [nx, sgn, h]
theorem nx_signS (c : UInt8) (r : List Kt) : nx (sgn c :: r) [c] = true := by simp [nx, sgn]

section
variable {rT : Cur → Ty × Cur} {rE : Cur → Exp × Cur} {N : Nat}
  (hT : ∀ t, rightT t = true → ∀ c r, At c (toksT t ++ r) → okK r → c.l.length < N → stT (rT c).1 = stT t ∧ At (rT c).2 r)
  (hE : ∀ e, rightE e = true → ∀ c r, At c (toksE e ++ r) → okE r → c.l.length < N → stE (rE c).1 = stE e ∧ At (rE c).2 r)
include hT
theorem item_bk {f : Fm} (hf : rightF f = true) {c : Cur} {r : List Kt} (h : At c (toksF f ++ r)) (hr : okK r) (hn : c.l.length < N) : stF (itemC rT c).1 = stF f ∧ At (itemC rT c).2 r := by
  simp only [rightF, Bool.and_eq_true] at hf
  have h' : At c ((1, f.name) :: (toksT f.ty ++ r)) := h
  obtain ⟨h1, h2⟩ := h'.named hf.1
  have hl := h'.len
  have hl2 := h2.len
  obtain ⟨h3, h4⟩ := hT f.ty hf.2 c.name r h2 hr (by simp at hl hl2; omega)
  exact ⟨by simp [stF, itemC, h1, h3], h4⟩
theorem pairs_bk (e : UInt8) (he : e ≠ 44 ∧ e ≠ 91) : ∀ (xs : List Fm) (x : Fm), (∀ y ∈ x :: xs, rightF y = true) → ∀ (m : Nat) (c : Cur) (r : List Kt), At c (commaK ((x :: xs).map toksF) ++ sgn e :: r) → c.l.length < m → c.l.length < N →
    (pairsC rT [e] m c).1.map stF = (x :: xs).map stF ∧ At (pairsC rT [e] m c).2 r
  | xs, x, hx, m, c, r, h, hm, hn => by
    cases m with
    | zero => omega
    | succ m =>
      cases xs with
      | nil =>
        have h' : At c (toksF x ++ sgn e :: r) := by simpa [commaK, tailK] using h
        obtain ⟨h1, h2⟩ := item_bk hT (hx x (by simp)) h' (by simp [okK, nx, sgn, he.2]) hn
        rw [pairsC, h2.next, if_neg (by simp [nx, sgn, he.1])]
        exact ⟨by simp [h1], h2.must⟩
      | cons y ys =>
        have h' : At c (toksF x ++ sgn 44 :: (commaK ((y :: ys).map toksF) ++ sgn e :: r)) := by simpa [commaK, tailK] using h
        obtain ⟨h1, h2⟩ := item_bk hT (hx x (by simp)) h' (okK_s (by decide) _) hn
        have ha := h2.adv
        have hl := h'.len
        have hl2 := ha.len
        obtain ⟨h3, h4⟩ := pairs_bk e he ys y (fun z hz => hx z (by simp [hz])) m (itemC rT c).2.adv r ha (by simp [toksF] at hl hl2; omega) (by simp [toksF] at hl hl2; omega)
        rw [pairsC, h2.next, if_pos (nx_signS _ _)]
        exact ⟨by simp [h1, h3], h4⟩
theorem fms_bk {l : List Fm} (hl : ∀ f ∈ l, rightF f = true) {c : Cur} {r : List Kt} (h : At c (brK (l.map toksF) ++ r)) (hr : okK r) (hn : c.l.length < N) : (formalsC rT c).1.map stF = l.map stF ∧ At (formalsC rT c).2 r := by
  cases l with
  | nil =>
    have h' : At c r := by simpa [brK] using h
    rw [formalsC, h'.next, hr]
    exact ⟨rfl, h'⟩
  | cons x xs =>
    have h' : At c (sgn 91 :: (commaK ((x :: xs).map toksF) ++ sgn 93 :: r)) := by simpa [brK] using h
    have ha := h'.adv
    have hl1 := h'.len
    have hl2 := ha.len
    rw [formalsC, h'.next, if_pos (nx_signS _ _)]
    exact pairs_bk hT 93 (by decide) xs x hl _ _ _ ha (Nat.lt_succ_self _) (by simp at hl1 hl2; omega)
theorem par_bk {l : List Fm} (hl : ∀ f ∈ l, rightF f = true) {c : Cur} {r : List Kt} (h : At c (sgn 40 :: (commaK (l.map toksF) ++ sgn 41 :: r))) (hn : c.l.length < N) : (parC rT c).1.map stF = l.map stF ∧ At (parC rT c).2 r := by
  have ha := h.must
  have hl1 := h.len
  have hl2 := ha.len
  cases l with
  | nil =>
    have h' : At (c.must [40]) (sgn 41 :: r) := by simpa [commaK] using ha
    rw [parC, h'.next, if_pos (nx_signS _ _)]
    exact ⟨rfl, h'.adv⟩
  | cons x xs =>
    have hx := hl x (by simp)
    simp only [rightF, Bool.and_eq_true] at hx
    have hnx : (c.must [40]).next [41] = false := by
      rw [ha.next]
      show nx ((1, x.name) :: _) [41] = false
      exact nx_word _ (name_not_sign hx.1 (by decide))
    rw [parC, hnx]
    exact pairs_bk hT 41 (by decide) xs x hl _ _ _ ha (Nat.lt_succ_self _) (by simp at hl1 hl2; omega)
theorem sig_bk {s : Sg} (hs : rightG s = true) {c : Cur} {r : List Kt} (h : At c (toksG s ++ r)) (hr : okK r) (hn : c.l.length < N) : stG (sigC rT c).1 = stG s ∧ At (sigC rT c).2 r := by
  obtain ⟨q1, q2, q3, q4⟩ := rightG_parts hs
  have h' : At c ((1, s.name) :: (brK (s.fms.map toksF) ++ sgn 40 :: (commaK (s.pms.map toksF) ++ sgn 41 :: (toksT s.res ++ r)))) := by simpa [toksG] using h
  obtain ⟨h1, h2⟩ := h'.named q1
  have e1 := h'.len
  have e2 := h2.len
  obtain ⟨h3, h4⟩ := fms_bk hT (List.all_eq_true.1 q2) h2 (okK_s (by decide) _) (by simp at e1 e2; omega)
  have e4 := h4.len
  obtain ⟨h5, h6⟩ := par_bk hT (List.all_eq_true.1 q3) h4 (by simp at e1 e4; omega)
  have e6 := h6.len
  obtain ⟨h7, h8⟩ := hT s.res q4 _ r h6 hr (by simp at e1 e6; omega)
  exact ⟨by simp [stG, sigC, h1, h3, h5, h7], h8⟩
omit hT in
theorem until_bk {α : Type} {rd : Cur → α × Cur} {st : α → α} {tk : α → List Kt} {N : Nat} : ∀ (l : List α) (_ : ∀ x ∈ l, ∀ c r, At c (tk x ++ r) → okK r → c.l.length < N → st (rd c).1 = st x ∧ At (rd c).2 r) (_ : ∀ x ∈ l, ∀ r, nx (tk x ++ r) [125] = false) (m : Nat) (c : Cur) (r : List Kt),
    At c (semK tk l ++ sgn 125 :: r) → c.l.length < m → c.l.length < N → (untilC rd m c).1.map st = l.map st ∧ At (untilC rd m c).2 r
  | [], _, _, m, c, r, h, hm, _ => by
    cases m with
    | zero => omega
    | succ m =>
      have h' : At c (sgn 125 :: r) := by simpa [semK] using h
      rw [untilC_end rd m (by rw [h'.next]; exact nx_signS _ _)]
      exact ⟨rfl, h'.adv⟩
  | x :: l, hx, hh, m, c, r, h, hm, hn => by
    cases m with
    | zero => omega
    | succ m =>
      have h' : At c (tk x ++ sgn 59 :: (semK tk l ++ sgn 125 :: r)) := by simpa [semK] using h
      obtain ⟨h1, h2⟩ := hx x (by simp) c _ h' (okK_s (by decide) _) hn
      have h3 := h2.must
      have e1 := h'.len
      have e3 := h3.len
      obtain ⟨h4, h5⟩ := until_bk l (fun y hy => hx y (by simp [hy])) (fun y hy => hh y (by simp [hy])) m _ r h3 (by simp at e1 e3; omega) (by simp at e1 e3; omega)
      rw [untilC_go rd m (by rw [h'.next]; exact hh x (by simp) _) (by rw [h'.1]; rfl)]
      exact ⟨by simp [h1, h4], h5⟩
omit hT in
theorem vars_bk : ∀ (xs : List Str) (x : Str), (∀ y ∈ x :: xs, isName y = true) → ∀ (m : Nat) (c : Cur) (r : List Kt), At c (commaK ((x :: xs).map varK) ++ sgn 93 :: r) → c.l.length < m → (varsC m c).1 = x :: xs ∧ At (varsC m c).2 (sgn 93 :: r)
  | xs, x, hx, m, c, r, h, hm => by
    cases m with
    | zero => omega
    | succ m =>
      cases xs with
      | nil =>
        have h' : At c ((1, x) :: sgn 93 :: r) := by simpa [commaK, tailK, varK] using h
        obtain ⟨h1, h2⟩ := h'.named (hx x (by simp))
        rw [varsC, h2.next, if_neg (by simp [nx, sgn])]
        exact ⟨by simp [h1], h2⟩
      | cons y ys =>
        have h' : At c ((1, x) :: sgn 44 :: (commaK ((y :: ys).map varK) ++ sgn 93 :: r)) := by simpa [commaK, tailK, varK] using h
        obtain ⟨h1, h2⟩ := h'.named (hx x (by simp))
        have ha := h2.adv
        have e1 := h'.len
        have e2 := ha.len
        obtain ⟨h3, h4⟩ := vars_bk ys y (fun z hz => hx z (by simp [hz])) m c.name.adv r ha (by simp at e1 e2; omega)
        rw [varsC, h2.next, if_pos (nx_signS _ _)]
        exact ⟨by simp [h1, h3], h4⟩
omit hT in
theorem recv_bk {l : List Str} (hl : ∀ v ∈ l, isName v = true) {c : Cur} {r : List Kt} (h : At c (brK (l.map varK) ++ sgn 41 :: r)) : (recvC c).1 = l ∧ At (recvC c).2 (sgn 41 :: r) := by
  cases l with
  | nil =>
    have h' : At c (sgn 41 :: r) := by simpa [brK] using h
    rw [recvC, h'.next, if_neg (by simp [nx, sgn])]
    exact ⟨rfl, h'⟩
  | cons x xs =>
    have h' : At c (sgn 91 :: (commaK ((x :: xs).map varK) ++ sgn 93 :: sgn 41 :: r)) := by simpa [brK] using h
    have ha := h'.adv
    have e1 := h'.len
    have e2 := ha.len
    obtain ⟨h1, h2⟩ := vars_bk xs x hl (c.l.length + 1) c.adv _ ha (by simp at e1 e2; omega)
    rw [recvC, h'.next, if_pos (nx_signS _ _)]
    exact ⟨h1, h2.must⟩
theorem typed_bk {d : Dc} (hd : rightD d = true) (hk : d.kind = 1 ∨ d.kind = 2) {c : Cur} {r : List Kt} (h : At c (toksD d ++ r)) (hn : c.l.length < N) : stD (typedC rT c.adv).1 = stD d ∧ At (typedC rT c.adv).2 r := by
  obtain ⟨q1, q2, q3, q4, q5, q6, q7, q8, q9⟩ := rightD_typed hd hk
  have hs0 : stG sg0 = sg0 := rfl
  have hb0 : stE ex0 = ex0 := rfl
  have hk3 : ¬ d.kind = 3 := by omega
  rcases hk with hk | hk
  · have h' : At c ((1, wType) :: (1, d.name) :: (brK (d.fms.map toksF) ++ (1, wStruct) :: sgn 123 :: (semK toksF d.flds ++ sgn 125 :: sgn 59 :: r))) := by
      rw [toksD, if_neg hk3, if_neg (by omega)] at h; simpa using h
    have e1 := h'.len
    have h1 := h'.adv
    obtain ⟨h2, h3⟩ := h1.named q1
    have e3 := h3.len
    obtain ⟨h4, h5⟩ := fms_bk hT (List.all_eq_true.1 q2) h3 (by simp [okK, nx, wStruct]) (by simp at e1 e3; omega)
    have h6 : At (allC [wStruct, [123]] (formalsC rT c.adv.name).2) (semK toksF d.flds ++ sgn 125 :: sgn 59 :: r) := by
      rw [allC_cons, allC_cons]; exact h5.mustW.must
    have e6 := h6.len
    obtain ⟨h7, h8⟩ := until_bk (rd := itemC rT) (st := stF) (tk := toksF) (N := N) d.flds (fun x hx c r h hr hn => item_bk hT (List.all_eq_true.1 q3 x hx) h hr hn) (fun x hx r => by
      have := List.all_eq_true.1 q3 x hx
      simp only [rightF, Bool.and_eq_true] at this
      exact nx_word _ (name_not_sign this.1 (by decide))) _ _ _ h6 (Nat.lt_succ_self _) (by simp at e1 e6; omega)
    have hsg : d.sigs = [] := q9.elim (·.2) (fun h => absurd h.1 (by omega))
    rw [typedC, h5.next, if_neg (by rw [nx_word _ (by decide)]; exact Bool.false_ne_true)]
    refine ⟨?_, h8.must⟩
    simp only [stD]
    rw [h2, h4, show (untilF (itemC rT) (allC [wStruct, [123]] (formalsC rT c.adv.name).2)).1.map stF = d.flds.map stF from h7, hsg, q5, q6, q7, q8, hk, hs0, hb0]
  · have h' : At c ((1, wType) :: (1, d.name) :: (brK (d.fms.map toksF) ++ (1, wInterface) :: sgn 123 :: (semK toksG d.sigs ++ sgn 125 :: sgn 59 :: r))) := by
      rw [toksD, if_neg hk3, if_pos hk] at h; simpa using h
    have e1 := h'.len
    have h1 := h'.adv
    obtain ⟨h2, h3⟩ := h1.named q1
    have e3 := h3.len
    obtain ⟨h4, h5⟩ := fms_bk hT (List.all_eq_true.1 q2) h3 (by simp [okK, nx, wInterface]) (by simp at e1 e3; omega)
    have h6 : At ((formalsC rT c.adv.name).2.adv.must [123]) (semK toksG d.sigs ++ sgn 125 :: sgn 59 :: r) := h5.adv.must
    have e6 := h6.len
    obtain ⟨h7, h8⟩ := until_bk (rd := sigC rT) (st := stG) (tk := toksG) (N := N) d.sigs (fun x hx c r h hr hn => sig_bk hT (List.all_eq_true.1 q4 x hx) h hr hn) (fun x hx r => by
      have := rightG_parts (List.all_eq_true.1 q4 x hx)
      exact nx_word _ (name_not_sign this.1 (by decide))) _ _ _ h6 (Nat.lt_succ_self _) (by simp at e1 e6; omega)
    have hsg : d.flds = [] := q9.elim (fun h => absurd h.1 (by omega)) (·.2)
    rw [typedC, h5.next, if_pos (nx_wordS _ _)]
    refine ⟨?_, h8.must⟩
    simp only [stD]
    rw [h2, h4, show (untilF (sigC rT) ((formalsC rT c.adv.name).2.adv.must [123])).1.map stG = d.sigs.map stG from h7, hsg, q5, q6, q7, q8, hk, hs0, hb0]
include hE
theorem method_bk {d : Dc} (hd : rightD d = true) (hk : d.kind = 3) {c : Cur} {r : List Kt} (h : At c (toksD d ++ r)) (hn : c.l.length < N) : stD (methodC rT rE c.adv).1 = stD d ∧ At (methodC rT rE c.adv).2 r := by
  obtain ⟨q1, q2, q3, q4, q5, q6, q7, q8⟩ := rightD_method hd hk
  have h' : At c ((1, wFunc) :: sgn 40 :: (1, d.recv) :: (1, d.name) :: (brK (d.vars.map varK) ++ sgn 41 :: (toksG d.sig ++ sgn 123 :: (1, wReturn) :: (toksE d.body ++ sgn 125 :: sgn 59 :: r)))) := by
    rw [toksD, if_pos hk] at h; simpa using h
  have e1 := h'.len
  have h1 := h'.adv.must
  obtain ⟨h2, h3⟩ := h1.named q5
  obtain ⟨h4, h5⟩ := h3.named q1
  obtain ⟨h6, h7⟩ := recv_bk (List.all_eq_true.1 q6) h5
  have h8 := h7.must
  have e8 := h8.len
  obtain ⟨h9, h10⟩ := sig_bk hT q7 h8 (okK_s (by decide) _) (by simp at e1 e8; omega)
  have h11 : At (allC [[123], wReturn] (sigC rT ((recvC (c.adv.must [40]).name.name).2.must [41])).2) (toksE d.body ++ sgn 125 :: sgn 59 :: r) := by
    rw [allC_cons, allC_cons]; exact h10.must.mustW
  have e11 := h11.len
  obtain ⟨h12, h13⟩ := hE d.body q8 _ _ h11 (okE_s (by decide) (by decide) _) (by simp at e1 e11; omega)
  refine ⟨?_, ?_⟩
  · simp only [stD, methodC]
    rw [h2, h4, h6, h9, h12, hk, q2, q3, q4]
  · have : At (allC [[125], [59]] (rE (allC [[123], wReturn] (sigC rT ((recvC (c.adv.must [40]).name.name).2.must [41])).2)).2) r := by
      rw [allC_cons, allC_cons]; exact h13.must.must
    exact this
theorem decls_bk : ∀ (l : List Dc), (∀ d ∈ l, rightD d = true) → ∀ (m : Nat) (c : Cur) (r : List Kt), At c (l.flatMap toksD ++ (1, wFunc) :: (1, wMain) :: r) → c.l.length < m → c.l.length < N →
    (declsC rT rE m c).1.map stD = l.map stD ∧ At (declsC rT rE m c).2 ((1, wMain) :: r)
  | [], _, m, c, r, h, hm, _ => by
    cases m with
    | zero => omega
    | succ m =>
      have h' : At c ((1, wFunc) :: (1, wMain) :: r) := by simpa using h
      rw [declsC, h'.next, h'.next, h'.adv.next, if_neg (by rw [nx_word _ (by decide)]; exact Bool.false_ne_true), if_pos (nx_wordS _ _), if_pos (nx_wordS _ _)]
      exact ⟨rfl, h'.adv⟩
  | d :: l, hd, m, c, r, h, hm, hn => by
    cases m with
    | zero => omega
    | succ m =>
      have h' : At c (toksD d ++ (l.flatMap toksD ++ (1, wFunc) :: (1, wMain) :: r)) := by simpa using h
      have hdd := hd d (by simp)
      have e1 := h'.len
      have hlen := toksD_pos d
      rcases rightD_kinds hdd with hk | hk | ⟨hk, -⟩
      · obtain ⟨h1, h2⟩ := typed_bk hT hdd (.inl hk) h' hn
        have e2 := h2.len
        obtain ⟨h3, h4⟩ := decls_bk l (fun x hx => hd x (by simp [hx])) m _ r h2 (by simp at e1 e2; omega) (by simp at e1 e2; omega)
        have hnx : c.next wType = true := by
          rw [h'.next, toksD, if_neg (by omega), if_neg (by omega)]; exact nx_wordS _ _
        rw [declsC, if_pos hnx]
        exact ⟨by simp [h1, h3], h4⟩
      · obtain ⟨h1, h2⟩ := typed_bk hT hdd (.inr hk) h' hn
        have e2 := h2.len
        obtain ⟨h3, h4⟩ := decls_bk l (fun x hx => hd x (by simp [hx])) m _ r h2 (by simp at e1 e2; omega) (by simp at e1 e2; omega)
        have hnx : c.next wType = true := by
          rw [h'.next, toksD, if_neg (by omega), if_pos hk]; exact nx_wordS _ _
        rw [declsC, if_pos hnx]
        exact ⟨by simp [h1, h3], h4⟩
      · obtain ⟨h1, h2⟩ := method_bk hT hE hdd hk h' hn
        have e2 := h2.len
        obtain ⟨h3, h4⟩ := decls_bk l (fun x hx => hd x (by simp [hx])) m _ r h2 (by simp at e1 e2; omega) (by simp at e1 e2; omega)
        have h'' := h'
        rw [toksD, if_pos hk] at h''
        have hnx : c.next wType = false := by rw [h''.next]; exact nx_word _ (by decide)
        have hnf : c.next wFunc = true := by rw [h''.next]; exact nx_wordS _ _
        have hnm : c.adv.next wMain = false := by rw [At.next (h''.adv)]; exact nx_sign _ (by decide)
        rw [declsC, if_neg (by rw [hnx]; exact Bool.false_ne_true), if_pos hnf, if_neg (by rw [hnm]; exact Bool.false_ne_true)]
        exact ⟨by simp [h1, h3], h4⟩
theorem program_bk {p : Pg} (hp : rightPg p = true) {c : Cur} {r : List Kt} (h : At c (toksP p ++ r)) (hn : c.l.length < N) : stP (programC rT rE c).1 = stP p ∧ At (programC rT rE c).2 r := by
  simp only [rightPg, Bool.and_eq_true, List.all_eq_true] at hp
  have h' : At c ((1, wPackage) :: (1, wMain) :: sgn 59 :: (p.decls.flatMap toksD ++ (1, wFunc) :: (1, wMain) :: sgn 40 :: sgn 41 :: sgn 123 :: sgn 95 :: sgn 61 :: (toksE p.main ++ sgn 125 :: r))) := by
    simpa [toksP, headK, mainK] using h
  have e1 := h'.len
  have h1 : At (allC [wPackage, wMain, [59]] c) (p.decls.flatMap toksD ++ (1, wFunc) :: (1, wMain) :: sgn 40 :: sgn 41 :: sgn 123 :: sgn 95 :: sgn 61 :: (toksE p.main ++ sgn 125 :: r)) := by
    rw [allC_cons, allC_cons, allC_cons]; exact h'.mustW.mustW.must
  have e2 := h1.len
  obtain ⟨h2, h3⟩ := decls_bk hT hE p.decls hp.1 _ _ _ h1 (Nat.lt_succ_self _) (by simp at e1 e2; omega)
  have h4 : At (allC [wMain, [40], [41], [123], [95], [61]] (declsC rT rE ((allC [wPackage, wMain, [59]] c).l.length + 1) (allC [wPackage, wMain, [59]] c)).2) (toksE p.main ++ sgn 125 :: r) := by
    simp only [allC_cons]; exact h3.mustW.must.must.must.must.must
  have e4 := h4.len
  obtain ⟨h5, h6⟩ := hE p.main hp.2 _ _ h4 (okE_s (by decide) (by decide) _) (by simp at e1 e4; omega)
  refine ⟨?_, h6.must⟩
  simp only [stP, programC]
  rw [h2, h5]
end
theorem prog_bk {p : Pg} (hp : rightPg p = true) {l : List Tk} (hl : l.map ktOf = toksP p ++ [(3, [])]) : stP (rdP l).1 = stP p ∧ At (rdP l).2 [(3, [])] :=
  program_bk (N := l.length + 1) (fun t ht c r h hr hn => type_bk t ht _ c r h hr hn) (fun e he c r h hr hn => expr_back he h hr hn) hp (c := ⟨l, none⟩) ⟨rfl, hl⟩ (Nat.lt_succ_self _)
end Go.Pv
end

section
/- What the reference (castingsref08) reads with a place: declarations and programs; that the package parse reads the same. -/
namespace Go.Pv
open Go

section
variable (L : List Tk) (rT : Pl → Ty × Pl) (rE : Pl → Exp × Pl)
def itemR (p : Pl) : Fm × Pl := if (p.name L).bad then (⟨p.nm L, ty0, p.at_ L⟩, p.name L) else (⟨p.nm L, (rT (p.name L)).1, p.at_ L⟩, (rT (p.name L)).2)
def pairsL (e : Str) : Nat → Pl → List Fm × Pl
  | 0, p => ([], p)
  | m + 1, p => if (itemR L rT p).2.is L [44] then ((itemR L rT p).1 :: (pairsL e m (itemR L rT p).2.adv).1, (pairsL e m (itemR L rT p).2.adv).2) else ([(itemR L rT p).1], (itemR L rT p).2.must L e)
def pairsR (e : Str) (p : Pl) : List Fm × Pl := if p.bad then ([], p) else pairsL L rT e (L.length - p.k) p
def formalsR (p : Pl) : List Fm × Pl := if p.is L [91] then pairsR L rT [93] p.adv else ([], p)
def parR (p : Pl) : List Fm × Pl := if (p.must L [40]).is L [41] then ([], (p.must L [40]).adv) else pairsR L rT [41] (p.must L [40])
def tyR (p : Pl) : Ty × Pl := if p.bad then (ty0, p) else rT p
def exR (p : Pl) : Exp × Pl := if p.bad then (ex0, p) else rE p
def sigR (p : Pl) : Sg × Pl :=
  (⟨p.nm L, (formalsR L rT (p.name L)).1, (parR L rT (formalsR L rT (p.name L)).2).1, (tyR rT (parR L rT (formalsR L rT (p.name L)).2).2).1, p.at_ L⟩, (tyR rT (parR L rT (formalsR L rT (p.name L)).2).2).2)
end
section
variable (L : List Tk) {α : Type} (rd : Pl → α × Pl)
def untilL : Nat → Pl → List α × Pl
  | 0, p => ([], p)
  | m + 1, p => if !p.bad && !p.is L [125] then ((rd p).1 :: (untilL m ((rd p).2.must L [59])).1, (untilL m ((rd p).2.must L [59])).2) else ([], p)
def untilR (p : Pl) : List α × Pl := untilL L rd (L.length - p.k) p
end
section
variable (L : List Tk) (rT : Pl → Ty × Pl) (rE : Pl → Exp × Pl)
def wordsR (ws : List Str) (p : Pl) : Pl := ws.foldl (fun p w => p.must L w) p
def typedH (p : Pl) : List Fm × Pl := formalsR L rT ((p.must L wType).name L)
def typedR (p : Pl) : Dc × Pl :=
  if (typedH L rT p).2.is L wInterface then
    (⟨2, (p.must L wType).nm L, (typedH L rT p).1, [], (untilR L (sigR L rT) ((typedH L rT p).2.adv.must L [123])).1, [], [], sg0, ex0, (p.must L wType).at_ L⟩, ((untilR L (sigR L rT) ((typedH L rT p).2.adv.must L [123])).2.must L [125]).must L [59])
  else (⟨1, (p.must L wType).nm L, (typedH L rT p).1, (untilR L (itemR L rT) (((typedH L rT p).2.must L wStruct).must L [123])).1, [], [], [], sg0, ex0, (p.must L wType).at_ L⟩, ((untilR L (itemR L rT) (((typedH L rT p).2.must L wStruct).must L [123])).2.must L [125]).must L [59])
def varsL : Nat → Pl → List Str × Pl
  | 0, p => ([], p)
  | m + 1, p => if (p.adv.name L).is L [44] then (p.adv.nm L :: (varsL m (p.adv.name L)).1, (varsL m (p.adv.name L)).2) else ([p.adv.nm L], p.adv.name L)
def recvR (p : Pl) : List Str × Pl := if p.is L [91] then ((varsL L (L.length - p.k) p).1, (varsL L (L.length - p.k) p).2.must L [93]) else ([], p)
def methodR (p : Pl) : Dc × Pl :=
  let c0 := (p.must L wFunc).must L [40]
  let c1 := c0.name L
  let v := recvR L (c1.name L)
  let s := sigR L rT (v.2.must L [41])
  let b := exR rE ((s.2.must L [123]).must L wReturn)
  (⟨3, c1.nm L, [], [], [], c0.nm L, v.1, s.1, b.1, c1.at_ L⟩, (b.2.must L [125]).must L [59])
def declsL : Nat → Pl → List Dc × Pl
  | 0, p => ([], p)
  | m + 1, p =>
    if p.bad then ([], p)
    else if p.is L wType then ((typedR L rT p).1 :: (declsL m (typedR L rT p).2).1, (declsL m (typedR L rT p).2).2)
    else if p.is L wFunc && !p.adv.is L wMain then ((methodR L rT rE p).1 :: (declsL m (methodR L rT rE p).2).1, (declsL m (methodR L rT rE p).2).2)
    else ([], p)
def declsR (p : Pl) : List Dc × Pl := declsL L rT rE (L.length - p.k) p
def programR (p : Pl) : Pg × Pl :=
  let d := declsR L rT rE (wordsR L [wPackage, wMain, [59]] p)
  let e := exR rE (wordsR L [wFunc, wMain, [40], [41], [123], [95], [61]] d.2)
  (⟨d.1, e.1⟩, e.2.must L [125])
def declR (p : Pl) : Dc × Pl := if p.is L wFunc then methodR L rT rE p else typedR L rT p
end
def rpR (l : List Tk) : Pg × Pl := programR l (typeR l (l.length + 1)) (exprR l (l.length + 1)) ⟨0, false⟩
def rdR (l : List Tk) : Dc × Pl := declR l (typeR l (l.length + 1)) (exprR l (l.length + 1)) ⟨0, false⟩
def declC (rT : Cur → Ty × Cur) (rE : Cur → Exp × Cur) (c : Cur) : Dc × Cur :=
  if c.next wType then typedC rT c.adv else if c.next wFunc then methodC rT rE c.adv else (dc0, c.fail)
def rdD (l : List Tk) : Dc × Cur := declC (typeC (l.length + 1)) (exprC (l.length + 1)) ⟨l, none⟩

structure SimA {α : Type} (L : List Tk) (rc : Cur → α × Cur) (rp : Pl → α × Pl) : Prop where
  sim : ∀ c p, Rel L c p → Rel L (rc c).2 (rp p).2 ∧ ((rp p).2.bad = false → p.bad = false ∧ (rc c).1 = (rp p).1)
  suf : ∀ c, (rc c).2.l <:+ c.l
theorem Pl.fail_bad {p : Pl} (h : p.bad = true) : p.fail = p := by cases p; simp only at h; subst h; rfl
theorem Rel.of (L : List Tk) {p : Pl} (h : p.k < L.length) : Rel L ⟨L.drop p.k, if p.bad then some (hdK L p).2.2 else none⟩ p :=
  ⟨rfl, h, by cases p.bad <;> rfl, fun a ha => by
    cases hb : p.bad with
    | true => simp [hb] at ha; exact ha.symm
    | false => simp [hb] at ha⟩
theorem Rel.len {L : List Tk} {c : Cur} {p : Pl} (r : Rel L c p) : c.l.length = L.length - p.k := by rw [r.l, List.length_drop]
theorem Rel.mono {L : List Tk} {c c' : Cur} {p p' : Pl} (r : Rel L c p) (r' : Rel L c' p') (h : c'.l.length ≤ c.l.length) : p.k ≤ p'.k := by
  have h1 := r.len; have h2 := r'.len; have h3 := r.lt; have h4 := r'.lt; omega
theorem SimA.goes {α : Type} {L : List Tk} {rc : Cur → α × Cur} {rp : Pl → α × Pl} (h : SimA L rc rp) : Goes L rp := fun p hp => by
  have r := Rel.of L hp
  obtain ⟨r2, -⟩ := h.sim _ _ r
  exact ⟨r.mono r2 (h.suf _).length_le, r2.lt⟩
theorem Sim.all {α : Type} {L : List Tk} {rc : Cur → α × Cur} {rp : Pl → α × Pl} {n : Nat} (h : Sim L rc rp n) (hn : L.length < n) : SimA L rc rp := ⟨fun c p r => h.sim c p r (by omega), h.suf⟩
theorem Rel.isErr {L : List Tk} {c : Cur} {p : Pl} (r : Rel L c p) (h : p.bad = true) : c.err.isSome = true := by rw [r.err, h]
theorem Pl.is_no {L : List Tk} {p : Pl} (h : p.bad = true) (s : Str) : p.is L s = false := by rw [Pl.is, h]; rfl
theorem Pl.must_no {L : List Tk} {p : Pl} (h : p.bad = true) (s : Str) : p.must L s = p := by rw [Pl.must, Pl.is_no h]; exact Pl.fail_bad h
section
variable {L : List Tk} (hE : EndsT L) {tc : Cur → Ty × Cur} {tp : Pl → Ty × Pl} (hT : SimA L tc tp) (hTs : ∀ c : Cur, c.err.isSome = true → (tc c).2 = c)
include hE hT hTs
theorem sim_ty {c : Cur} {p : Pl} (r : Rel L c p) : Rel L (tc c).2 (tyR tp p).2 ∧ ((tyR tp p).2.bad = false → p.bad = false ∧ (tc c).1 = (tyR tp p).1) := by
  cases hb : p.bad with
  | true =>
    rw [tyR, if_pos hb, hTs c (r.isErr hb)]
    exact ⟨r, fun h => by rw [show p.bad = false from h] at hb; cases hb⟩
  | false =>
    rw [tyR, if_neg (by rw [hb]; exact Bool.false_ne_true)]
    have h := hT.sim c p r
    rw [hb] at h
    exact h
theorem sim_item : SimA L (itemC tc) (itemR L tp) := ⟨fun c p r => by
  have r1 := r.name hE
  have h := sim_ty hE hT hTs r1
  have e2 : (itemR L tp p).2 = (tyR tp (p.name L)).2 := by unfold itemR tyR; split <;> rfl
  have e1 : (itemR L tp p).1 = ⟨p.nm L, (tyR tp (p.name L)).1, p.at_ L⟩ := by unfold itemR tyR; split <;> rfl
  rw [e1, e2]
  refine ⟨h.1, fun hb => ?_⟩
  obtain ⟨h3, h4⟩ := h.2 hb
  refine ⟨Pl.name_bad h3, ?_⟩
  show (⟨c.nm, (tc c.name).1, c.at_⟩ : Fm) = _
  rw [r.nm, r.pos, h4], fun c => itemC_suf hT.suf c⟩
theorem sim_pairsL (e : Str) : ∀ (m m' : Nat) (c : Cur) (p : Pl), Rel L c p → L.length - p.k ≤ m → c.l.length < m' →
    Rel L (pairsC tc e m' c).2 (pairsL L tp e m p).2 ∧ ((pairsL L tp e m p).2.bad = false → p.bad = false ∧ (pairsC tc e m' c).1 = (pairsL L tp e m p).1)
  | 0, _, c, p, r, hm, _ => by have h1 := r.lt; omega
  | _ + 1, 0, c, p, r, _, hm => by omega
  | m + 1, m' + 1, c, p, r, hm, hm' => by
    have hi := sim_item hE hT hTs
    obtain ⟨r1, v1⟩ := hi.sim c p r
    rw [pairsC, pairsL, r1.next]
    cases h44 : (itemR L tp p).2.is L [44] with
    | true =>
      simp only [if_true]
      have r2 := r1.adv hE h44
      have hl := r.len
      have hl1 := r1.len
      have hl2 := r2.len
      have hs := (hi.suf c).length_le
      have ha := Cur.adv_len (c := (itemC tc c).2) (s := [44]) (by rw [r1.next, h44])
      obtain ⟨r3, v3⟩ := sim_pairsL e m m' _ _ r2 (by omega) (by omega)
      refine ⟨r3, fun hb => ?_⟩
      obtain ⟨h5, h6⟩ := v3 hb
      obtain ⟨h7, h8⟩ := v1 h5
      exact ⟨h7, by rw [h8, h6]⟩
    | false =>
      simp only [Bool.false_eq_true, if_false]
      refine ⟨r1.must hE e, fun hb => ?_⟩
      obtain ⟨h7, h8⟩ := v1 (Pl.must_bad hb).1
      exact ⟨h7, by rw [h8]⟩
theorem itemC_still {c : Cur} (he : c.err.isSome = true) : (itemC tc c).2 = c := by
  show (tc c.name).2 = c
  rw [Cur.name_err he]; exact hTs c he
theorem pairsC_still (e : Str) (m : Nat) {c : Cur} (he : c.err.isSome = true) : (pairsC tc e m c).2 = c := by
  cases m with
  | zero => rfl
  | succ m =>
    rw [pairsC, itemC_still hE hT hTs he, Cur.err_next he]
    exact Cur.must_err he
theorem sim_pairs (e : Str) : SimA L (pairsF tc e) (pairsR L tp e) := ⟨fun c p r => by
  unfold pairsF pairsR
  cases hb : p.bad with
  | true =>
    rw [pairsC_still hE hT hTs e _ (r.isErr hb)]
    exact ⟨r, fun h => by rw [show p.bad = false from h] at hb; cases hb⟩
  | false =>
    have := sim_pairsL hE hT hTs e (L.length - p.k) (c.l.length + 1) c p r (Nat.le_refl _) (Nat.lt_succ_self _)
    rw [hb] at this
    exact this, fun c => pairsC_suf hT.suf e _ c⟩
theorem sim_formals : SimA L (formalsC tc) (formalsR L tp) := ⟨fun c p r => by
  unfold formalsC formalsR
  rw [r.next]
  cases h : p.is L [91] with
  | true =>
    simp only [if_true]
    obtain ⟨r1, v1⟩ := (sim_pairs hE hT hTs [93]).sim _ _ (r.adv hE h)
    exact ⟨r1, fun hb => ⟨(Pl.is_bad h).1, (v1 hb).2⟩⟩
  | false =>
    simp only [Bool.false_eq_true, if_false]
    exact ⟨r, fun hb => ⟨hb, trivial⟩⟩, fun c => formalsC_suf hT.suf c⟩
theorem sim_par : SimA L (parC tc) (parR L tp) := ⟨fun c p r => by
  unfold parC parR
  have r0 := r.must hE [40]
  rw [r0.next]
  cases h : (p.must L [40]).is L [41] with
  | true =>
    simp only [if_true]
    exact ⟨r0.adv hE h, fun hb => ⟨(Pl.must_bad (Pl.is_bad h).1).1, trivial⟩⟩
  | false =>
    simp only [Bool.false_eq_true, if_false]
    obtain ⟨r1, v1⟩ := (sim_pairs hE hT hTs [41]).sim _ _ r0
    exact ⟨r1, fun hb => ⟨(Pl.must_bad (v1 hb).1).1, (v1 hb).2⟩⟩, fun c => parC_suf hT.suf c⟩
theorem sim_sig : SimA L (sigC tc) (sigR L tp) := ⟨fun c p r => by
  have r1 := r.name hE
  obtain ⟨r2, v2⟩ := (sim_formals hE hT hTs).sim _ _ r1
  obtain ⟨r3, v3⟩ := (sim_par hE hT hTs).sim _ _ r2
  obtain ⟨r4, v4⟩ := sim_ty hE hT hTs r3
  refine ⟨r4, fun hb => ?_⟩
  obtain ⟨h1, h2⟩ := v4 hb
  obtain ⟨h3, h4⟩ := v3 h1
  obtain ⟨h5, h6⟩ := v2 h3
  refine ⟨Pl.name_bad h5, ?_⟩
  unfold sigC sigR
  rw [r.nm, r.pos, h2, h4, h6], fun c => sigC_suf hT.suf c⟩
omit hT hTs in
theorem sim_until {α : Type} {rc : Cur → α × Cur} {rp : Pl → α × Pl} (h : SimA L rc rp) (hp : ∀ c, (rc c).2.err.isSome = true ∨ (rc c).2.l.length + 1 ≤ c.l.length) : ∀ (m m' : Nat) (c : Cur) (p : Pl), Rel L c p → (p.bad = false → L.length - p.k ≤ m) → (p.bad = false → c.l.length < m') →
    Rel L (untilC rc m' c).2 ((untilL L rp m p).2.must L [125]) ∧ (((untilL L rp m p).2.must L [125]).bad = false → p.bad = false ∧ (untilC rc m' c).1 = (untilL L rp m p).1)
  | m, m', c, p, r, hm, hm' => by
    cases hb : p.bad with
    | true =>
      have e1 : untilC rc m' c = ([], c) := untilC_err rc m' (r.isErr hb)
      have e2 : untilL L rp m p = ([], p) := by
        cases m with
        | zero => rfl
        | succ m => rw [untilL, hb]; rfl
      rw [e1, e2, Pl.must_no hb]
      exact ⟨r, fun h => by rw [hb] at h; cases h⟩
    | false =>
      have hlt := r.lt
      have hm1 := hm hb
      have hm2 := hm' hb
      obtain ⟨m, rfl⟩ : ∃ i, m = i + 1 := ⟨m - 1, by omega⟩
      obtain ⟨m', rfl⟩ : ∃ i, m' = i + 1 := ⟨m' - 1, by omega⟩
      have he : c.err.isSome = false := by rw [r.err, hb]
      cases h125 : p.is L [125] with
      | true =>
        rw [untilC_end rc m' (by rw [r.next, h125]), untilL, hb, h125]
        simp only [Bool.not_true, Bool.and_false, Bool.false_eq_true, if_false]
        rw [Pl.must, if_pos h125]
        exact ⟨r.adv hE h125, fun _ => ⟨trivial, trivial⟩⟩
      | false =>
        rw [untilC_go rc m' (by rw [r.next, h125]) he, untilL, hb, h125]
        simp only [Bool.not_false, Bool.and_self, if_true]
        obtain ⟨r1, v1⟩ := h.sim c p r
        have r2 := r1.must hE [59]
        have hl := r.len
        have hl2 := r2.len
        have hs := Cur.must_len (rc c).2 [59]
        have hq : ((rp p).2.must L [59]).bad = false → ((rc c).2.must [59]).l.length + 1 ≤ c.l.length := fun h => by
          have h1 := (Pl.must_bad h).1
          rcases hp c with h2 | h2
          · rw [r1.err, h1] at h2; cases h2
          · omega
        obtain ⟨r3, v3⟩ := sim_until h hp m m' _ _ r2 (fun h => by have := hq h; have := r2.lt; omega) (fun h => by have := hq h; omega)
        refine ⟨r3, fun hb => ?_⟩
        obtain ⟨h5, h6⟩ := v3 hb
        obtain ⟨h7, h8⟩ := v1 (Pl.must_bad h5).1
        exact ⟨trivial, by rw [h8, h6]⟩
theorem sim_typed : ∀ c p, Rel L c p → p.is L wType = true → Rel L (typedC tc c.adv).2 (typedR L tp p).2 ∧ ((typedR L tp p).2.bad = false → (typedC tc c.adv).1 = (typedR L tp p).1) := fun c p r hty => by
  have r0 := r.adv hE hty
  have em : p.must L wType = p.adv := by rw [Pl.must, if_pos hty]
  have r1 := r0.name hE
  obtain ⟨r2, v2⟩ := (sim_formals hE hT hTs).sim _ _ r1
  have hte : ∀ c : Cur, c.err.isSome = true → (tc c).2.err.isSome = true := fun c h => by rw [hTs c h]; exact h
  unfold typedC typedR typedH
  rw [em, r2.next]
  cases hi : (formalsR L tp (p.adv.name L)).2.is L wInterface with
  | true =>
    simp only [if_true]
    have r3 := (r2.adv hE hi).must hE [123]
    obtain ⟨r4, v4⟩ := sim_until hE (sim_sig hE hT hTs) (fun c => sigC_prog hT.suf hte c) (L.length - ((formalsR L tp (p.adv.name L)).2.adv.must L [123]).k) _ _ _ r3 (fun _ => Nat.le_refl _) (fun _ => Nat.lt_succ_self _)
    refine ⟨r4.must hE [59], fun hb => ?_⟩
    obtain ⟨h5, h6⟩ := v4 (Pl.must_bad hb).1
    obtain ⟨h7, h8⟩ := v2 (Pl.is_bad hi).1
    unfold untilF untilR
    rw [r0.nm, r0.pos, h6, h8]
  | false =>
    simp only [Bool.false_eq_true, if_false]
    have r3 := (r2.must hE wStruct).must hE [123]
    obtain ⟨r4, v4⟩ := sim_until hE (sim_item hE hT hTs) (fun c => itemC_prog hT.suf hte c) (L.length - (((formalsR L tp (p.adv.name L)).2.must L wStruct).must L [123]).k) _ _ _ r3 (fun _ => Nat.le_refl _) (fun _ => Nat.lt_succ_self _)
    refine ⟨r4.must hE [59], fun hb => ?_⟩
    obtain ⟨h5, h6⟩ := v4 (Pl.must_bad hb).1
    obtain ⟨h7, h8⟩ := v2 (Pl.must_bad (Pl.must_bad h5).1).1
    unfold untilF untilR
    rw [allC_cons, allC_cons]
    show (⟨1, c.adv.nm, _, (untilC (itemC tc) _ _).1, _, _, _, _, _, _⟩ : Dc) = _
    rw [r0.nm, r0.pos, h8]
    congr 1
end
section
variable {L : List Tk} (hE : EndsT L)
include hE
theorem sim_varsL : ∀ (m m' : Nat) (c : Cur) (p : Pl), Rel L c.adv p.adv → L.length - p.k ≤ m → c.adv.l.length < m' →
    Rel L (varsC m' c.adv).2 (varsL L m p).2 ∧ ((varsL L m p).2.bad = false → p.bad = false ∧ (varsC m' c.adv).1 = (varsL L m p).1)
  | 0, _, c, p, r, hm, _ => by have h1 := r.lt; have h2 : p.adv.k = p.k + 1 := rfl; omega
  | _ + 1, 0, c, p, r, _, hm => by omega
  | m + 1, m' + 1, c, p, r, hm, hm' => by
    have r1 := r.name hE
    rw [varsC, varsL, r1.next]
    cases h44 : (p.adv.name L).is L [44] with
    | true =>
      simp only [if_true]
      have r2 := r1.adv hE h44
      have hl := r.len
      have hl2 := r2.len
      have h2 : p.adv.k = p.k + 1 := rfl
      have h3 : (p.adv.name L).adv.k = (p.adv.name L).k + 1 := rfl
      have hs := Cur.name_len c.adv
      have ha := Cur.adv_len (c := c.adv.name) (s := [44]) (by rw [r1.next, h44])
      have hlt := r.lt
      have hlt2 := r2.lt
      obtain ⟨r3, v3⟩ := sim_varsL m m' c.adv.name (p.adv.name L) r2 (by omega) (by omega)
      refine ⟨r3, fun hb => ?_⟩
      obtain ⟨h5, h6⟩ := v3 hb
      exact ⟨Pl.name_bad (p := p.adv) h5, by rw [h6, r.nm]⟩
    | false =>
      simp only [Bool.false_eq_true, if_false]
      exact ⟨r1, fun hb => ⟨Pl.name_bad (p := p.adv) hb, by rw [r.nm]⟩⟩
theorem sim_recv : SimA L recvC (recvR L) := ⟨fun c p r => by
  unfold recvC recvR
  rw [r.next]
  cases h : p.is L [91] with
  | true =>
    simp only [if_true]
    have ha := Cur.adv_len (c := c) (s := [91]) (by rw [r.next, h])
    obtain ⟨r1, v1⟩ := sim_varsL hE (L.length - p.k) (c.l.length + 1) c p (r.adv hE h) (Nat.le_refl _) (by omega)
    exact ⟨r1.must hE [93], fun hb => v1 (Pl.must_bad hb).1⟩
  | false =>
    simp only [Bool.false_eq_true, if_false]
    exact ⟨r, fun hb => ⟨hb, trivial⟩⟩, recvC_suf⟩
theorem sim_all : ∀ (ws : List Str) (c : Cur) (p : Pl), Rel L c p → Rel L (allC ws c) (wordsR L ws p) ∧ ((wordsR L ws p).bad = false → p.bad = false)
  | [], c, p, r => ⟨r, fun h => h⟩
  | w :: ws, c, p, r => by
    obtain ⟨r1, v1⟩ := sim_all ws _ _ (r.must hE w)
    exact ⟨r1, fun h => (Pl.must_bad (v1 h)).1⟩
end
section
variable {L : List Tk} (hE : EndsT L) {tc : Cur → Ty × Cur} {tp : Pl → Ty × Pl} (hT : SimA L tc tp) (hTs : ∀ c : Cur, c.err.isSome = true → (tc c).2 = c)
  {xc : Cur → Exp × Cur} {xp : Pl → Exp × Pl} (hX : SimA L xc xp) (hXs : ∀ c : Cur, c.err.isSome = true → (xc c).2 = c)
include hE hX hXs
theorem sim_ex {c : Cur} {p : Pl} (r : Rel L c p) : Rel L (xc c).2 (exR xp p).2 ∧ ((exR xp p).2.bad = false → p.bad = false ∧ (xc c).1 = (exR xp p).1) := by
  cases hb : p.bad with
  | true =>
    rw [exR, if_pos hb, hXs c (r.isErr hb)]
    exact ⟨r, fun h => by rw [show p.bad = false from h] at hb; cases hb⟩
  | false =>
    rw [exR, if_neg (by rw [hb]; exact Bool.false_ne_true)]
    have h := hX.sim c p r
    rw [hb] at h
    exact h
include hT hTs
theorem sim_method : ∀ c p, Rel L c p → p.is L wFunc = true → Rel L (methodC tc xc c.adv).2 (methodR L tp xp p).2 ∧ ((methodR L tp xp p).2.bad = false → (methodC tc xc c.adv).1 = (methodR L tp xp p).1) := fun c p r hfn => by
  have r0 := (r.adv hE hfn).must hE [40]
  have em : p.must L wFunc = p.adv := by rw [Pl.must, if_pos hfn]
  have r1 := r0.name hE
  have r2 := r1.name hE
  obtain ⟨r3, v3⟩ := (sim_recv hE).sim _ _ r2
  obtain ⟨r4, v4⟩ := (sim_sig hE hT hTs).sim _ _ (r3.must hE [41])
  obtain ⟨r5, v5⟩ := sim_ex hE hX hXs ((r4.must hE [123]).must hE wReturn)
  have r6 := (r5.must hE [125]).must hE [59]
  unfold methodC methodR
  simp only [em]
  refine ⟨r6, fun hb => ?_⟩
  obtain ⟨h1, h2⟩ := v5 (Pl.must_bad (Pl.must_bad hb).1).1
  obtain ⟨h3, h4⟩ := v4 (Pl.must_bad (Pl.must_bad h1).1).1
  obtain ⟨h5, h6⟩ := v3 (Pl.must_bad h3).1
  rw [r0.nm, r1.nm, r1.pos, h4, h6]
  congr 1
theorem sim_decls : ∀ (m m' : Nat) (c : Cur) (p : Pl), Rel L c p → (p.bad = false → L.length - p.k ≤ m) → (p.bad = false → c.l.length < m') →
    Rel L (declsC tc xc m' c).2 ((declsL L tp xp m p).2.must L wFunc) ∧ (((declsL L tp xp m p).2.must L wFunc).bad = false → p.bad = false ∧ (declsC tc xc m' c).1 = (declsL L tp xp m p).1)
  | m, m', c, p, r, hm, hm' => by
    cases hb : p.bad with
    | true =>
      have he := r.isErr hb
      have e1 : (declsC tc xc m' c).2 = c := by
        cases m' with
        | zero => rfl
        | succ m' => rw [declsC, Cur.err_next he, Cur.err_next he]; simp [Cur.fail, he]
      have e2 : declsL L tp xp m p = ([], p) := by
        cases m with
        | zero => rfl
        | succ m => rw [declsL, if_pos hb]
      rw [e1, e2, Pl.must_no hb]
      exact ⟨r, fun h => by rw [hb] at h; cases h⟩
    | false =>
      have hlt := r.lt
      have hm1 := hm hb
      have hm2 := hm' hb
      obtain ⟨m, rfl⟩ : ∃ i, m = i + 1 := ⟨m - 1, by omega⟩
      obtain ⟨m', rfl⟩ : ∃ i, m' = i + 1 := ⟨m' - 1, by omega⟩
      have hl := r.len
      rw [declsC, declsL, r.next, r.next]
      simp only [hb, Bool.false_eq_true, if_false]
      cases hty : p.is L wType with
      | true =>
        simp only [if_true]
        obtain ⟨r1, v1⟩ := sim_typed hE hT hTs c p r hty
        have hl1 := r1.len
        have hlt1 := r1.lt
        have hs := (typedC_suf hT.suf c.adv).length_le
        have ha := Cur.adv_len (c := c) (s := wType) (by rw [r.next, hty])
        obtain ⟨r3, v3⟩ := sim_decls m m' _ _ r1 (fun _ => by omega) (fun _ => by omega)
        refine ⟨r3, fun hb => ?_⟩
        obtain ⟨h5, h6⟩ := v3 hb
        exact ⟨trivial, by rw [v1 h5, h6]⟩
      | false =>
        simp only [Bool.false_eq_true, if_false]
        cases hfn : p.is L wFunc with
        | false =>
          simp only [Bool.false_and, Bool.false_eq_true, if_false]
          rw [Pl.must, if_neg (by rw [hfn]; exact Bool.false_ne_true)]
          exact ⟨r.fail, fun h => by cases h⟩
        | true =>
          simp only [Bool.true_and, if_true]
          have r0 := r.adv hE hfn
          rw [r0.next]
          cases hmn : p.adv.is L wMain with
          | true =>
            simp only [Bool.not_true, Bool.false_eq_true, if_false, if_true]
            rw [Pl.must, if_pos hfn]
            exact ⟨r0, fun _ => ⟨trivial, trivial⟩⟩
          | false =>
            simp only [Bool.not_false, Bool.false_eq_true, if_false, if_true]
            obtain ⟨r1, v1⟩ := sim_method hE hT hTs hX hXs c p r hfn
            have hl1 := r1.len
            have hlt1 := r1.lt
            have hs := (methodC_suf hT.suf hX.suf c.adv).length_le
            have ha := Cur.adv_len (c := c) (s := wFunc) (by rw [r.next, hfn])
            obtain ⟨r3, v3⟩ := sim_decls m m' _ _ r1 (fun _ => by omega) (fun _ => by omega)
            refine ⟨r3, fun hb => ?_⟩
            obtain ⟨h5, h6⟩ := v3 hb
            exact ⟨trivial, by rw [v1 h5, h6]⟩
theorem sim_program : SimA L (programC tc xc) (programR L tp xp) := ⟨fun c p r => by
  obtain ⟨r0, v0⟩ := sim_all hE [wPackage, wMain, [59]] c p r
  obtain ⟨r1, v1⟩ := sim_decls hE hT hTs hX hXs _ _ _ _ r0 (fun _ => Nat.le_refl _) (fun _ => Nat.lt_succ_self _)
  obtain ⟨r2, v2⟩ := sim_all hE [wMain, [40], [41], [123], [95], [61]] _ _ r1
  obtain ⟨r3, v3⟩ := sim_ex hE hX hXs r2
  refine ⟨r3.must hE [125], fun hb => ?_⟩
  obtain ⟨h1, h2⟩ := v3 (Pl.must_bad hb).1
  obtain ⟨h3, h4⟩ := v1 (v2 h1)
  refine ⟨v0 h3, ?_⟩
  show (⟨_, _⟩ : Pg) = ⟨_, _⟩
  rw [h4, h2]; rfl, fun c => programC_suf hT.suf hX.suf c⟩
end
theorem simT {l : List Tk} (hE : EndsT l) : SimA l (typeC (l.length + 1)) (typeR l (l.length + 1)) := (sim_type hE _).all (Nat.lt_succ_self _)
theorem simX {l : List Tk} (hE : EndsT l) : SimA l (exprC (l.length + 1)) (exprR l (l.length + 1)) := (sim_expr hE _).all (Nat.lt_succ_self _)
theorem prog_same {l : List Tk} (hE : EndsT l) : Rel l (rdP l).2 (rpR l).2 ∧ ((rpR l).2.bad = false → (rdP l).1 = (rpR l).1) := by
  obtain ⟨h1, h2⟩ := (sim_program hE (simT hE) (typeC_err _) (simX hE) (exprC_err _)).sim _ _ (rel0 hE)
  exact ⟨h1, fun h => (h2 h).2⟩
end Go.Pv
end

section
/- What is read without an error is right, and its tokens are those that were read. -/
namespace Go.Pv
open Go

def tx (t : Tk) : Str := t.2.1
def tks (k : List Kt) : List Str := k.map (·.2)
theorem tks_app (a b : List Kt) : tks (a ++ b) = tks a ++ tks b := List.map_append
theorem tks_cons (x : Kt) (a : List Kt) : tks (x :: a) = x.2 :: tks a := rfl
@[simp] theorem tks_nil : tks [] = [] := rfl
def Took (c c' : Cur) (k : List Str) : Prop := c'.err = none → c.err = none ∧ c.l.map tx = k ++ c'.l.map tx
def Sh (n : Nat) (c : Cur) : Prop := c.err = none → c.l.length < n

theorem Took.refl (c : Cur) : Took c c [] := fun h => ⟨h, rfl⟩
theorem Took.trans {a b c : Cur} {k l : List Str} (h : Took a b k) (h2 : Took b c l) : Took a c (k ++ l) := fun he => by
  obtain ⟨h3, h4⟩ := h2 he
  obtain ⟨h5, h6⟩ := h h3
  exact ⟨h5, by rw [h6, h4, List.append_assoc]⟩
theorem Took.cast {a b : Cur} {k l : List Str} (h : Took a b k) (he : k = l) : Took a b l := he ▸ h
theorem took_adv {c : Cur} {s : Str} (h : c.next s = true) : Took c c.adv [s] := fun he => by
  obtain ⟨h1, t, r, h2, -, h3⟩ := Cur.next_cons h
  refine ⟨h1, ?_⟩
  rw [show c.adv.l = r by simp [Cur.adv, h2], h2]
  simp [tx, h3]
theorem Cur.fail_err (c : Cur) : c.fail.err ≠ none := fun h => by
  have := c.err_fail
  rw [h] at this; cases this
theorem must_next {c : Cur} {s : Str} (h : (c.must s).err = none) : c.next s = true := by
  unfold Cur.must at h
  cases hn : c.next s with
  | true => rfl
  | false => rw [hn, if_neg Bool.false_ne_true] at h; exact absurd h c.fail_err
theorem took_must (c : Cur) (s : Str) : Took c (c.must s) [s] := fun he => by
  have hn := must_next he
  have := took_adv hn
  rw [Cur.must, if_pos hn] at he ⊢
  exact this he
theorem took_name (c : Cur) : Took c c.name [c.nm] := fun he => by
  obtain ⟨h1, h2⟩ := Cur.name_ok he
  obtain ⟨-, t, r, h3, -, -⟩ := Cur.named_cons h2
  refine ⟨h1, ?_⟩
  rw [Cur.name, if_pos h2, show c.adv.l = r by simp [Cur.adv, h3], Cur.nm, if_pos h2, Cur.first, h1, h3]
  simp [tx]
theorem Took.sh {n : Nat} {c c' : Cur} {k : List Str} (h : Took c c' k) (hs : Sh n c) : Sh n c' := fun he => by
  obtain ⟨h1, h2⟩ := h he
  have h3 := hs h1
  have h4 := congrArg List.length h2
  rw [List.length_append, List.length_map, List.length_map] at h4
  omega
theorem Took.sh1 {n : Nat} {c c' : Cur} {s : Str} {k : List Str} (h : Took c c' (s :: k)) (hs : Sh (n + 1) c) : Sh n c' := fun he => by
  obtain ⟨h1, h2⟩ := h he
  have h3 := hs h1
  have h4 := congrArg List.length h2
  rw [List.length_append, List.length_cons, List.length_map, List.length_map] at h4
  omega
theorem Sh.mono {n m : Nat} {c : Cur} (h : Sh n c) (hm : n ≤ m) : Sh m c := fun he => Nat.lt_of_lt_of_le (h he) hm

section
variable {α : Type} {rd : Cur → α × Cur} {tk : α → List Kt} {n : Nat}
theorem loop_tk (h : ∀ c, Sh n c → Took c (rd c).2 (tks (tk (rd c).1))) : ∀ (m : Nat) (c : Cur), Sh n c → Took c (loopC rd m c).2 (tks (tailK ((loopC rd m c).1.map tk)))
  | 0, c, _ => Took.refl c
  | m + 1, c, hs => by
    rw [loopC]
    cases hn : c.next [44] with
    | false => exact Took.refl c
    | true =>
      have t1 := took_adv hn
      have t2 := h c.adv (t1.sh hs)
      have t3 := loop_tk h m (rd c.adv).2 (t2.sh (t1.sh hs))
      exact ((t1.trans t2).trans t3).cast (by simp [tailK, tks_app, tks_cons, sgn])
theorem list_tk (h : ∀ c, Sh n c → Took c (rd c).2 (tks (tk (rd c).1))) (c : Cur) (hs : Sh n c) : Took c (listC rd c).2 (tks (commaK ((listC rd c).1.map tk))) := by
  have t1 := h c hs
  have t2 := loop_tk h (rd c).2.l.length (rd c).2 (t1.sh hs)
  exact (t1.trans t2).cast (by simp [listC, commaK, tks_app])
end
theorem targs_tk {rd : Cur → Ty × Cur} {n : Nat} (h : ∀ c, Sh n c → Took c (rd c).2 (tks (toksT (rd c).1))) (c : Cur) (hs : Sh n c) : Took c (targsC rd c).2 (tks (brK ((targsC rd c).1.map toksT))) := by
  unfold targsC
  cases hn : c.next [91] with
  | false => exact Took.refl c
  | true =>
    have t1 := took_adv hn
    have t2 := list_tk h c.adv (t1.sh hs)
    have t3 := took_must (listC rd c.adv).2 [93]
    exact ((t1.trans t2).trans t3).cast (by simp [listC, brK, tks_app, tks_cons, sgn])
theorem type_tk : ∀ (n : Nat) (c : Cur), Sh n c → Took c (typeC n c).2 (tks (toksT (typeC n c).1))
  | 0, c, hs => fun he => absurd (hs he) (Nat.not_lt_zero _)
  | n + 1, c, hs => by
    have t1 := took_name c
    have t2 := targs_tk (type_tk n) c.name (t1.sh1 hs)
    refine (t1.trans t2).cast ?_
    rw [typeC, toksT_mk, tks_cons]; rfl
theorem args_tk {rd : Cur → Exp × Cur} {n : Nat} (h : ∀ c, Sh n c → Took c (rd c).2 (tks (toksE (rd c).1))) (e : Str) (c : Cur) (hs : Sh n c) : Took c (argsC rd e c).2 (tks (commaK ((argsC rd e c).1.map toksE)) ++ [e]) := by
  unfold argsC
  cases hn : c.next e with
  | true => exact took_must c e
  | false => exact (list_tk h c hs).trans (took_must _ e)
theorem sh_adv {n : Nat} {c : Cur} {s : Str} (h : c.next s = true) (hs : Sh n c) : Sh n c.adv := (took_adv h).sh hs
theorem rest_tk {q : Nat} (hx : ∀ c, Sh q c → Took c (exprC q c).2 (tks (toksE (exprC q c).1))) (e : Exp) (c : Cur) (hs : Sh q c) : ∃ k, Took c (restC (typeC q) (exprC q) e c).2 k ∧ tks (toksE (restC (typeC q) (exprC q) e c).1) = tks (toksE e) ++ [46] :: k := by
  unfold restC
  cases h40 : c.next [40] with
  | true =>
    have t1 := took_adv h40
    have t2 := type_tk q c.adv (t1.sh hs)
    have t3 := took_must (typeC q c.adv).2 [41]
    refine ⟨_, (t1.trans t2).trans t3, ?_⟩
    rw [if_pos rfl, toksE_5]
    simp [tks_app, tks_cons, sgn]
  | false =>
    have t1 := took_name c
    cases hq : (!c.name.next [91] && !c.name.next [40]) with
    | true =>
      refine ⟨_, t1, ?_⟩
      simp only [Bool.false_eq_true, if_false, if_true]
      rw [toksE_4]
      simp [tks_app, tks_cons, sgn]
    | false =>
      have t2 := targs_tk (type_tk q) c.name (t1.sh hs)
      have t3 := took_must (targsC (typeC q) c.name).2 [40]
      have t4 := args_tk hx [41] _ (t3.sh (t2.sh (t1.sh hs)))
      refine ⟨_, ((t1.trans t2).trans t3).trans t4, ?_⟩
      simp only [Bool.false_eq_true, if_false]
      rw [toksE_2]
      simp [tks_app, tks_cons, sgn]
theorem dots_tk {q : Nat} (hx : ∀ c, Sh q c → Took c (exprC q c).2 (tks (toksE (exprC q c).1))) : ∀ (m : Nat) (e : Exp) (c : Cur), Sh q c → ∃ k, Took c (dotsC (restC (typeC q) (exprC q)) m e c).2 k ∧ tks (toksE (dotsC (restC (typeC q) (exprC q)) m e c).1) = tks (toksE e) ++ k
  | 0, e, c, _ => ⟨[], Took.refl c, by simp [dotsC]⟩
  | m + 1, e, c, hs => by
    rw [dotsC]
    cases h46 : c.next [46] with
    | false => exact ⟨[], Took.refl c, by simp⟩
    | true =>
      have t1 := took_adv h46
      obtain ⟨k, t2, e2⟩ := rest_tk hx e c.adv (t1.sh hs)
      obtain ⟨l, t3, e3⟩ := dots_tk hx m (restC (typeC q) (exprC q) e c.adv).1 (restC (typeC q) (exprC q) e c.adv).2 (t2.sh (t1.sh hs))
      refine ⟨_, (t1.trans t2).trans t3, ?_⟩
      rw [if_pos rfl, e3, e2]
      simp
theorem base_tk {q : Nat} (hx : ∀ c, Sh q c → Took c (exprC q c).2 (tks (toksE (exprC q c).1))) (c : Cur) (hs : Sh (q + 1) c) : ∃ k, Took c (baseC (typeC q) (exprC q) c).2 (c.nm :: k) ∧ tks (toksE (baseC (typeC q) (exprC q) c).1) = c.nm :: k := by
  unfold baseC
  have t1 := took_name c
  cases hq : (c.name.next [91] || c.name.next [123]) with
  | true =>
    have s1 := t1.sh1 hs
    have t2 := targs_tk (type_tk q) c.name s1
    have t3 := took_must (targsC (typeC q) c.name).2 [123]
    have t4 := args_tk hx [125] _ (t3.sh (t2.sh s1))
    refine ⟨tks (brK ((targsC (typeC q) c.name).1.map toksT)) ++ [[123]] ++ (tks (commaK ((argsC (exprC q) [125] ((targsC (typeC q) c.name).2.must [123])).1.map toksE)) ++ [[125]]), (((t1.trans t2).trans t3).trans t4).cast (by simp), ?_⟩
    simp only [if_true]
    rw [toksE_3, toksT_mk, List.cons_append, tks_cons]
    simp [tks_app, tks_cons, sgn]
  | false =>
    refine ⟨[], t1, ?_⟩
    simp only [Bool.false_eq_true, if_false]
    rw [toksE_1]; rfl
theorem expr_tk : ∀ (n : Nat) (c : Cur), Sh n c → Took c (exprC n c).2 (tks (toksE (exprC n c).1))
  | 0, c, hs => fun he => absurd (hs he) (Nat.not_lt_zero _)
  | q + 1, c, hs => by
    obtain ⟨k, t1, e1⟩ := base_tk (expr_tk q) c hs
    obtain ⟨l, t2, e2⟩ := dots_tk (expr_tk q) (baseC (typeC q) (exprC q) c).2.l.length (baseC (typeC q) (exprC q) c).1 _ (t1.sh1 hs)
    rw [exprC]
    refine (t1.trans t2).cast ?_
    rw [e2, e1]

section
variable {rT : Cur → Ty × Cur} {rE : Cur → Exp × Cur} {N : Nat} (hT : ∀ c, Sh N c → Took c (rT c).2 (tks (toksT (rT c).1)))
include hT
theorem item_tk (c : Cur) (hs : Sh N c) : Took c (itemC rT c).2 (tks (toksF (itemC rT c).1)) := by
  have t1 := took_name c
  exact (t1.trans (hT c.name (t1.sh hs))).cast rfl
theorem pairs_tk (e : Str) : ∀ (m : Nat) (c : Cur), Sh N c → Sh m c → Took c (pairsC rT e m c).2 (tks (commaK ((pairsC rT e m c).1.map toksF)) ++ [e]) ∧ ((pairsC rT e m c).2.err = none → (pairsC rT e m c).1 ≠ [])
  | 0, c, _, hm => ⟨fun he => absurd (hm he) (Nat.not_lt_zero _), fun he => absurd (hm he) (Nat.not_lt_zero _)⟩
  | m + 1, c, hs, hm => by
    have t1 := item_tk hT c hs
    rw [pairsC]
    cases h44 : (itemC rT c).2.next [44] with
    | true =>
      have t2 := took_adv h44
      have t12 := t1.trans t2
      obtain ⟨t3, n3⟩ := pairs_tk e m (itemC rT c).2.adv (t12.sh hs) (Took.sh1 (s := (itemC rT c).1.name) (k := tks (toksT (itemC rT c).1.ty) ++ [[44]]) (t12.cast rfl) hm)
      simp only [if_true]
      refine ⟨fun he => ?_, fun _ => by simp⟩
      have hne := n3 he
      refine (t12.trans t3).cast ?_ he
      cases hl : (pairsC rT e m (itemC rT c).2.adv).1 with
      | nil => exact absurd hl hne
      | cons x r => simp [commaK, tailK, tks_app, tks_cons, sgn]
    | false =>
      simp only [Bool.false_eq_true, if_false]
      exact ⟨(t1.trans (took_must _ e)).cast (by simp [commaK, tailK, tks_app]), fun _ => by simp⟩
theorem formals_tk (c : Cur) (hs : Sh N c) : Took c (formalsC rT c).2 (tks (brK ((formalsC rT c).1.map toksF))) := by
  unfold formalsC
  cases h : c.next [91] with
  | false => exact Took.refl c
  | true =>
    simp only [if_true]
    have t1 := took_adv h
    obtain ⟨t2, n2⟩ := pairs_tk hT [93] (c.adv.l.length + 1) c.adv (t1.sh hs) (fun _ => Nat.lt_succ_self _)
    intro he
    refine (t1.trans t2).cast ?_ he
    have hne : (pairsF rT [93] c.adv).1 ≠ [] := n2 he
    unfold pairsF at hne ⊢
    cases hl : (pairsC rT [93] (c.adv.l.length + 1) c.adv).1 with
    | nil => exact absurd hl hne
    | cons x r => simp [brK, tks_app, tks_cons, sgn]
theorem par_tk (c : Cur) (hs : Sh N c) : Took c (parC rT c).2 ([40] :: (tks (commaK ((parC rT c).1.map toksF)) ++ [[41]])) := by
  have t0 := took_must c [40]
  unfold parC
  cases h : (c.must [40]).next [41] with
  | true => exact (t0.trans (took_adv h)).cast rfl
  | false =>
    obtain ⟨t2, -⟩ := pairs_tk hT [41] ((c.must [40]).l.length + 1) (c.must [40]) (t0.sh hs) (fun _ => Nat.lt_succ_self _)
    exact (t0.trans t2).cast rfl
theorem sig_tk (c : Cur) (hs : Sh N c) : Took c (sigC rT c).2 (tks (toksG (sigC rT c).1)) := by
  have t1 := took_name c
  have t2 := formals_tk hT c.name (t1.sh hs)
  have t3 := par_tk hT _ (t2.sh (t1.sh hs))
  have t4 := hT _ (t3.sh (t2.sh (t1.sh hs)))
  refine (((t1.trans t2).trans t3).trans t4).cast ?_
  simp [sigC, toksG, tks_app, tks_cons, sgn]
omit hT in
theorem until_tk {α : Type} {rd : Cur → α × Cur} {tk : α → List Kt} (h : ∀ c, Sh N c → Took c (rd c).2 (tks (tk (rd c).1))) : ∀ (m : Nat) (c : Cur), Sh N c → Sh m c → Took c (untilC rd m c).2 (tks (semK tk (untilC rd m c).1) ++ [[125]])
  | 0, c, _, hm => fun he => absurd (hm he) (Nat.not_lt_zero _)
  | m + 1, c, hs, hm => by
    rw [untilC]
    cases h1 : c.next [125] with
    | true => exact (took_adv h1).cast (by simp [semK])
    | false =>
      simp only [Bool.false_eq_true, if_false]
      cases h2 : c.err.isSome with
      | true => intro he; rw [if_pos rfl] at he; rw [show c.err = none from he] at h2; cases h2
      | false =>
        simp only [Bool.false_eq_true, if_false]
        have t1 := h c hs
        have t2 := took_must (rd c).2 [59]
        have t12 := t1.trans t2
        have hsh : Sh m ((rd c).2.must [59]) := fun he => by
          obtain ⟨q1, q2⟩ := t12 he
          have q3 := hm q1
          have q4 := congrArg List.length q2
          simp only [List.length_append, List.length_map, List.length_cons, List.length_nil] at q4
          omega
        have t3 := until_tk h m _ (t12.sh hs) hsh
        exact (t12.trans t3).cast (by simp [semK, tks_app, tks_cons, sgn])
theorem typed_tk (c : Cur) (hs : Sh N c) : ∃ k, tks (toksD (typedC rT c).1) = wType :: k ∧ Took c (typedC rT c).2 k := by
  have t1 := took_name c
  have t2 := formals_tk hT c.name (t1.sh hs)
  have t12 := t1.trans t2
  have s2 := t12.sh hs
  unfold typedC
  cases h : (formalsC rT c.name).2.next wInterface with
  | true =>
    have t3 := (took_adv h).trans (took_must _ [123])
    have t4 := until_tk (sig_tk hT) _ ((formalsC rT c.name).2.adv.must [123]) (t3.sh s2) (fun _ => Nat.lt_succ_self _)
    refine ⟨_, ?_, ((t12.trans t3).trans t4).trans (took_must _ [59])⟩
    simp only [if_true]
    rw [toksD, if_neg (by simp), if_pos (by simp), tks_cons]
    simp [tks_app, tks_cons, sgn, untilF]
  | false =>
    have t3 := (took_must (formalsC rT c.name).2 wStruct).trans (took_must _ [123])
    have t4 := until_tk (item_tk hT) _ (((formalsC rT c.name).2.must wStruct).must [123]) (t3.sh s2) (fun _ => Nat.lt_succ_self _)
    refine ⟨_, ?_, ((t12.trans t3).trans t4).trans (took_must _ [59])⟩
    simp only [Bool.false_eq_true, if_false]
    rw [toksD, if_neg (by simp), if_neg (by simp), tks_cons]
    simp [tks_app, tks_cons, sgn, untilF, allC_cons]; rfl
omit hT in
theorem vars_tk : ∀ (m : Nat) (c : Cur), Sh m c → Took c (varsC m c).2 (tks (commaK ((varsC m c).1.map varK))) ∧ ((varsC m c).2.err = none → (varsC m c).1 ≠ [])
  | 0, c, hm => ⟨fun he => absurd (hm he) (Nat.not_lt_zero _), fun he => absurd (hm he) (Nat.not_lt_zero _)⟩
  | m + 1, c, hm => by
    have t1 := took_name c
    rw [varsC]
    cases h44 : c.name.next [44] with
    | true =>
      have t12 := t1.trans (took_adv h44)
      obtain ⟨t3, n3⟩ := vars_tk m c.name.adv (Took.sh1 (s := c.nm) (k := [[44]]) t12 hm)
      simp only [if_true]
      refine ⟨fun he => ?_, fun _ => by simp⟩
      have hne := n3 he
      refine (t12.trans t3).cast ?_ he
      cases hl : (varsC m c.name.adv).1 with
      | nil => exact absurd hl hne
      | cons x r => simp [commaK, tailK, tks_app, tks_cons, sgn, varK]
    | false =>
      simp only [Bool.false_eq_true, if_false]
      exact ⟨t1.cast (by simp [commaK, tailK, varK, tks_cons]), fun _ => by simp⟩
omit hT in
theorem recv_tk (c : Cur) : Took c (recvC c).2 (tks (brK ((recvC c).1.map varK))) := by
  unfold recvC
  cases h : c.next [91] with
  | false => exact Took.refl c
  | true =>
    simp only [if_true]
    have t1 := took_adv h
    obtain ⟨t2, n2⟩ := vars_tk (c.l.length + 1) c.adv (fun _ => by have := c.adv_suf.length_le; omega)
    intro he
    refine ((t1.trans t2).trans (took_must _ [93])).cast ?_ he
    have hne := n2 (Cur.must_ok he)
    cases hl : (varsC (c.l.length + 1) c.adv).1 with
    | nil => exact absurd hl hne
    | cons x r => simp [brK, tks_app, tks_cons, sgn]
variable (hE : ∀ c, Sh N c → Took c (rE c).2 (tks (toksE (rE c).1)))
include hE
theorem method_tk (c : Cur) (hs : Sh N c) : ∃ k, tks (toksD (methodC rT rE c).1) = wFunc :: k ∧ Took c (methodC rT rE c).2 k := by
  have t1 := ((took_must c [40]).trans (took_name _)).trans (took_name _)
  have t2 := t1.trans (recv_tk (c.must [40]).name.name)
  have t3 := t2.trans (took_must _ [41])
  have t4 := t3.trans (sig_tk hT _ (t3.sh hs))
  have t5 := (t4.trans (took_must _ [123])).trans (took_must _ wReturn)
  have t6 := t5.trans (hE _ (t5.sh hs))
  refine ⟨_, ?_, (t6.trans (took_must _ [125])).trans (took_must _ [59])⟩
  simp only [methodC]
  rw [toksD, if_pos (by simp), tks_cons]
  simp [tks_app, tks_cons, sgn, allC_cons]; rfl
theorem decls_tk : ∀ (m : Nat) (c : Cur), Sh N c → Sh m c → Took c (declsC rT rE m c).2 (tks ((declsC rT rE m c).1.flatMap toksD) ++ [wFunc])
  | 0, c, _, hm => fun he => absurd (hm he) (Nat.not_lt_zero _)
  | m + 1, c, hs, hm => by
    rw [declsC]
    cases h1 : c.next wType with
    | true =>
      simp only [if_true]
      have t1 := took_adv h1
      obtain ⟨k, e2, t2⟩ := typed_tk hT c.adv (t1.sh hs)
      have t12 := t1.trans t2
      have t3 := decls_tk m _ (t12.sh hs) (Took.sh1 (s := wType) (k := k) (t12.cast rfl) hm)
      exact (t12.trans t3).cast (by simp [tks_app, e2])
    | false =>
      simp only [Bool.false_eq_true, if_false]
      cases h2 : c.next wFunc with
      | false => intro he; exact absurd he c.fail_err
      | true =>
        simp only [if_true]
        have t1 := took_adv h2
        cases h3 : c.adv.next wMain with
        | true => exact t1.cast rfl
        | false =>
          simp only [Bool.false_eq_true, if_false]
          obtain ⟨k, e2, t2⟩ := method_tk hT hE c.adv (t1.sh hs)
          have t12 := t1.trans t2
          have t3 := decls_tk m _ (t12.sh hs) (Took.sh1 (s := wFunc) (k := k) (t12.cast rfl) hm)
          exact (t12.trans t3).cast (by simp [tks_app, e2])
theorem program_tk (c : Cur) (hs : Sh N c) : Took c (programC rT rE c).2 (tks (toksP (programC rT rE c).1)) := by
  have t1 := ((took_must c wPackage).trans (took_must _ wMain)).trans (took_must _ [59])
  have t2 := t1.trans (decls_tk hT hE _ _ (t1.sh hs) (fun _ => Nat.lt_succ_self _))
  have t3 := ((((((t2.trans (took_must _ wMain)).trans (took_must _ [40])).trans (took_must _ [41])).trans (took_must _ [123])).trans (took_must _ [95])).trans (took_must _ [61]))
  have t4 := (t3.trans (hE _ (t3.sh hs))).trans (took_must _ [125])
  refine t4.cast ?_
  simp [programC, toksP, headK, mainK, tks_app, tks_cons, sgn, allC_cons]
  rfl
end

section
variable {rT : Cur → Ty × Cur} {rE : Cur → Exp × Cur} {N : Nat} (hT : ∀ c, Sh N c → Took c (rT c).2 (tks (toksT (rT c).1))) (hTr : ∀ c, Sh N c → (rT c).2.err = none → rightT (rT c).1 = true)
include hT hTr
theorem item_ok (c : Cur) (hs : Sh N c) (he : (itemC rT c).2.err = none) : rightF (itemC rT c).1 = true := by
  have t1 := took_name c
  have h1 := hTr c.name (t1.sh hs) he
  have h2 := (hT c.name (t1.sh hs) he).1
  have h3 := Cur.nm_ok (Cur.name_ok h2).2
  simp only [rightF, itemC, h1, h3, Bool.and_self]
theorem pairs_ok (e : Str) : ∀ (m : Nat) (c : Cur), Sh N c → Sh m c → (pairsC rT e m c).2.err = none → ∀ f ∈ (pairsC rT e m c).1, rightF f = true
  | 0, c, _, hm, he => absurd (hm he) (Nat.not_lt_zero _)
  | m + 1, c, hs, hm, he => by
    have t1 := item_tk hT c hs
    rw [pairsC] at he ⊢
    cases h44 : (itemC rT c).2.next [44] with
    | true =>
      rw [h44] at he
      simp only [if_true] at he ⊢
      have t12 := t1.trans (took_adv h44)
      have hm2 := Took.sh1 (s := (itemC rT c).1.name) (k := tks (toksT (itemC rT c).1.ty) ++ [[44]]) (t12.cast rfl) hm
      have h3 := pairs_ok e m _ (t12.sh hs) hm2 he
      intro f hf
      rcases List.mem_cons.1 hf with rfl | hf
      · exact item_ok hT hTr c hs (Cur.next_cons h44).1
      · exact h3 f hf
    | false =>
      rw [h44] at he
      simp only [Bool.false_eq_true, if_false] at he ⊢
      intro f hf
      rw [List.mem_singleton] at hf
      subst hf
      exact item_ok hT hTr c hs (Cur.must_ok he)
theorem formals_ok (c : Cur) (hs : Sh N c) (he : (formalsC rT c).2.err = none) : (formalsC rT c).1.all rightF = true := by
  unfold formalsC at he ⊢
  cases h : c.next [91] with
  | false => rfl
  | true =>
    rw [h] at he
    simp only [if_true] at he ⊢
    exact List.all_eq_true.2 (pairs_ok hT hTr [93] _ c.adv (sh_adv h hs) (fun _ => Nat.lt_succ_self _) he)
theorem par_ok (c : Cur) (hs : Sh N c) (he : (parC rT c).2.err = none) : (parC rT c).1.all rightF = true := by
  unfold parC at he ⊢
  cases h : (c.must [40]).next [41] with
  | true => rfl
  | false =>
    rw [h] at he
    simp only [Bool.false_eq_true, if_false] at he ⊢
    exact List.all_eq_true.2 (pairs_ok hT hTr [41] _ _ ((took_must c [40]).sh hs) (fun _ => Nat.lt_succ_self _) he)
theorem sig_ok (c : Cur) (hs : Sh N c) (he : (sigC rT c).2.err = none) : rightG (sigC rT c).1 = true := by
  have t1 := took_name c
  have t2 := formals_tk hT c.name (t1.sh hs)
  have t3 := par_tk hT _ (t2.sh (t1.sh hs))
  have s3 := t3.sh (t2.sh (t1.sh hs))
  have h4 := hTr _ s3 he
  have e3 := (hT _ s3 he).1
  have h3 := par_ok hT hTr _ (t2.sh (t1.sh hs)) e3
  have e2 := (t3 e3).1
  have h2 := formals_ok hT hTr _ (t1.sh hs) e2
  have h1 := Cur.nm_ok (Cur.name_ok (t2 e2).1).2
  simp only [rightG, sigC, h1, h2, h3, h4, Bool.and_self]
omit hT hTr in
theorem until_ok {α : Type} {rd : Cur → α × Cur} {tk : α → List Kt} {ok : α → Bool} (h : ∀ c, Sh N c → Took c (rd c).2 (tks (tk (rd c).1))) (hr : ∀ c, Sh N c → (rd c).2.err = none → ok (rd c).1 = true) : ∀ (m : Nat) (c : Cur), Sh N c → Sh m c → (untilC rd m c).2.err = none → (untilC rd m c).1.all ok = true
  | 0, c, _, hm, he => absurd (hm he) (Nat.not_lt_zero _)
  | m + 1, c, hs, hm, he => by
    rw [untilC] at he ⊢
    cases h1 : c.next [125] with
    | true => rfl
    | false =>
      rw [h1] at he
      simp only [Bool.false_eq_true, if_false] at he ⊢
      cases h2 : c.err.isSome with
      | true => rfl
      | false =>
        rw [h2] at he
        simp only [Bool.false_eq_true, if_false] at he ⊢
        have t12 := (h c hs).trans (took_must (rd c).2 [59])
        have hsh : Sh m ((rd c).2.must [59]) := fun he => by
          obtain ⟨q1, q2⟩ := t12 he
          have q3 := hm q1
          have q4 := congrArg List.length q2
          simp only [List.length_append, List.length_map, List.length_cons, List.length_nil] at q4
          omega
        have h3 := until_ok h hr m _ (t12.sh hs) hsh he
        have e3 := (until_tk h m _ (t12.sh hs) hsh he).1
        rw [List.all_cons, h3, hr c hs (Cur.must_ok e3)]; rfl
theorem typed_ok (c : Cur) (hs : Sh N c) (he : (typedC rT c).2.err = none) : rightD (typedC rT c).1 = true := by
  have t1 := took_name c
  have t2 := formals_tk hT c.name (t1.sh hs)
  have t12 := t1.trans t2
  have s2 := t12.sh hs
  rw [rightD_eq]
  unfold typedC at he ⊢
  cases h : (formalsC rT c.name).2.next wInterface with
  | true =>
    rw [h] at he
    simp only [if_true] at he ⊢
    have t3 := (took_adv h).trans (took_must _ [123])
    have he2 := Cur.must_ok he
    have h3 := until_ok (sig_tk hT) (sig_ok hT hTr) _ ((formalsC rT c.name).2.adv.must [123]) (t3.sh s2) (fun _ => Nat.lt_succ_self _) he2
    have e3 := (Cur.next_cons h).1
    have h2 := formals_ok hT hTr _ (t1.sh hs) e3
    have h1 := Cur.nm_ok (Cur.name_ok (t2 e3).1).2
    have hq : eqG false sg0 sg0 = true := by decide
    have hq2 : sameE ex0 ex0 = true := sameE_refl _
    unfold untilF
    simp [rightDR, h1, h2, h3, hq, hq2]
  | false =>
    rw [h] at he
    simp only [Bool.false_eq_true, if_false] at he ⊢
    have t3 := (took_must (formalsC rT c.name).2 wStruct).trans (took_must _ [123])
    have he2 := Cur.must_ok he
    have h3 := until_ok (item_tk hT) (item_ok hT hTr) _ (((formalsC rT c.name).2.must wStruct).must [123]) (t3.sh s2) (fun _ => Nat.lt_succ_self _) he2
    have e4 := (until_tk (item_tk hT) _ (((formalsC rT c.name).2.must wStruct).must [123]) (t3.sh s2) (fun _ => Nat.lt_succ_self _) he2).1
    have e3 := (t3 e4).1
    have h2 := formals_ok hT hTr _ (t1.sh hs) e3
    have h1 := Cur.nm_ok (Cur.name_ok (t2 e3).1).2
    have hq : eqG false sg0 sg0 = true := by decide
    have hq2 : sameE ex0 ex0 = true := sameE_refl _
    unfold untilF
    rw [allC_cons, allC_cons]
    show rightDR ⟨1, _, _, (untilC (itemC rT) _ _).1, _, _, _, _, _, _⟩ = true
    simp only [rightDR, h1, h2, hq, hq2]
    rw [show (untilC (itemC rT) ((allC [] (((formalsC rT c.name).2.must wStruct).must [123])).l.length + 1) (allC [] (((formalsC rT c.name).2.must wStruct).must [123]))).1.all rightF = true from h3]
    simp
omit hT hTr in
theorem vars_ok : ∀ (m : Nat) (c : Cur), Sh m c → (varsC m c).2.err = none → (varsC m c).1.all isName = true
  | 0, c, hm, he => absurd (hm he) (Nat.not_lt_zero _)
  | m + 1, c, hm, he => by
    have t1 := took_name c
    rw [varsC] at he ⊢
    cases h44 : c.name.next [44] with
    | true =>
      rw [h44] at he
      simp only [if_true] at he ⊢
      have t12 := t1.trans (took_adv h44)
      have h3 := vars_ok m c.name.adv (Took.sh1 (s := c.nm) (k := [[44]]) t12 hm) he
      rw [List.all_cons, h3, Cur.nm_ok (Cur.name_ok (Cur.next_cons h44).1).2]; rfl
    | false =>
      rw [h44] at he
      simp only [Bool.false_eq_true, if_false] at he ⊢
      simp [Cur.nm_ok (Cur.name_ok he).2]
omit hT hTr in
theorem recv_ok (c : Cur) (he : (recvC c).2.err = none) : (recvC c).1.all isName = true := by
  unfold recvC at he ⊢
  cases h : c.next [91] with
  | false => rfl
  | true =>
    rw [h] at he
    simp only [if_true] at he ⊢
    exact vars_ok _ c.adv (fun _ => by have := c.adv_suf.length_le; omega) (Cur.must_ok he)
variable (hE : ∀ c, Sh N c → Took c (rE c).2 (tks (toksE (rE c).1))) (hEr : ∀ c, Sh N c → (rE c).2.err = none → rightE (rE c).1 = true)
include hE hEr
theorem method_ok (c : Cur) (hs : Sh N c) (he : (methodC rT rE c).2.err = none) : rightD (methodC rT rE c).1 = true := by
  have t0 := took_must c [40]
  have t1 := (t0.trans (took_name _)).trans (took_name _)
  have t2 := t1.trans (recv_tk (c.must [40]).name.name)
  have t3 := t2.trans (took_must _ [41])
  have t4 := sig_tk hT _ (t3.sh hs)
  have t5 := ((t3.trans t4).trans (took_must _ [123])).trans (took_must _ wReturn)
  have e6 : (rE (((sigC rT ((recvC (c.must [40]).name.name).2.must [41])).2.must [123]).must wReturn)).2.err = none := Cur.must_ok (Cur.must_ok he)
  have h6 := hEr _ (t5.sh hs) e6
  have e5 := (hE _ (t5.sh hs) e6).1
  have e4 := Cur.must_ok (Cur.must_ok e5)
  have h4 := sig_ok hT hTr _ (t3.sh hs) e4
  have e3 := Cur.must_ok (t4 e4).1
  have h3 := recv_ok _ e3
  have e2 := (recv_tk _ e3).1
  have h2 := Cur.name_ok e2
  have h1 := Cur.name_ok h2.1
  rw [rightD_eq]
  simp only [methodC, rightDR]
  rw [Cur.nm_ok h2.2, Cur.nm_ok h1.2, h3, h4]
  rw [show rightE (rE (allC [[123], wReturn] (sigC rT ((recvC (c.must [40]).name.name).2.must [41])).2)).1 = true from h6]
  simp
theorem decls_ok : ∀ (m : Nat) (c : Cur), Sh N c → Sh m c → (declsC rT rE m c).2.err = none → (declsC rT rE m c).1.all rightD = true
  | 0, c, _, hm, he => absurd (hm he) (Nat.not_lt_zero _)
  | m + 1, c, hs, hm, he => by
    rw [declsC] at he ⊢
    cases h1 : c.next wType with
    | true =>
      rw [h1] at he
      simp only [if_true] at he ⊢
      have t1 := took_adv h1
      obtain ⟨k, e2, t2⟩ := typed_tk hT c.adv (t1.sh hs)
      have t12 := t1.trans t2
      have sm := Took.sh1 (s := wType) (k := k) (t12.cast rfl) hm
      have h3 := decls_ok m _ (t12.sh hs) sm he
      have e3 := (decls_tk hT hE m _ (t12.sh hs) sm he).1
      rw [List.all_cons, h3, typed_ok hT hTr c.adv (t1.sh hs) e3]; rfl
    | false =>
      rw [h1] at he
      simp only [Bool.false_eq_true, if_false] at he ⊢
      cases h2 : c.next wFunc with
      | false => rfl
      | true =>
        rw [h2] at he
        simp only [if_true] at he ⊢
        have t1 := took_adv h2
        cases h3 : c.adv.next wMain with
        | true => rfl
        | false =>
          rw [h3] at he
          simp only [Bool.false_eq_true, if_false] at he ⊢
          obtain ⟨k, e2, t2⟩ := method_tk hT hE c.adv (t1.sh hs)
          have t12 := t1.trans t2
          have sm := Took.sh1 (s := wFunc) (k := k) (t12.cast rfl) hm
          have h4 := decls_ok m _ (t12.sh hs) sm he
          have e3 := (decls_tk hT hE m _ (t12.sh hs) sm he).1
          rw [List.all_cons, h4, method_ok hT hTr hE hEr c.adv (t1.sh hs) e3]; rfl
theorem program_ok (c : Cur) (hs : Sh N c) (he : (programC rT rE c).2.err = none) : rightPg (programC rT rE c).1 = true := by
  have t1 := ((took_must c wPackage).trans (took_must _ wMain)).trans (took_must _ [59])
  have t2 := t1.trans (decls_tk hT hE _ _ (t1.sh hs) (fun _ => Nat.lt_succ_self _))
  have t3 := ((((((t2.trans (took_must _ wMain)).trans (took_must _ [40])).trans (took_must _ [41])).trans (took_must _ [123])).trans (took_must _ [95])).trans (took_must _ [61]))
  have e4 := Cur.must_ok he
  have h4 := hEr _ (t3.sh hs) e4
  have e3 := (hE _ (t3.sh hs) e4).1
  have e2 := Cur.must_ok (Cur.must_ok (Cur.must_ok (Cur.must_ok (Cur.must_ok (Cur.must_ok e3)))))
  have h2 := decls_ok hT hTr hE hEr _ _ (t1.sh hs) (fun _ => Nat.lt_succ_self _) e2
  simp only [rightPg, programC, Bool.and_eq_true]
  exact ⟨h2, h4⟩
end
theorem type_okS (n : Nat) (c : Cur) (hs : Sh n c) (he : (typeC n c).2.err = none) : rightT (typeC n c).1 = true :=
  typeC_ok n c (hs (type_tk n c hs he).1) he
theorem expr_okS (n : Nat) (c : Cur) (hs : Sh n c) (he : (exprC n c).2.err = none) : rightE (exprC n c).1 = true :=
  exprC_ok n c (hs (expr_tk n c hs he).1) he

theorem TkL_suf {a b : List Kt} (h : TkL a) (hs : b <:+ a) {x : Str} {r : List Kt} (hb : b = (3, x) :: r) : b = [(3, [])] := by
  induction h with
  | nil =>
    rcases List.suffix_cons_iff.1 hs with h | h
    · exact h
    · rw [List.suffix_nil] at h; rw [h] at hb; cases hb
  | word w l hw hl ih =>
    rcases List.suffix_cons_iff.1 hs with h | h
    · rw [h] at hb; simp at hb
    · exact ih h
  | sign c l hc hl ih =>
    rcases List.suffix_cons_iff.1 hs with h | h
    · rw [h] at hb; simp at hb
    · exact ih h
theorem TkL_tks {a b : List Kt} (h : TkL a) (h2 : TkL b) (he : tks a = tks b) : a = b := by
  induction h generalizing b with
  | nil =>
    cases h2 with
    | nil => rfl
    | word w l hw hl => obtain ⟨c, r, rfl, -⟩ := hw; simp [tks] at he
    | sign c l hc hl => simp [tks] at he
  | word w l hw hl ih =>
    obtain ⟨c, r, rfl, hc, -⟩ := hw
    cases h2 with
    | nil => simp [tks] at he
    | word w' l' hw' hl' =>
      simp only [tks, List.map_cons, List.cons.injEq] at he
      rw [ih hl' he.2, he.1]
    | sign c' l' hc' hl' =>
      simp only [tks, List.map_cons, List.cons.injEq] at he
      obtain ⟨⟨rfl, -⟩, -⟩ := he
      exact absurd hc (sign_facts c hc').2.2
  | sign c l hc hl ih =>
    cases h2 with
    | nil => simp [tks] at he
    | word w' l' hw' hl' =>
      obtain ⟨c', r', rfl, hc', -⟩ := hw'
      simp only [tks, List.map_cons, List.cons.injEq] at he
      obtain ⟨⟨rfl, -⟩, -⟩ := he
      exact absurd hc' (sign_facts c hc).2.2
    | sign c' l' hc' hl' =>
      simp only [tks, List.map_cons, List.cons.injEq] at he
      rw [ih hl' he.2, he.1.1]
theorem end_tx {l : List Tk} (h : TkL (l.map ktOf)) {c : Cur} (hs : c.l <:+ l) (hne : c.l ≠ []) (he : (endC c).err = none) : c.err = none ∧ c.l.map tx = [[]] := by
  unfold endC at he
  cases hk : (c.first.1 != 3) with
  | true => rw [hk, if_pos rfl] at he; exact absurd he c.fail_err
  | false =>
    rw [hk, if_neg Bool.false_ne_true] at he
    refine ⟨he, ?_⟩
    have hk' : c.first.1 = 3 := by simpa using hk
    unfold Cur.first at hk'
    rw [he] at hk'
    have hs2 : c.l.map ktOf <:+ l.map ktOf := hs.map ktOf
    cases hl : c.l with
    | nil => exact absurd hl hne
    | cons t r =>
      rw [hl] at hk' hs2
      have h3 : t.1 = 3 := hk'
      have := TkL_suf h hs2 (x := t.2.1) (r := r.map ktOf) (by rw [List.map_cons]; congr 1; rw [← h3]; rfl)
      simp only [List.map_cons, List.cons.injEq, List.map_eq_nil_iff] at this
      obtain ⟨h4, rfl⟩ := this
      have h5 := congrArg Prod.snd h4
      simp only [List.map_cons, List.map_nil, List.cons.injEq, and_true]
      exact h5
theorem prog_fw {s : Str} {l : List Tk} {n : Nat} (h : lexT s = (some l, n)) (he : (endC (rdP l).2).err = none) : rightPg (rdP l).1 = true ∧ l.map ktOf = toksP (rdP l).1 ++ [(3, [])] := by
  have hT := (lexT_some (lexT_bounds h).1 h).2.1
  have hr := (prog_same (TkL_ends hT)).1
  have hne : (rdP l).2.l ≠ [] := by
    rw [hr.l]; intro h0
    have := congrArg List.length h0
    rw [List.length_drop, List.length_nil] at this
    have := hr.lt; omega
  have hsf : (rdP l).2.l <:+ l := programC_suf (typeC_suf _) (exprC_suf _) ⟨l, none⟩
  obtain ⟨h1, h2⟩ := end_tx hT hsf hne he
  have hs : Sh (l.length + 1) (⟨l, none⟩ : Cur) := fun _ => Nat.lt_succ_self _
  have h3 := program_ok (N := l.length + 1) (type_tk _) (type_okS _) (expr_tk _) (expr_okS _) ⟨l, none⟩ hs h1
  have h4 := (program_tk (N := l.length + 1) (type_tk _) (expr_tk _) ⟨l, none⟩ hs h1).2
  refine ⟨h3, TkL_tks hT (tkK_TkL _ _ _ (Nat.le_refl _) (prog_toks (p := (rdP l).1) h3)).1 ?_⟩
  have h5 : (rdP l).2.l.map tx = [[]] := h2
  have h6 : l.map tx = tks (toksP (rdP l).1) ++ (rdP l).2.l.map tx := h4
  have h7 : tks (l.map ktOf) = l.map tx := by rw [tks, List.map_map]; rfl
  rw [h7, h6, h5, tks_app]; rfl
end Go.Pv
end
