import Derived.Test.YtepbmjchhcmcoaaGreatDoorPvFd
import Derived.Test.YtepbmjchhcmcoaaGreatDoorPvMe
import Derived.Test.YtepbmjchhcmcoaaGreatDoorPvDc
set_option linter.all false
section
/- What is read from the tokens of a right program is that program. -/
namespace Go.Pv
open Go

section
variable {c : Cur} {r : List Kt}
theorem At.mustK {x : Kt} (h : At c (x :: r)) (hx : x.1 ≠ 3) : At (c.must x.2) r := by
  rw [Cur.must, h.next]
  rw [if_pos (by simp [nx, hx])]
  exact h.adv
theorem At.mustW {w : Str} (h : At c ((1, w) :: r)) : At (c.must w) r := h.mustK (x := (1, w)) (fun h => absurd (show (1 : Int) = 3 from h) (by decide))
end
theorem toksD_pos (d : Dc) : 0 < (toksD d).length := by
  unfold toksD
  split
  · simp
  · split <;> simp
theorem nx_word {w s : Str} (r : List Kt) (h : w ≠ s) : nx ((1, w) :: r) s = false := by simp [nx, h]
theorem nx_wordS (w : Str) (r : List Kt) : nx ((1, w) :: r) w = true := by simp [nx]
theorem nx_sign {c : UInt8} {s : Str} (r : List Kt) (h : [c] ≠ s) : nx (sgn c :: r) s = false := by simp [nx, sgn, h]
theorem nx_signS (c : UInt8) (r : List Kt) : nx (sgn c :: r) [c] = true := by simp [nx, sgn]

section
variable {rT : Cur → Ty × Cur} {rE : Cur → Exp × Cur} {N : Nat}
  (hT : ∀ t, rightT t = true → ∀ c r, At c (toksT t ++ r) → okK r → c.l.length < N → stT (rT c).1 = stT t ∧ At (rT c).2 r)
  (hE : ∀ e, rightE e = true → ∀ c r, At c (toksE e ++ r) → okE r → c.l.length < N → stE (rE c).1 = stE e ∧ At (rE c).2 r)
include hT
theorem item_bk {f : Fm} (hf : rightF f = true) {c : Cur} {r : List Kt} (h : At c (toksF f ++ r)) (hr : okK r) (hn : c.l.length < N) : stF (itemC rT c).1 = stF f ∧ At (itemC rT c).2 r := by
  simp only [rightF, Bool.and_eq_true] at hf
  have h' : At c ((1, f.name) :: (toksT f.ty ++ r)) := h
  obtain ⟨h1, h2⟩ := h'.named hf.1
  have hl := h'.len
  have hl2 := h2.len
  obtain ⟨h3, h4⟩ := hT f.ty hf.2 c.name r h2 hr (by simp at hl hl2; omega)
  exact ⟨by simp [stF, itemC, h1, h3], h4⟩
theorem pairs_bk (e : UInt8) (he : e ≠ 44 ∧ e ≠ 91) : ∀ (xs : List Fm) (x : Fm), (∀ y ∈ x :: xs, rightF y = true) → ∀ (m : Nat) (c : Cur) (r : List Kt), At c (commaK ((x :: xs).map toksF) ++ sgn e :: r) → c.l.length < m → c.l.length < N →
    (pairsC rT [e] m c).1.map stF = (x :: xs).map stF ∧ At (pairsC rT [e] m c).2 r
  | xs, x, hx, m, c, r, h, hm, hn => by
    cases m with
    | zero => omega
    | succ m =>
      cases xs with
      | nil =>
        have h' : At c (toksF x ++ sgn e :: r) := by simpa [commaK, tailK] using h
        obtain ⟨h1, h2⟩ := item_bk hT (hx x (by simp)) h' (by simp [okK, nx, sgn, he.2]) hn
        rw [pairsC, h2.next, if_neg (by simp [nx, sgn, he.1])]
        exact ⟨by simp [h1], h2.must⟩
      | cons y ys =>
        have h' : At c (toksF x ++ sgn 44 :: (commaK ((y :: ys).map toksF) ++ sgn e :: r)) := by simpa [commaK, tailK] using h
        obtain ⟨h1, h2⟩ := item_bk hT (hx x (by simp)) h' (okK_s (by decide) _) hn
        have ha := h2.adv
        have hl := h'.len
        have hl2 := ha.len
        obtain ⟨h3, h4⟩ := pairs_bk e he ys y (fun z hz => hx z (by simp [hz])) m (itemC rT c).2.adv r ha (by simp [toksF] at hl hl2; omega) (by simp [toksF] at hl hl2; omega)
        rw [pairsC, h2.next, if_pos (nx_signS _ _)]
        exact ⟨by simp [h1, h3], h4⟩
theorem fms_bk {l : List Fm} (hl : ∀ f ∈ l, rightF f = true) {c : Cur} {r : List Kt} (h : At c (brK (l.map toksF) ++ r)) (hr : okK r) (hn : c.l.length < N) : (formalsC rT c).1.map stF = l.map stF ∧ At (formalsC rT c).2 r := by
  cases l with
  | nil =>
    have h' : At c r := by simpa [brK] using h
    rw [formalsC, h'.next, hr]
    exact ⟨rfl, h'⟩
  | cons x xs =>
    have h' : At c (sgn 91 :: (commaK ((x :: xs).map toksF) ++ sgn 93 :: r)) := by simpa [brK] using h
    have ha := h'.adv
    have hl1 := h'.len
    have hl2 := ha.len
    rw [formalsC, h'.next, if_pos (nx_signS _ _)]
    exact pairs_bk hT 93 (by decide) xs x hl _ _ _ ha (Nat.lt_succ_self _) (by simp at hl1 hl2; omega)
theorem par_bk {l : List Fm} (hl : ∀ f ∈ l, rightF f = true) {c : Cur} {r : List Kt} (h : At c (sgn 40 :: (commaK (l.map toksF) ++ sgn 41 :: r))) (hn : c.l.length < N) : (parC rT c).1.map stF = l.map stF ∧ At (parC rT c).2 r := by
  have ha := h.must
  have hl1 := h.len
  have hl2 := ha.len
  cases l with
  | nil =>
    have h' : At (c.must [40]) (sgn 41 :: r) := by simpa [commaK] using ha
    rw [parC, h'.next, if_pos (nx_signS _ _)]
    exact ⟨rfl, h'.adv⟩
  | cons x xs =>
    have hx := hl x (by simp)
    simp only [rightF, Bool.and_eq_true] at hx
    have hnx : (c.must [40]).next [41] = false := by
      rw [ha.next]
      show nx ((1, x.name) :: _) [41] = false
      exact nx_word _ (name_not_sign hx.1 (by decide))
    rw [parC, hnx]
    exact pairs_bk hT 41 (by decide) xs x hl _ _ _ ha (Nat.lt_succ_self _) (by simp at hl1 hl2; omega)
theorem sig_bk {s : Sg} (hs : rightG s = true) {c : Cur} {r : List Kt} (h : At c (toksG s ++ r)) (hr : okK r) (hn : c.l.length < N) : stG (sigC rT c).1 = stG s ∧ At (sigC rT c).2 r := by
  obtain ⟨q1, q2, q3, q4⟩ := rightG_parts hs
  have h' : At c ((1, s.name) :: (brK (s.fms.map toksF) ++ sgn 40 :: (commaK (s.pms.map toksF) ++ sgn 41 :: (toksT s.res ++ r)))) := by simpa [toksG] using h
  obtain ⟨h1, h2⟩ := h'.named q1
  have e1 := h'.len
  have e2 := h2.len
  obtain ⟨h3, h4⟩ := fms_bk hT (List.all_eq_true.1 q2) h2 (okK_s (by decide) _) (by simp at e1 e2; omega)
  have e4 := h4.len
  obtain ⟨h5, h6⟩ := par_bk hT (List.all_eq_true.1 q3) h4 (by simp at e1 e4; omega)
  have e6 := h6.len
  obtain ⟨h7, h8⟩ := hT s.res q4 _ r h6 hr (by simp at e1 e6; omega)
  exact ⟨by simp [stG, sigC, h1, h3, h5, h7], h8⟩
omit hT in
theorem until_bk {α : Type} {rd : Cur → α × Cur} {st : α → α} {tk : α → List Kt} {N : Nat} : ∀ (l : List α) (_ : ∀ x ∈ l, ∀ c r, At c (tk x ++ r) → okK r → c.l.length < N → st (rd c).1 = st x ∧ At (rd c).2 r) (_ : ∀ x ∈ l, ∀ r, nx (tk x ++ r) [125] = false) (m : Nat) (c : Cur) (r : List Kt),
    At c (semK tk l ++ sgn 125 :: r) → c.l.length < m → c.l.length < N → (untilC rd m c).1.map st = l.map st ∧ At (untilC rd m c).2 r
  | [], _, _, m, c, r, h, hm, _ => by
    cases m with
    | zero => omega
    | succ m =>
      have h' : At c (sgn 125 :: r) := by simpa [semK] using h
      rw [untilC_end rd m (by rw [h'.next]; exact nx_signS _ _)]
      exact ⟨rfl, h'.adv⟩
  | x :: l, hx, hh, m, c, r, h, hm, hn => by
    cases m with
    | zero => omega
    | succ m =>
      have h' : At c (tk x ++ sgn 59 :: (semK tk l ++ sgn 125 :: r)) := by simpa [semK] using h
      obtain ⟨h1, h2⟩ := hx x (by simp) c _ h' (okK_s (by decide) _) hn
      have h3 := h2.must
      have e1 := h'.len
      have e3 := h3.len
      obtain ⟨h4, h5⟩ := until_bk l (fun y hy => hx y (by simp [hy])) (fun y hy => hh y (by simp [hy])) m _ r h3 (by simp at e1 e3; omega) (by simp at e1 e3; omega)
      rw [untilC_go rd m (by rw [h'.next]; exact hh x (by simp) _) (by rw [h'.1]; rfl)]
      exact ⟨by simp [h1, h4], h5⟩
omit hT in
theorem vars_bk : ∀ (xs : List Str) (x : Str), (∀ y ∈ x :: xs, isName y = true) → ∀ (m : Nat) (c : Cur) (r : List Kt), At c (commaK ((x :: xs).map varK) ++ sgn 93 :: r) → c.l.length < m → (varsC m c).1 = x :: xs ∧ At (varsC m c).2 (sgn 93 :: r)
  | xs, x, hx, m, c, r, h, hm => by
    cases m with
    | zero => omega
    | succ m =>
      cases xs with
      | nil =>
        have h' : At c ((1, x) :: sgn 93 :: r) := by simpa [commaK, tailK, varK] using h
        obtain ⟨h1, h2⟩ := h'.named (hx x (by simp))
        rw [varsC, h2.next, if_neg (by simp [nx, sgn])]
        exact ⟨by simp [h1], h2⟩
      | cons y ys =>
        have h' : At c ((1, x) :: sgn 44 :: (commaK ((y :: ys).map varK) ++ sgn 93 :: r)) := by simpa [commaK, tailK, varK] using h
        obtain ⟨h1, h2⟩ := h'.named (hx x (by simp))
        have ha := h2.adv
        have e1 := h'.len
        have e2 := ha.len
        obtain ⟨h3, h4⟩ := vars_bk ys y (fun z hz => hx z (by simp [hz])) m c.name.adv r ha (by simp at e1 e2; omega)
        rw [varsC, h2.next, if_pos (nx_signS _ _)]
        exact ⟨by simp [h1, h3], h4⟩
omit hT in
theorem recv_bk {l : List Str} (hl : ∀ v ∈ l, isName v = true) {c : Cur} {r : List Kt} (h : At c (brK (l.map varK) ++ sgn 41 :: r)) : (recvC c).1 = l ∧ At (recvC c).2 (sgn 41 :: r) := by
  cases l with
  | nil =>
    have h' : At c (sgn 41 :: r) := by simpa [brK] using h
    rw [recvC, h'.next, if_neg (by simp [nx, sgn])]
    exact ⟨rfl, h'⟩
  | cons x xs =>
    have h' : At c (sgn 91 :: (commaK ((x :: xs).map varK) ++ sgn 93 :: sgn 41 :: r)) := by simpa [brK] using h
    have ha := h'.adv
    have e1 := h'.len
    have e2 := ha.len
    obtain ⟨h1, h2⟩ := vars_bk xs x hl (c.l.length + 1) c.adv _ ha (by simp at e1 e2; omega)
    rw [recvC, h'.next, if_pos (nx_signS _ _)]
    exact ⟨h1, h2.must⟩
theorem typed_bk {d : Dc} (hd : rightD d = true) (hk : d.kind = 1 ∨ d.kind = 2) {c : Cur} {r : List Kt} (h : At c (toksD d ++ r)) (hn : c.l.length < N) : stD (typedC rT c.adv).1 = stD d ∧ At (typedC rT c.adv).2 r := by
  obtain ⟨q1, q2, q3, q4, q5, q6, q7, q8, q9⟩ := rightD_typed hd hk
  have hs0 : stG sg0 = sg0 := rfl
  have hb0 : stE ex0 = ex0 := rfl
  have hk3 : ¬ d.kind = 3 := by omega
  rcases hk with hk | hk
  · have h' : At c ((1, wType) :: (1, d.name) :: (brK (d.fms.map toksF) ++ (1, wStruct) :: sgn 123 :: (semK toksF d.flds ++ sgn 125 :: sgn 59 :: r))) := by
      rw [toksD, if_neg hk3, if_neg (by omega)] at h; simpa using h
    have e1 := h'.len
    have h1 := h'.adv
    obtain ⟨h2, h3⟩ := h1.named q1
    have e3 := h3.len
    obtain ⟨h4, h5⟩ := fms_bk hT (List.all_eq_true.1 q2) h3 (by simp [okK, nx, wStruct]) (by simp at e1 e3; omega)
    have h6 : At (allC [wStruct, [123]] (formalsC rT c.adv.name).2) (semK toksF d.flds ++ sgn 125 :: sgn 59 :: r) := by
      rw [allC_cons, allC_cons]; exact h5.mustW.must
    have e6 := h6.len
    obtain ⟨h7, h8⟩ := until_bk (rd := itemC rT) (st := stF) (tk := toksF) (N := N) d.flds (fun x hx c r h hr hn => item_bk hT (List.all_eq_true.1 q3 x hx) h hr hn) (fun x hx r => by
      have := List.all_eq_true.1 q3 x hx
      simp only [rightF, Bool.and_eq_true] at this
      exact nx_word _ (name_not_sign this.1 (by decide))) _ _ _ h6 (Nat.lt_succ_self _) (by simp at e1 e6; omega)
    have hsg : d.sigs = [] := q9.elim (·.2) (fun h => absurd h.1 (by omega))
    rw [typedC, h5.next, if_neg (by rw [nx_word _ (by decide)]; exact Bool.false_ne_true)]
    refine ⟨?_, h8.must⟩
    simp only [stD]
    rw [h2, h4, show (untilF (itemC rT) (allC [wStruct, [123]] (formalsC rT c.adv.name).2)).1.map stF = d.flds.map stF from h7, hsg, q5, q6, q7, q8, hk, hs0, hb0]
  · have h' : At c ((1, wType) :: (1, d.name) :: (brK (d.fms.map toksF) ++ (1, wInterface) :: sgn 123 :: (semK toksG d.sigs ++ sgn 125 :: sgn 59 :: r))) := by
      rw [toksD, if_neg hk3, if_pos hk] at h; simpa using h
    have e1 := h'.len
    have h1 := h'.adv
    obtain ⟨h2, h3⟩ := h1.named q1
    have e3 := h3.len
    obtain ⟨h4, h5⟩ := fms_bk hT (List.all_eq_true.1 q2) h3 (by simp [okK, nx, wInterface]) (by simp at e1 e3; omega)
    have h6 : At ((formalsC rT c.adv.name).2.adv.must [123]) (semK toksG d.sigs ++ sgn 125 :: sgn 59 :: r) := h5.adv.must
    have e6 := h6.len
    obtain ⟨h7, h8⟩ := until_bk (rd := sigC rT) (st := stG) (tk := toksG) (N := N) d.sigs (fun x hx c r h hr hn => sig_bk hT (List.all_eq_true.1 q4 x hx) h hr hn) (fun x hx r => by
      have := rightG_parts (List.all_eq_true.1 q4 x hx)
      exact nx_word _ (name_not_sign this.1 (by decide))) _ _ _ h6 (Nat.lt_succ_self _) (by simp at e1 e6; omega)
    have hsg : d.flds = [] := q9.elim (fun h => absurd h.1 (by omega)) (·.2)
    rw [typedC, h5.next, if_pos (nx_wordS _ _)]
    refine ⟨?_, h8.must⟩
    simp only [stD]
    rw [h2, h4, show (untilF (sigC rT) ((formalsC rT c.adv.name).2.adv.must [123])).1.map stG = d.sigs.map stG from h7, hsg, q5, q6, q7, q8, hk, hs0, hb0]
include hE
theorem method_bk {d : Dc} (hd : rightD d = true) (hk : d.kind = 3) {c : Cur} {r : List Kt} (h : At c (toksD d ++ r)) (hn : c.l.length < N) : stD (methodC rT rE c.adv).1 = stD d ∧ At (methodC rT rE c.adv).2 r := by
  obtain ⟨q1, q2, q3, q4, q5, q6, q7, q8⟩ := rightD_method hd hk
  have h' : At c ((1, wFunc) :: sgn 40 :: (1, d.recv) :: (1, d.name) :: (brK (d.vars.map varK) ++ sgn 41 :: (toksG d.sig ++ sgn 123 :: (1, wReturn) :: (toksE d.body ++ sgn 125 :: sgn 59 :: r)))) := by
    rw [toksD, if_pos hk] at h; simpa using h
  have e1 := h'.len
  have h1 := h'.adv.must
  obtain ⟨h2, h3⟩ := h1.named q5
  obtain ⟨h4, h5⟩ := h3.named q1
  obtain ⟨h6, h7⟩ := recv_bk (List.all_eq_true.1 q6) h5
  have h8 := h7.must
  have e8 := h8.len
  obtain ⟨h9, h10⟩ := sig_bk hT q7 h8 (okK_s (by decide) _) (by simp at e1 e8; omega)
  have h11 : At (allC [[123], wReturn] (sigC rT ((recvC (c.adv.must [40]).name.name).2.must [41])).2) (toksE d.body ++ sgn 125 :: sgn 59 :: r) := by
    rw [allC_cons, allC_cons]; exact h10.must.mustW
  have e11 := h11.len
  obtain ⟨h12, h13⟩ := hE d.body q8 _ _ h11 (okE_s (by decide) (by decide) _) (by simp at e1 e11; omega)
  refine ⟨?_, ?_⟩
  · simp only [stD, methodC]
    rw [h2, h4, h6, h9, h12, hk, q2, q3, q4]
  · have : At (allC [[125], [59]] (rE (allC [[123], wReturn] (sigC rT ((recvC (c.adv.must [40]).name.name).2.must [41])).2)).2) r := by
      rw [allC_cons, allC_cons]; exact h13.must.must
    exact this
theorem decls_bk : ∀ (l : List Dc), (∀ d ∈ l, rightD d = true) → ∀ (m : Nat) (c : Cur) (r : List Kt), At c (l.flatMap toksD ++ (1, wFunc) :: (1, wMain) :: r) → c.l.length < m → c.l.length < N →
    (declsC rT rE m c).1.map stD = l.map stD ∧ At (declsC rT rE m c).2 ((1, wMain) :: r)
  | [], _, m, c, r, h, hm, _ => by
    cases m with
    | zero => omega
    | succ m =>
      have h' : At c ((1, wFunc) :: (1, wMain) :: r) := by simpa using h
      rw [declsC, h'.next, h'.next, h'.adv.next, if_neg (by rw [nx_word _ (by decide)]; exact Bool.false_ne_true), if_pos (nx_wordS _ _), if_pos (nx_wordS _ _)]
      exact ⟨rfl, h'.adv⟩
  | d :: l, hd, m, c, r, h, hm, hn => by
    cases m with
    | zero => omega
    | succ m =>
      have h' : At c (toksD d ++ (l.flatMap toksD ++ (1, wFunc) :: (1, wMain) :: r)) := by simpa using h
      have hdd := hd d (by simp)
      have e1 := h'.len
      have hlen := toksD_pos d
      rcases rightD_kinds hdd with hk | hk | ⟨hk, -⟩
      · obtain ⟨h1, h2⟩ := typed_bk hT hdd (.inl hk) h' hn
        have e2 := h2.len
        obtain ⟨h3, h4⟩ := decls_bk l (fun x hx => hd x (by simp [hx])) m _ r h2 (by simp at e1 e2; omega) (by simp at e1 e2; omega)
        have hnx : c.next wType = true := by
          rw [h'.next, toksD, if_neg (by omega), if_neg (by omega)]; exact nx_wordS _ _
        rw [declsC, if_pos hnx]
        exact ⟨by simp [h1, h3], h4⟩
      · obtain ⟨h1, h2⟩ := typed_bk hT hdd (.inr hk) h' hn
        have e2 := h2.len
        obtain ⟨h3, h4⟩ := decls_bk l (fun x hx => hd x (by simp [hx])) m _ r h2 (by simp at e1 e2; omega) (by simp at e1 e2; omega)
        have hnx : c.next wType = true := by
          rw [h'.next, toksD, if_neg (by omega), if_pos hk]; exact nx_wordS _ _
        rw [declsC, if_pos hnx]
        exact ⟨by simp [h1, h3], h4⟩
      · obtain ⟨h1, h2⟩ := method_bk hT hE hdd hk h' hn
        have e2 := h2.len
        obtain ⟨h3, h4⟩ := decls_bk l (fun x hx => hd x (by simp [hx])) m _ r h2 (by simp at e1 e2; omega) (by simp at e1 e2; omega)
        have h'' := h'
        rw [toksD, if_pos hk] at h''
        have hnx : c.next wType = false := by rw [h''.next]; exact nx_word _ (by decide)
        have hnf : c.next wFunc = true := by rw [h''.next]; exact nx_wordS _ _
        have hnm : c.adv.next wMain = false := by rw [At.next (h''.adv)]; exact nx_sign _ (by decide)
        rw [declsC, if_neg (by rw [hnx]; exact Bool.false_ne_true), if_pos hnf, if_neg (by rw [hnm]; exact Bool.false_ne_true)]
        exact ⟨by simp [h1, h3], h4⟩
theorem program_bk {p : Pg} (hp : rightPg p = true) {c : Cur} {r : List Kt} (h : At c (toksP p ++ r)) (hn : c.l.length < N) : stP (programC rT rE c).1 = stP p ∧ At (programC rT rE c).2 r := by
  simp only [rightPg, Bool.and_eq_true, List.all_eq_true] at hp
  have h' : At c ((1, wPackage) :: (1, wMain) :: sgn 59 :: (p.decls.flatMap toksD ++ (1, wFunc) :: (1, wMain) :: sgn 40 :: sgn 41 :: sgn 123 :: sgn 95 :: sgn 61 :: (toksE p.main ++ sgn 125 :: r))) := by
    simpa [toksP, headK, mainK] using h
  have e1 := h'.len
  have h1 : At (allC [wPackage, wMain, [59]] c) (p.decls.flatMap toksD ++ (1, wFunc) :: (1, wMain) :: sgn 40 :: sgn 41 :: sgn 123 :: sgn 95 :: sgn 61 :: (toksE p.main ++ sgn 125 :: r)) := by
    rw [allC_cons, allC_cons, allC_cons]; exact h'.mustW.mustW.must
  have e2 := h1.len
  obtain ⟨h2, h3⟩ := decls_bk hT hE p.decls hp.1 _ _ _ h1 (Nat.lt_succ_self _) (by simp at e1 e2; omega)
  have h4 : At (allC [wMain, [40], [41], [123], [95], [61]] (declsC rT rE ((allC [wPackage, wMain, [59]] c).l.length + 1) (allC [wPackage, wMain, [59]] c)).2) (toksE p.main ++ sgn 125 :: r) := by
    simp only [allC_cons]; exact h3.mustW.must.must.must.must.must
  have e4 := h4.len
  obtain ⟨h5, h6⟩ := hE p.main hp.2 _ _ h4 (okE_s (by decide) (by decide) _) (by simp at e1 e4; omega)
  refine ⟨?_, h6.must⟩
  simp only [stP, programC]
  rw [h2, h5]
end
theorem prog_bk {p : Pg} (hp : rightPg p = true) {l : List Tk} (hl : l.map ktOf = toksP p ++ [(3, [])]) : stP (rdP l).1 = stP p ∧ At (rdP l).2 [(3, [])] :=
  program_bk (N := l.length + 1) (fun t ht c r h hr hn => type_bk t ht _ c r h hr hn) (fun e he c r h hr hn => expr_back he h hr hn) hp (c := ⟨l, none⟩) ⟨rfl, hl⟩ (Nat.lt_succ_self _)
theorem progT_same {p q : Pg} (hp : rightPg p = true) (hq : rightPg q = true) : (progT p == progT q) = sameP p q := by
  have key : progT p = progT q → stP p = stP q := by
    intro h
    have h1 := prog_toks hp
    rw [h, prog_toks hq] at h1
    simp only [Option.some.injEq] at h1
    obtain ⟨l, hl⟩ : ∃ l : List Tk, l.map ktOf = toksP q ++ [(3, [])] := ⟨(toksP q ++ [(3, [])]).map fun x : Kt => ((x.1, x.2, 0) : Tk), by rw [List.map_map]; exact (List.map_congr_left (fun x _ => rfl)).trans (List.map_id _)⟩
    rw [← (prog_bk hp (hl.trans h1)).1, (prog_bk hq hl).1]
  cases hb : sameP p q with
  | true =>
    have := (sameP_st p q).1 hb
    have h2 : progT p = progT q := by rw [← progT_st p, this, progT_st]
    simp [h2]
  | false =>
    have : progT p ≠ progT q := fun h => by
      have := (sameP_st p q).2 (key h)
      rw [hb] at this; cases this
    simpa using this

end Go.Pv
end

section
/- From data to declarations and programs. -/
namespace Go.Pv
open Go

structure DTys (P : Program) where
  S : Nat
  I : Nat
  L : Nat
  T : Nat
  X : Nat
  E : Nat
  SL : Nat
  FL : Nat
  F : Nat
  QL : Nat
  Q : Nat
  GL : Nat
  G : Nat
  hS : P.underlying S = some .string
  hI : P.underlying I = some (.int .i64)
  hL : P.underlying L = some (.slice T)
  hF : ftypes P T = some [S, L, I]
  hb : 0 < P.bytesOf T
  hX : P.underlying X = some (.slice E)
  hE : ftypes P E = some [I, S, T, L, X, I]
  hbe : 0 < P.bytesOf E
  hSL : P.underlying SL = some (.slice S)
  hbs : 0 < P.bytesOf S
  hFL : P.underlying FL = some (.slice F)
  hFF : ftypes P F = some [S, T, I]
  hbf : 0 < P.bytesOf F
  hQL : P.underlying QL = some (.slice Q)
  hQQ : ftypes P Q = some [S, T, I]
  hbq : 0 < P.bytesOf Q
  hGL : P.underlying GL = some (.slice G)
  hGG : ftypes P G = some [S, FL, QL, T, I]
  hbg : 0 < P.bytesOf G

section
variable {H : Type} {P : Program}

theorem fm_of (c : DTys P) {F : Nat} (hFF : ftypes P F = some [c.S, c.T, c.I]) (n : Nat) (d : DataW H) (h : typed P n F d) (hw : (d.weights P F).all (· ≤ reachBytes) = true) : ∃ f : Fm, avOf d = encF f ∧ fitF f := by
  obtain ⟨m, ps, rfl, rfl, hps, hwe⟩ := typed_struct hFF h
  rw [hwe] at hw
  match ps, hps with
  | [s, t, p], ⟨hs, ht, hp, _⟩ =>
    obtain ⟨w1, hw⟩ := weightsEach_cons hw
    obtain ⟨w2, hw⟩ := weightsEach_cons hw
    obtain ⟨s, hs1, hs2⟩ := str_of c.hS hs w1
    obtain ⟨⟨tn, tas, tp⟩, ht1, ht2⟩ := ty_of c.hS c.hI c.hL c.hF c.hb m _ ht w2
    obtain ⟨p, rfl, -⟩ := typed_int c.hI hp
    exact ⟨⟨s, .mk tn tas tp, p⟩, by simp [avOf, avFlat, hs1, ht1, encF, encTy_mk], hs2, ht2⟩
theorem fms_of (c : DTys P) {F FL : Nat} (hFL : P.underlying FL = some (.slice F)) (hFF : ftypes P F = some [c.S, c.T, c.I]) (hbf : 0 < P.bytesOf F) (n : Nat) (d : DataW H) (h : typed P n FL d) (hw : (d.weights P FL).all (· ≤ reachBytes) = true) :
    ∃ l : List Fm, avOf d = [.slice (l.map encF)] ∧ fitFs l := by
  obtain ⟨q, rfl, hq⟩ := typed_slice hFL h
  rcases hq with rfl | ⟨es, sp, rfl, hq⟩
  · exact ⟨[], rfl, by simp, fun f hf => by cases hf⟩
  · obtain ⟨g1, g2⟩ := weights_slice hFL hbf hw
    obtain ⟨l, e1, e2, e3⟩ := rows_of (enc := encF) (good := fitF) es (fun x hx => fm_of c hFF q x (hq x hx) (g2 x hx))
    exact ⟨l, by simp [avOf, e1], by omega, e3⟩
theorem sg_of (c : DTys P) (n : Nat) (d : DataW H) (h : typed P n c.G d) (hw : (d.weights P c.G).all (· ≤ reachBytes) = true) : ∃ s : Sg, avOf d = encG s ∧ fitG s := by
  obtain ⟨m, ps, rfl, rfl, hps, hwe⟩ := typed_struct c.hGG h
  rw [hwe] at hw
  match ps, hps with
  | [s, f, q, t, p], ⟨hs, hf, hq, ht, hp, _⟩ =>
    obtain ⟨w1, hw⟩ := weightsEach_cons hw
    obtain ⟨w2, hw⟩ := weightsEach_cons hw
    obtain ⟨w3, hw⟩ := weightsEach_cons hw
    obtain ⟨w4, hw⟩ := weightsEach_cons hw
    obtain ⟨s, hs1, hs2⟩ := str_of c.hS hs w1
    obtain ⟨f, hf1, hf2⟩ := fms_of c c.hFL c.hFF c.hbf m _ hf w2
    obtain ⟨q, hq1, hq2⟩ := fms_of c c.hQL c.hQQ c.hbq m _ hq w3
    obtain ⟨⟨tn, tas, tp⟩, ht1, ht2⟩ := ty_of c.hS c.hI c.hL c.hF c.hb m _ ht w4
    obtain ⟨p, rfl, -⟩ := typed_int c.hI hp
    exact ⟨⟨s, f, q, .mk tn tas tp, p⟩, by simp [avOf, avFlat, hs1, hf1, hq1, ht1, encG, encTy_mk], hs2, hf2, hq2, ht2⟩
theorem sgs_of (c : DTys P) (n : Nat) (d : DataW H) (h : typed P n c.GL d) (hw : (d.weights P c.GL).all (· ≤ reachBytes) = true) : ∃ l : List Sg, avOf d = [.slice (l.map encG)] ∧ l.length ≤ 140737488355328 ∧ ∀ s ∈ l, fitG s := by
  obtain ⟨q, rfl, hq⟩ := typed_slice c.hGL h
  rcases hq with rfl | ⟨es, sp, rfl, hq⟩
  · exact ⟨[], rfl, by simp, fun f hf => by cases hf⟩
  · obtain ⟨g1, g2⟩ := weights_slice c.hGL c.hbg hw
    obtain ⟨l, e1, e2, e3⟩ := rows_of (enc := encG) (good := fitG) es (fun x hx => sg_of c q x (hq x hx) (g2 x hx))
    exact ⟨l, by simp [avOf, e1], by omega, e3⟩
theorem dc_of (c : DTys P) {D : Nat} (hD : ftypes P D = some [c.I, c.S, c.FL, c.QL, c.GL, c.S, c.SL, c.G, c.E, c.I]) (n : Nat) (d : DataW H) (h : typed P n D d) (hw : (d.weights P D).all (· ≤ reachBytes) = true) : ∃ x : Dc, avOf d = encD x ∧ fitD x := by
  obtain ⟨m, ps, rfl, rfl, hps, hwe⟩ := typed_struct hD h
  rw [hwe] at hw
  match ps, hps with
  | [k, s, f, q, g, r, v, sg, b, p], ⟨hk, hs, hf, hq, hg, hr, hv, hsg, hb, hp, _⟩ =>
    obtain ⟨w1, hw⟩ := weightsEach_cons hw
    obtain ⟨w2, hw⟩ := weightsEach_cons hw
    obtain ⟨w3, hw⟩ := weightsEach_cons hw
    obtain ⟨w4, hw⟩ := weightsEach_cons hw
    obtain ⟨w5, hw⟩ := weightsEach_cons hw
    obtain ⟨w6, hw⟩ := weightsEach_cons hw
    obtain ⟨w7, hw⟩ := weightsEach_cons hw
    obtain ⟨w8, hw⟩ := weightsEach_cons hw
    obtain ⟨w9, hw⟩ := weightsEach_cons hw
    obtain ⟨k, rfl, -⟩ := typed_int c.hI hk
    obtain ⟨s, hs1, hs2⟩ := str_of c.hS hs w2
    obtain ⟨f, hf1, hf2⟩ := fms_of c c.hFL c.hFF c.hbf m _ hf w3
    obtain ⟨q, hq1, hq2⟩ := fms_of c c.hQL c.hQQ c.hbq m _ hq w4
    obtain ⟨g, hg1, hg2⟩ := sgs_of c m _ hg w5
    obtain ⟨r, hr1, hr2⟩ := str_of c.hS hr w6
    obtain ⟨v, hv1, hv2⟩ := strs_of c.hS c.hSL c.hbs m _ hv w7
    obtain ⟨sg, hsg1, hsg2⟩ := sg_of c m _ hsg w8
    obtain ⟨b, hb1, hb2⟩ := exp_of c.hS c.hI c.hL c.hF c.hb c.hX c.hE c.hbe m _ hb w9
    obtain ⟨p, rfl, -⟩ := typed_int c.hI hp
    exact ⟨⟨k, s, f, q, g, r, v, sg, b, p⟩, by simp [avOf, avFlat, hs1, hf1, hq1, hg1, hr1, hv1, hsg1, hb1, encD, encG, encE_def], hs2, hf2, hq2, hg2, hr2, hv2, hsg2, hb2⟩
theorem pg_of (c : DTys P) {D DL Z : Nat} (hD : ftypes P D = some [c.I, c.S, c.FL, c.QL, c.GL, c.S, c.SL, c.G, c.E, c.I]) (hDL : P.underlying DL = some (.slice D)) (hbd : 0 < P.bytesOf D) (hZ : ftypes P Z = some [DL, c.E]) (n : Nat) (d : DataW H) (h : typed P n Z d) (hw : (d.weights P Z).all (· ≤ reachBytes) = true) : ∃ x : Pg, avOf d = encPg x ∧ fitPg x := by
  obtain ⟨m, ps, rfl, rfl, hps, hwe⟩ := typed_struct hZ h
  rw [hwe] at hw
  match ps, hps with
  | [ds, b], ⟨hds, hb, _⟩ =>
    obtain ⟨w1, hw⟩ := weightsEach_cons hw
    obtain ⟨w2, hw⟩ := weightsEach_cons hw
    obtain ⟨b, hb1, hb2⟩ := exp_of c.hS c.hI c.hL c.hF c.hb c.hX c.hE c.hbe m _ hb w2
    obtain ⟨q, rfl, hq⟩ := typed_slice hDL hds
    rcases hq with rfl | ⟨es, sp, rfl, hq⟩
    · exact ⟨⟨[], b⟩, by simp [avOf, avFlat, hb1, encPg, encE_def], ⟨by simp, fun f hf => by cases hf⟩, hb2⟩
    · obtain ⟨g1, g2⟩ := weights_slice hDL hbd w1
      obtain ⟨l, e1, e2, e3⟩ := rows_of (enc := encD) (good := fitD) es (fun x hx => dc_of c hD q x (hq x hx) (g2 x hx))
      exact ⟨⟨l, b⟩, by simp [avOf, avFlat, e1, hb1, encPg, encE_def], ⟨(show l.length ≤ 140737488355328 by omega), e3⟩, hb2⟩
end
end Go.Pv
end
