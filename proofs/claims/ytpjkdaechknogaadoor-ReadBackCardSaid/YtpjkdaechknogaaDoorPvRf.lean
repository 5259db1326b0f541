import Derived.Test.YtpjkdaechknogaaDoorPvRd
set_option linter.all false
section
/- What is read from the tokens of a right type or expression is that type or expression. -/
namespace Go.Pv
open Go

def nx (r : List Kt) (s : Str) : Bool := match r with | [] => false | x :: _ => x.1 != 3 && x.2 == s
def At (c : Cur) (r : List Kt) : Prop := c.err = none ∧ c.l.map ktOf = r

section
variable {c : Cur} {r : List Kt} {s : Str}
theorem At.len (h : At c r) : c.l.length = r.length := by rw [← h.2, List.length_map]
theorem At.next (h : At c r) (s : Str) : c.next s = nx r s := by
  unfold Cur.next Cur.first
  rw [h.1, ← h.2]
  cases c.l with
  | nil => rfl
  | cons t l => rfl
theorem At.adv {x : Kt} (h : At c (x :: r)) : At c.adv r := by
  refine ⟨h.1, ?_⟩
  cases hl : c.l with
  | nil => have := h.2; rw [hl] at this; cases this
  | cons t l =>
    have := h.2
    rw [hl] at this
    simp only [List.map_cons, List.cons.injEq] at this
    rw [show c.adv.l = l by simp [Cur.adv, hl]]; exact this.2
theorem At.must {c1 : UInt8} (h : At c (sgn c1 :: r)) : At (c.must [c1]) r := by
  rw [Cur.must, h.next]
  rw [if_pos (by simp [nx, sgn])]
  exact h.adv
theorem At.named {n : Str} (h : At c ((1, n) :: r)) (hn : isName n = true) : c.nm = n ∧ At c.name r := by
  have hf : c.first.1 = 1 ∧ c.first.2.1 = n := by
    unfold Cur.first
    rw [h.1]
    cases hl : c.l with
    | nil => have := h.2; rw [hl] at this; cases this
    | cons t l =>
      have := h.2
      rw [hl] at this
      simp only [List.map_cons, List.cons.injEq, ktOf, Prod.mk.injEq] at this
      exact this.1
  have hd : c.named = true := by simp [Cur.named, hf.1, hf.2, hn]
  exact ⟨by simp [Cur.nm, hd, hf.2], by rw [Cur.name, if_pos hd]; exact h.adv⟩
end

section
variable {α : Type} {rd : Cur → α × Cur} {st : α → α} {tk : α → List Kt} {ok : List Kt → Prop} {n : Nat}
theorem loop_bk (hc : ∀ r, ok (sgn 44 :: r)) (hs : ∀ c, (rd c).2.l <:+ c.l) : ∀ (xs : List α), (∀ x ∈ xs, ∀ c r, At c (tk x ++ r) → ok r → c.l.length < n → st (rd c).1 = st x ∧ At (rd c).2 r) →
    ∀ (c : Cur) (r : List Kt), At c (tailK (xs.map tk) ++ r) → nx r [44] = false → ok r → c.l.length ≤ n → (loopC rd c.l.length c).1.map st = xs.map st ∧ At (loopC rd c.l.length c).2 r
  | [], _, c, r, h, hr, _, _ => by
    have h' : At c r := by simpa [tailK] using h
    rw [loopC_at (fun c => (hs c).length_le), h'.next, hr]
    exact ⟨rfl, h'⟩
  | x :: xs, hx, c, r, h, hr, hk, hn => by
    have h' : At c (sgn 44 :: (tk x ++ (tailK (xs.map tk) ++ r))) := by simpa [tailK] using h
    have hlen := h'.len
    rw [loopC_at (fun c => (hs c).length_le), h'.next, if_pos (by simp [nx, sgn])]
    have ha := h'.adv
    have hl2 := ha.len
    obtain ⟨h1, h2⟩ := hx x (by simp) _ _ ha (by cases xs with
      | nil => simpa [tailK] using hk
      | cons y ys => exact hc _) (by simp at hlen hl2 ⊢; omega)
    obtain ⟨h3, h4⟩ := loop_bk hc hs xs (fun y hy => hx y (by simp [hy])) _ _ h2 hr hk (by
      have := (hs c.adv).length_le
      simp at hlen hl2; omega)
    exact ⟨by simp [h1, h3], h4⟩
theorem list_bk (hc : ∀ r, ok (sgn 44 :: r)) (hs : ∀ c, (rd c).2.l <:+ c.l) (x : α) (xs : List α) (hx : ∀ y ∈ x :: xs, ∀ c r, At c (tk y ++ r) → ok r → c.l.length < n → st (rd c).1 = st y ∧ At (rd c).2 r)
    (c : Cur) (r : List Kt) (h : At c (commaK ((x :: xs).map tk) ++ r)) (hr : nx r [44] = false) (hk : ok r) (hn : c.l.length < n) : (listC rd c).1.map st = (x :: xs).map st ∧ At (listC rd c).2 r := by
  have h' : At c (tk x ++ (tailK (xs.map tk) ++ r)) := by simpa [commaK] using h
  obtain ⟨h1, h2⟩ := hx x (by simp) c _ h' (by cases xs with
      | nil => simpa [tailK] using hk
      | cons y ys => exact hc _) hn
  have hl := (hs c).length_le
  obtain ⟨h3, h4⟩ := loop_bk hc hs xs (fun y hy => hx y (by simp [hy])) _ _ h2 hr hk (by omega)
  exact ⟨by simp [listC, h1, h3], h4⟩
end

def okK (r : List Kt) : Prop := nx r [91] = false
theorem okK_s {c : UInt8} (h : c ≠ 91) (r : List Kt) : okK (sgn c :: r) := by simp [okK, nx, sgn, h]
theorem targs_bk {rd : Cur → Ty × Cur} {n : Nat} (hs : ∀ c, (rd c).2.l <:+ c.l) (ts : List Ty) (hx : ∀ y ∈ ts, ∀ c r, At c (toksT y ++ r) → okK r → c.l.length < n → stT (rd c).1 = stT y ∧ At (rd c).2 r)
    (c : Cur) (r : List Kt) (h : At c (brK (ts.map toksT) ++ r)) (hr : okK r) (hn : c.l.length ≤ n) : (targsC rd c).1.map stT = ts.map stT ∧ At (targsC rd c).2 r := by
  cases ts with
  | nil =>
    have h' : At c r := by simpa [brK] using h
    rw [targsC, h'.next, hr]
    exact ⟨rfl, h'⟩
  | cons t ts =>
    have h' : At c (sgn 91 :: (commaK ((t :: ts).map toksT) ++ sgn 93 :: r)) := by simpa [brK] using h
    have hl := h'.len
    have ha := h'.adv
    have hl2 := ha.len
    rw [targsC, h'.next, if_pos (by simp [nx, sgn])]
    obtain ⟨h1, h2⟩ := list_bk (st := stT) (tk := toksT) (ok := okK) (n := n) (fun r => okK_s (by decide) r) hs t ts hx c.adv _ ha (by simp [nx, sgn]) (okK_s (by decide) _) (by simp at hl hl2; omega)
    exact ⟨h1, h2.must⟩
theorem type_bk : ∀ t : Ty, rightT t = true → ∀ (n : Nat) (c : Cur) (r : List Kt), At c (toksT t ++ r) → okK r → c.l.length < n → stT (typeC n c).1 = stT t ∧ At (typeC n c).2 r := by
  intro t
  induction t using Ty.ind with
  | h nm ts p ih =>
    intro ht n c r h hr hn
    obtain ⟨hnm, hts⟩ := right_name ht
    cases n with
    | zero => omega
    | succ n =>
      rw [toksT_mk] at h
      have h' : At c ((1, nm) :: (brK (ts.map toksT) ++ r)) := by simpa using h
      obtain ⟨h1, h2⟩ := h'.named hnm
      have hl := h'.len
      have hl2 := h2.len
      obtain ⟨h3, h4⟩ := targs_bk (rd := typeC n) (n := n) (typeC_suf n) ts (fun y hy c r h hr hn => ih y hy (hts y hy) n c r h hr hn) c.name r h2 hr (by simp at hl hl2; omega)
      refine ⟨?_, h4⟩
      show stT (.mk c.nm (targsC (typeC n) c.name).1 c.at_) = _
      rw [stT_mk, stT_mk, h1, h3]

def okA (r : List Kt) : Prop := nx r [91] = false ∧ nx r [123] = false ∧ nx r [40] = false
def okE (r : List Kt) : Prop := okA r ∧ nx r [46] = false
theorem okA_s {c : UInt8} (h : c ≠ 91 ∧ c ≠ 123 ∧ c ≠ 40) (r : List Kt) : okA (sgn c :: r) := by simp [okA, nx, sgn, h]
theorem okE_s {c : UInt8} (h : c ≠ 91 ∧ c ≠ 123 ∧ c ≠ 40) (h2 : c ≠ 46) (r : List Kt) : okE (sgn c :: r) := ⟨okA_s h r, by simp [nx, sgn, h2]⟩
theorem args_bk {rd : Cur → Exp × Cur} {n : Nat} (e : UInt8) (he : (e ≠ 91 ∧ e ≠ 123 ∧ e ≠ 40) ∧ e ≠ 46 ∧ e ≠ 44) (hs : ∀ c, (rd c).2.l <:+ c.l) (xs : List Exp) (hx : ∀ y ∈ xs, ∀ c r, At c (toksE y ++ r) → okE r → c.l.length < n → stE (rd c).1 = stE y ∧ At (rd c).2 r) (hh : ∀ y ∈ xs, ∀ r, nx (toksE y ++ r) [e] = false)
    (c : Cur) (r : List Kt) (h : At c (commaK (xs.map toksE) ++ sgn e :: r)) (hn : c.l.length < n) : (argsC rd [e] c).1.map stE = xs.map stE ∧ At (argsC rd [e] c).2 r := by
  cases xs with
  | nil =>
    have h' : At c (sgn e :: r) := by simpa [commaK] using h
    rw [argsC, h'.next, if_pos (by simp [nx, sgn])]
    exact ⟨rfl, h'.must⟩
  | cons x xs =>
    have hnn : c.next [e] = false := by
      rw [h.next]
      have := hh x (by simp) (tailK (xs.map toksE) ++ sgn e :: r)
      simpa [commaK] using this
    rw [argsC, hnn]
    obtain ⟨h1, h2⟩ := list_bk (st := stE) (tk := toksE) (ok := okE) (n := n) (fun r => okE_s (by decide) (by decide) r) hs x xs hx c _ h (by simp [nx, sgn, he.2.2]) (okE_s he.1 he.2.1 _) hn
    exact ⟨h1, h2.must⟩
theorem toksE_head : ∀ e : Exp, rightE e = true → ∃ n k, isName n = true ∧ toksE e = (1, n) :: k := by
  intro e
  induction e using Exp.ind with
  | h k n t a l p ih =>
    intro he
    obtain ⟨hl, hc⟩ := right_cases he
    rcases hc with ⟨rfl, hn, rfl, -⟩ | ⟨rfl, hn, ⟨y, r, rfl⟩, -⟩ | ⟨rfl, -, ht, -⟩ | ⟨rfl, hn, ⟨y, rfl⟩, -⟩ | ⟨rfl, -, ⟨y, rfl⟩, ht, -⟩
    · exact ⟨n, [], hn, toksE_1⟩
    · obtain ⟨m, k, h1, h2⟩ := ih y (by simp) (hl y (by simp)); exact ⟨m, _, h1, by rw [toksE_2, h2]; rfl⟩
    · obtain ⟨tn, ts, tp⟩ := t; exact ⟨tn, _, (right_name ht).1, by rw [toksE_3, toksT_mk]; rfl⟩
    · obtain ⟨m, k, h1, h2⟩ := ih y (by simp) (hl y (by simp)); exact ⟨m, _, h1, by rw [toksE_4, h2]; rfl⟩
    · obtain ⟨m, k, h1, h2⟩ := ih y (by simp) (hl y (by simp)); exact ⟨m, _, h1, by rw [toksE_5, h2]; rfl⟩
theorem name_not_sign {n : Str} (h : isName n = true) {c : UInt8} (hc : goodB c = false) : n ≠ [c] := by
  rintro rfl
  have := isName_all h
  simp [hc] at this
theorem toksE_nx {e : Exp} (he : rightE e = true) {c : UInt8} (hc : goodB c = false) (r : List Kt) : nx (toksE e ++ r) [c] = false := by
  obtain ⟨n, k, h1, h2⟩ := toksE_head e he
  rw [h2]
  simp [nx, name_not_sign h1 hc]

theorem expr_bk : ∀ e : Exp, rightE e = true → ∀ (q : Nat) (c : Cur) (r : List Kt), At c (toksE e ++ r) → okA r → c.l.length < q + 1 →
    ∃ e' c', stE e' = stE e ∧ At c' r ∧ exprC (q + 1) c = dotsC (restC (typeC q) (exprC q)) c'.l.length e' c' := by
  intro e
  induction e using Exp.ind with
  | h k n t a l p ih =>
    intro he q c r h hr hq
    obtain ⟨hl, hcs⟩ := right_cases he
    have hfull : ∀ y ∈ l, ∀ c r, At c (toksE y ++ r) → okE r → c.l.length < q → stE (exprC q c).1 = stE y ∧ At (exprC q c).2 r := by
      intro y hy c r h hr hn
      cases q with
      | zero => omega
      | succ q =>
        obtain ⟨e', c', h1, h2, h3⟩ := ih y hy (hl y hy) q c r h hr.1 hn
        rw [h3, dotsC_at (fun e c => (restC_suf (typeC_suf q) (exprC_suf q) e c).length_le), h2.next, hr.2]
        exact ⟨h1, h2⟩
    have hdl := fun e c => (restC_suf (typeC_suf q) (exprC_suf q) e c).length_le
    have hstT0 : ∀ {t : Ty}, t.name = [] → t.args = [] → stT t = ty0 := fun {t} h1 h2 => by
      obtain ⟨tn, ts, tp⟩ := t
      simp only [Ty.name, Ty.args] at h1 h2
      subst h1; subst h2; rfl
    -- behind an expression and a dot
    have hdot : ∀ (y : Exp), y ∈ l → ∀ (r2 : List Kt), At c (toksE y ++ sgn 46 :: r2) → ∃ e' c', stE e' = stE y ∧ At c' r2 ∧ c'.l.length < q ∧ exprC (q + 1) c = dotsC (restC (typeC q) (exprC q)) (restC (typeC q) (exprC q) e' c').2.l.length (restC (typeC q) (exprC q) e' c').1 (restC (typeC q) (exprC q) e' c').2 := by
      intro y hy r2 h
      obtain ⟨e', c', h1, h2, h3⟩ := ih y hy (hl y hy) q c _ h (okA_s (by decide) _) hq
      refine ⟨e', c'.adv, h1, h2.adv, ?_, ?_⟩
      · have h4 := h.len
        have h5 := h2.adv.len
        obtain ⟨m, k, -, h6⟩ := toksE_head y (hl y hy)
        rw [h6] at h4
        simp at h4; omega
      · rw [h3, dotsC_at hdl, h2.next, if_pos (by simp [nx, sgn])]
    rcases hcs with ⟨rfl, hn, rfl, ht1, ht2, rfl⟩ | ⟨rfl, hn, ⟨y, rs, rfl⟩, ht1, ht2, ha⟩ | ⟨rfl, rfl, ht, rfl⟩ | ⟨rfl, hn, ⟨y, rfl⟩, ht1, ht2, rfl⟩ | ⟨rfl, rfl, ⟨y, rfl⟩, ht, rfl⟩
    · rw [toksE_1] at h
      have h' : At c ((1, n) :: r) := by simpa using h
      obtain ⟨h1, h2⟩ := h'.named hn
      refine ⟨.mk 1 c.nm ty0 [] [] c.at_, c.name, ?_, h2, ?_⟩
      · rw [stE_mk, stE_mk, h1, hstT0 ht1 ht2]; rfl
      · show dotsC _ (baseC (typeC q) (exprC q) c).2.l.length (baseC (typeC q) (exprC q) c).1 (baseC (typeC q) (exprC q) c).2 = _
        rw [baseC, h2.next, h2.next, hr.1, hr.2.1]; rfl
    · rw [toksE_2] at h
      have h' : At c (toksE y ++ sgn 46 :: ((1, n) :: (brK (a.map toksT) ++ sgn 40 :: (commaK (rs.map toksE) ++ sgn 41 :: r)))) := by simpa using h
      obtain ⟨e', c', h1, h2, h3, h4⟩ := hdot y (by simp) _ h'
      obtain ⟨h5, h6⟩ := h2.named hn
      have hl2 := h2.len
      have hl6 := h6.len
      obtain ⟨h7, h8⟩ := targs_bk (rd := typeC q) (n := q) (typeC_suf q) a (fun u hu c r h hr hn => type_bk u (ha u hu) q c r h hr hn) c'.name _ h6 (okK_s (by decide) _) (by simp at hl2 hl6; omega)
      have h9 := h8.must
      have hl9 : ((targsC (typeC q) c'.name).2.must [40]).l.length < q := by
        have q1 := ((targsC (typeC q) c'.name).2.must_suf [40]).length_le
        have q2 := (targsC_suf (typeC_suf q) c'.name).length_le
        simp at hl2 hl6; omega
      obtain ⟨h10, h11⟩ := args_bk (rd := exprC q) (n := q) 41 (by decide) (exprC_suf q) rs (fun z hz => hfull z (by simp [hz])) (fun z hz r => toksE_nx (hl z (by simp [hz])) (by decide) r) _ _ h9 hl9
      have hnx : (c'.name.next [91] || c'.name.next [40]) = true := by
        rw [h6.next, h6.next]
        cases a with
        | nil => simp [brK, nx, sgn]
        | cons u us => simp [brK, nx, sgn]
      have hno : c'.next [40] = false := by rw [h2.next]; simp [nx, name_not_sign hn (show goodB 40 = false by decide)]
      have hrest : restC (typeC q) (exprC q) e' c' = (.mk 2 c'.nm ty0 (targsC (typeC q) c'.name).1 (e' :: (argsC (exprC q) [41] ((targsC (typeC q) c'.name).2.must [40])).1) c'.at_, (argsC (exprC q) [41] ((targsC (typeC q) c'.name).2.must [40])).2) := by
        have hq2 : (!c'.name.next [91] && !c'.name.next [40]) = false := by
          cases g1 : c'.name.next [91] <;> cases g2 : c'.name.next [40] <;> simp_all
        rw [restC, hno, hq2]; rfl
      refine ⟨_, _, ?_, h11, by rw [h4, hrest]⟩
      rw [stE_mk, stE_mk, h5, hstT0 ht1 ht2, h7, List.map_cons, List.map_cons, h1, h10]; rfl
    · rw [toksE_3] at h
      obtain ⟨tn, ts, tp⟩ := t
      obtain ⟨htn, hts⟩ := right_name ht
      rw [toksT_mk] at h
      have h' : At c ((1, tn) :: (brK (ts.map toksT) ++ sgn 123 :: (commaK (l.map toksE) ++ sgn 125 :: r))) := by simpa using h
      obtain ⟨h5, h6⟩ := h'.named htn
      have hl2 := h'.len
      have hl6 := h6.len
      obtain ⟨h7, h8⟩ := targs_bk (rd := typeC q) (n := q) (typeC_suf q) ts (fun u hu c r h hr hn => type_bk u (hts u hu) q c r h hr hn) c.name _ h6 (okK_s (by decide) _) (by simp at hl2 hl6; omega)
      have h9 := h8.must
      have hl9 : ((targsC (typeC q) c.name).2.must [123]).l.length < q := by
        have q1 := ((targsC (typeC q) c.name).2.must_suf [123]).length_le
        have q2 := (targsC_suf (typeC_suf q) c.name).length_le
        have q3 := h9.len
        have q4 := h8.len
        simp at hl2 hl6 q4; omega
      obtain ⟨h10, h11⟩ := args_bk (rd := exprC q) (n := q) 125 (by decide) (exprC_suf q) l hfull (fun z hz r => toksE_nx (hl z hz) (by decide) r) _ _ h9 hl9
      have hnx : (c.name.next [91] || c.name.next [123]) = true := by
        rw [h6.next, h6.next]
        cases ts with
        | nil => simp [brK, nx, sgn]
        | cons u us => simp [brK, nx, sgn]
      refine ⟨.mk 3 [] (.mk c.nm (targsC (typeC q) c.name).1 c.at_) [] (argsC (exprC q) [125] ((targsC (typeC q) c.name).2.must [123])).1 c.at_, _, ?_, h11, ?_⟩
      · rw [stE_mk, stE_mk, stT_mk, stT_mk, h5, h7, h10]
      · show dotsC _ (baseC (typeC q) (exprC q) c).2.l.length (baseC (typeC q) (exprC q) c).1 (baseC (typeC q) (exprC q) c).2 = _
        rw [baseC, hnx]; rfl
    · rw [toksE_4] at h
      have h' : At c (toksE y ++ sgn 46 :: ((1, n) :: r)) := by simpa using h
      obtain ⟨e', c', h1, h2, h3, h4⟩ := hdot y (by simp) _ h'
      obtain ⟨h5, h6⟩ := h2.named hn
      have hno : c'.next [40] = false := by rw [h2.next]; simp [nx, name_not_sign hn (show goodB 40 = false by decide)]
      have hrest : restC (typeC q) (exprC q) e' c' = (.mk 4 c'.nm ty0 [] [e'] c'.at_, c'.name) := by
        rw [restC, hno, h6.next, h6.next, hr.1, hr.2.2]; rfl
      refine ⟨_, _, ?_, h6, by rw [h4, hrest]⟩
      rw [stE_mk, stE_mk, h5, hstT0 ht1 ht2, List.map_cons, List.map_cons, h1]; rfl
    · rw [toksE_5] at h
      have h' : At c (toksE y ++ sgn 46 :: (sgn 40 :: (toksT t ++ sgn 41 :: r))) := by simpa using h
      obtain ⟨e', c', h1, h2, h3, h4⟩ := hdot y (by simp) _ h'
      have h5 := h2.adv
      have hl5 := h5.len
      have hl2 := h2.len
      obtain ⟨h6, h7⟩ := type_bk t ht q c'.adv _ h5 (okK_s (by decide) _) (by simp at hl2 hl5; omega)
      have hrest : restC (typeC q) (exprC q) e' c' = (.mk 5 [] (typeC q c'.adv).1 [] [e'] c'.first.2.2, (typeC q c'.adv).2.must [41]) := by
        rw [restC, h2.next, if_pos (by simp [nx, sgn])]
      refine ⟨_, _, ?_, h7.must, by rw [h4, hrest]⟩
      rw [stE_mk, stE_mk, h6, List.map_cons, List.map_cons, h1]

theorem expr_back {e : Exp} (he : rightE e = true) {n : Nat} {c : Cur} {r : List Kt} (h : At c (toksE e ++ r)) (hr : okE r) (hn : c.l.length < n) : stE (exprC n c).1 = stE e ∧ At (exprC n c).2 r := by
  cases n with
  | zero => omega
  | succ q =>
    obtain ⟨e', c', h1, h2, h3⟩ := expr_bk e he q c r h hr.1 hn
    rw [h3, dotsC_at (fun e c => (restC_suf (typeC_suf q) (exprC_suf q) e c).length_le), h2.next, hr.2]
    exact ⟨h1, h2⟩

end Go.Pv
end

section
/- How long the texts of few-parted types and expressions are; what is read from them, whole, and with blanks and comments. -/
namespace Go.Pv
open Go

theorem join_le {α : Type} (tx : α → Str) (f : α → Nat) : ∀ l : List α, (∀ a ∈ l, (tx a).length + 2 ≤ f a) → (Lib.join (l.map tx) [44, 32]).length ≤ (l.map f).sum := by
  intro l h
  have h4 : (Lib.join (l.map tx) [44, 32]).length ≤ ((l.map tx).map fun s => s.length + 2).sum := join_len _ _
  have h5 : ((l.map tx).map fun s => s.length + 2).sum ≤ (l.map f).sum := by
    clear h4
    induction l with
    | nil => simp
    | cons a l ih =>
      have h1 := h a (by simp)
      have h2 := ih (fun b hb => h b (by simp [hb]))
      simp only [List.map_cons, List.sum_cons]; omega
  omega
theorem sum_ts (K : Nat) : ∀ l : List Ty, (l.map fun t => wt t + K * csum t).sum = wts l + K * csums l
  | [] => by simp [wts, csums]
  | t :: l => by simp only [List.map_cons, List.sum_cons, sum_ts K l, wts, csums, Nat.mul_add]; omega
theorem sum_es (K : Nat) : ∀ l : List Exp, (l.map fun t => wtE t + K * esum t).sum = wtEs l + K * esums l
  | [] => by simp [wtEs, esums]
  | t :: l => by simp only [List.map_cons, List.sum_cons, sum_es K l, wtEs, esums, Nat.mul_add]; omega
theorem br_le (ts : List Ty) (h : ∀ t ∈ ts, (txt t).length + 2 ≤ wt t + 3 * csum t) : (if ts.isEmpty then ([] : Str) else 91 :: (Lib.join (ts.map txt) [44, 32] ++ [93])).length ≤ 2 + wts ts + 3 * csums ts := by
  have h1 := join_le txt (fun t => wt t + 3 * csum t) ts h
  rw [sum_ts] at h1
  split
  · simp
  · simp; omega
theorem txt_sz : ∀ t : Ty, (txt t).length + 2 ≤ wt t + 3 * csum t := by
  intro t
  induction t using Ty.ind with
  | h n ts p ih =>
    have h1 := br_le ts ih
    rw [txt_br, List.length_append]
    simp only [wt, csum]
    omega
theorem txtE_sz : ∀ e : Exp, rightE e = true → (txtE e).length + 2 ≤ wtE e + 6 * esum e := by
  intro e
  induction e using Exp.ind with
  | h k n t a l p ih =>
    intro he
    obtain ⟨hl, hc⟩ := right_cases he
    have ht := txt_sz t
    have htp := csum_pos t
    have hwp := wt_pos t
    have ha := br_le a (fun t _ => txt_sz t)
    have hk := join_le txtE (fun e => wtE e + 6 * esum e) l (fun e he => ih e he (hl e he))
    rw [sum_es] at hk
    rw [wtE_mk]
    simp only [esum]
    rcases hc with ⟨rfl, hn, rfl, -⟩ | ⟨rfl, hn, ⟨y, r, rfl⟩, -⟩ | ⟨rfl, -, -⟩ | ⟨rfl, hn, ⟨y, rfl⟩, -⟩ | ⟨rfl, -, ⟨y, rfl⟩, -⟩
    · rw [txtE_1]; omega
    · have hy := ih y (by simp) (hl y (by simp))
      have hr := join_le txtE (fun e => wtE e + 6 * esum e) r (fun e he => ih e (by simp [he]) (hl e (by simp [he])))
      rw [sum_es] at hr
      rw [txtE_2]
      simp only [List.length_append, List.length_cons, List.length_nil, wtEs, esums] at hk ⊢
      omega
    · rw [txtE_3]
      simp only [List.length_append, List.length_cons, List.length_nil]
      omega
    · have hy := ih y (by simp) (hl y (by simp))
      rw [txtE_4]
      simp only [List.length_append, List.length_cons, wtEs, esums]
      omega
    · have hy := ih y (by simp) (hl y (by simp))
      rw [txtE_5]
      simp only [List.length_append, List.length_cons, List.length_nil, wtEs, esums]
      omega

def sp7 : List Kt → Nat
  | [] => 0
  | x :: r => x.2.length + 7 + sp7 r
theorem sp7_app (a b : List Kt) : sp7 (a ++ b) = sp7 a + sp7 b := by
  induction a with
  | nil => simp [sp7]
  | cons x a ih => simp [sp7, ih]; omega
theorem sp7_tail {α : Type} (tk : α → List Kt) (f : α → Nat) : ∀ l : List α, (∀ a ∈ l, sp7 (tk a) + 8 ≤ f a) → sp7 (tailK (l.map tk)) ≤ (l.map f).sum
  | [], _ => by simp [tailK, sp7]
  | a :: l, h => by
    have h1 := h a (by simp)
    have h2 := sp7_tail tk f l (fun b hb => h b (by simp [hb]))
    simp only [List.map_cons, tailK, sp7, sp7_app, List.sum_cons, sgn, List.length_cons, List.length_nil]
    omega
theorem sp7_comma {α : Type} (tk : α → List Kt) (f : α → Nat) (l : List α) (h : ∀ a ∈ l, sp7 (tk a) + 8 ≤ f a) : sp7 (commaK (l.map tk)) ≤ (l.map f).sum := by
  cases l with
  | nil => simp [commaK, sp7]
  | cons a l =>
    have h1 := h a (by simp)
    have h2 := sp7_tail tk f l (fun b hb => h b (by simp [hb]))
    simp only [List.map_cons, commaK, sp7_app, List.sum_cons]
    omega
theorem sp7_br (ts : List Ty) (h : ∀ t ∈ ts, sp7 (toksT t) + 8 ≤ wt t + 30 * csum t) : sp7 (brK (ts.map toksT)) ≤ 16 + wts ts + 30 * csums ts := by
  have h1 := sp7_comma toksT (fun t => wt t + 30 * csum t) ts h
  rw [sum_ts] at h1
  unfold brK
  split
  · simp [sp7]
  · simp only [sp7, sp7_app, sgn, List.length_cons, List.length_nil]; omega
theorem toksT_sz : ∀ t : Ty, sp7 (toksT t) + 8 ≤ wt t + 30 * csum t := by
  intro t
  induction t using Ty.ind with
  | h n ts p ih =>
    have h1 := sp7_br ts ih
    rw [toksT_mk]
    simp only [sp7, wt, csum]
    omega
theorem toksE_sz : ∀ e : Exp, rightE e = true → sp7 (toksE e) + 8 ≤ wtE e + 54 * esum e := by
  intro e
  induction e using Exp.ind with
  | h k n t a l p ih =>
    intro he
    obtain ⟨hl, hc⟩ := right_cases he
    have ht := toksT_sz t
    have htp := csum_pos t
    have hwp := wt_pos t
    have ha := sp7_br a (fun t _ => toksT_sz t)
    have hk := sp7_comma toksE (fun e => wtE e + 54 * esum e) l (fun e he => ih e he (hl e he))
    rw [sum_es] at hk
    rw [wtE_mk]
    simp only [esum]
    rcases hc with ⟨rfl, hn, rfl, -⟩ | ⟨rfl, hn, ⟨y, r, rfl⟩, -⟩ | ⟨rfl, -, -⟩ | ⟨rfl, hn, ⟨y, rfl⟩, -⟩ | ⟨rfl, -, ⟨y, rfl⟩, -⟩
    · rw [toksE_1]; simp only [sp7]; omega
    · have hy := ih y (by simp) (hl y (by simp))
      have hr := sp7_comma toksE (fun e => wtE e + 54 * esum e) r (fun e he => ih e (by simp [he]) (hl e (by simp [he])))
      rw [sum_es] at hr
      rw [toksE_2]
      simp only [sp7, sp7_app, sgn, List.length_cons, List.length_nil, wtEs, esums] at hk ⊢
      omega
    · rw [toksE_3]
      simp only [sp7, sp7_app, sgn, List.length_cons, List.length_nil]
      omega
    · have hy := ih y (by simp) (hl y (by simp))
      rw [toksE_4]
      simp only [sp7, sp7_app, sgn, List.length_cons, List.length_nil, wtEs, esums]
      omega
    · have hy := ih y (by simp) (hl y (by simp))
      rw [toksE_5]
      simp only [sp7, sp7_app, sgn, List.length_cons, List.length_nil, wtEs, esums]
      omega

theorem wt_st : ∀ t : Ty, wt (stT t) = wt t := by
  intro t
  induction t using Ty.ind with
  | h n ts p ih =>
    have key : ∀ l : List Ty, (∀ t ∈ l, wt (stT t) = wt t) → wts (l.map stT) = wts l := by
      intro l
      induction l with
      | nil => intro _; rfl
      | cons t l ihl => intro h; simp only [List.map_cons, wts, h t (by simp), ihl (fun z hz => h z (by simp [hz]))]
    rw [stT_mk]; simp only [wt, key ts ih]
theorem wts_st (l : List Ty) : wts (l.map stT) = wts l := by
  induction l with
  | nil => rfl
  | cons t l ih => simp only [List.map_cons, wts, wt_st, ih]
theorem wtE_st : ∀ e : Exp, wtE (stE e) = wtE e := by
  intro e
  induction e using Exp.ind with
  | h k n t a l p ih =>
    have key : ∀ l : List Exp, (∀ t ∈ l, wtE (stE t) = wtE t) → wtEs (l.map stE) = wtEs l := by
      intro l
      induction l with
      | nil => intro _; rfl
      | cons t l ihl => intro h; simp only [List.map_cons, wtEs, h t (by simp), ihl (fun z hz => h z (by simp [hz]))]
    rw [stE_mk, wtE_mk, wtE_mk, wt_st, wts_st, key l ih]

theorem end_at {c : Cur} (h : At c [(3, [])]) : endC c = c ∧ c.err = none := by
  refine ⟨?_, h.1⟩
  have hf : c.first.1 = 3 := by
    unfold Cur.first
    rw [h.1]
    cases hl : c.l with
    | nil => rfl
    | cons t l =>
      have := h.2
      rw [hl] at this
      simp only [List.map_cons, List.cons.injEq, ktOf, Prod.mk.injEq] at this
      exact this.1.1
  simp [endC, hf]
theorem whole_back {α : Type} (ft : Nat) (none_ : α) (rc : List Tk → α × Cur) (s : Str) (k : List Kt) (hs : s.length ≤ 65536) (hk : tkK s = some k) (h : ∀ l, l.map ktOf = k → At (rc l).2 [(3, [])]) : ∃ l, l.map ktOf = k ∧ wholeC ft none_ rc s = ((rc l).1, .nilIface) := by
  obtain ⟨l, n, h1, h2⟩ := lexT_of hs hk
  have h3 := end_at (h l h2)
  refine ⟨l, h2, ?_⟩
  unfold wholeC
  rw [h1]
  simp [h3.1, h3.2]
theorem back_type (ft : Nat) {t : Ty} (ht : rightT t = true) (hc : csum t ≤ 1000) : ∃ u, wholeC ft ty0 rdT (txt t) = (u, .nilIface) ∧ cmpT u t = 0 ∧ wt u = wt t := by
  have h1 := lx_txt t ht [] (.inl rfl)
  rw [tkK_nil, List.append_nil] at h1
  have hl := txt_sz t
  have hw := wt_sum t
  have hb : ∀ l : List Tk, l.map ktOf = toksT t ++ [(3, [])] → stT (rdT l).1 = stT t ∧ At (rdT l).2 [(3, [])] := fun l hl =>
    type_bk t ht (l.length + 1) ⟨l, none⟩ [(3, [])] ⟨rfl, hl⟩ (by simp [okK, nx]) (Nat.lt_succ_self _)
  obtain ⟨l, h2, h3⟩ := whole_back ft ty0 rdT (txt t) _ (by omega) h1 (fun l hl => (hb l hl).2)
  have h4 := (hb l h2).1
  exact ⟨_, h3, (cmpT_st _ _).2 h4, by rw [← wt_st, h4, wt_st]⟩
theorem back_expr (ft : Nat) {e : Exp} (he : rightE e = true) (s : Str) (hs : s.length ≤ 65536) (h1 : tkK s = some (toksE e ++ [(3, [])])) : ∃ x, wholeC ft ex0 rdE s = (x, .nilIface) ∧ sameE x e = true ∧ wtE x = wtE e := by
  have hb : ∀ l : List Tk, l.map ktOf = toksE e ++ [(3, [])] → stE (rdE l).1 = stE e ∧ At (rdE l).2 [(3, [])] := fun l hl =>
    expr_back he (n := l.length + 1) (c := ⟨l, none⟩) ⟨rfl, hl⟩ (by simp [okE, okA, nx]) (Nat.lt_succ_self _)
  obtain ⟨l, h2, h3⟩ := whole_back ft ex0 rdE s _ hs h1 (fun l hl => (hb l hl).2)
  have h4 := (hb l h2).1
  exact ⟨_, h3, (sameE_st _ _).2 h4, by rw [← wtE_st, h4, wtE_st]⟩
theorem txtE_toks {e : Exp} (he : rightE e = true) : tkK (txtE e) = some (toksE e ++ [(3, [])]) := by
  have h1 := lx_txtE e he [] (.inl rfl)
  rw [tkK_nil, List.append_nil] at h1
  exact h1

def spc (b : Bool) : Str := 9 :: (if b then [47, 47, 32, 120, 46, 10] else [])
def spT (b : Bool) (l : List Kt) : Str := l.flatMap fun x => x.2 ++ spc b
theorem spc_skip (b : Bool) (x : Str) : tkK (spc b ++ x) = tkK x := by
  unfold spc
  rw [List.cons_append, tkK_cons, if_pos (by decide)]
  cases b with
  | false => rfl
  | true =>
    have := tkK_comment [32, 120, 46] x (by decide)
    have e : tkK (47 :: 47 :: 32 :: 120 :: 46 :: 10 :: x) = tkK (10 :: x) := by
      rw [tkK_cons, if_neg (by decide), if_pos (by simp [Lib.hasPrefix])]
      have : nlN (47 :: 47 :: 32 :: 120 :: 46 :: 10 :: x) = 5 := by
        have := nlN_app [47, 47, 32, 120, 46] x (by decide)
        simpa using this
      rw [this]; rfl
    show tkK (47 :: 47 :: 32 :: 120 :: 46 :: 10 :: x) = tkK x
    rw [e, tkK_cons, if_pos (by decide)]
theorem spT_lex (b : Bool) {l : List Kt} (h : TkL l) : tkK (spT b l) = some l := by
  induction h with
  | nil =>
    have := spc_skip b []
    rw [List.append_nil] at this
    simpa [spT, tkK_nil] using this
  | word w l hw hl ih =>
    obtain ⟨c, r, rfl, hc, hall⟩ := hw
    have e : spT b ((1, c :: r) :: l) = (c :: r) ++ (spc b ++ spT b l) := by simp [spT]
    have hp : ¬ Lib.hasPrefix (c :: (r ++ (spc b ++ spT b l))) [47, 47] = true := fun hp => by
      have := pre_ne hp
      subst this
      revert hc; decide
    have hwn := wordN_end (c :: r) (spc b ++ spT b l) (List.all_eq_true.2 hall) (by unfold spc; exact endB_c (by decide))
    rw [List.cons_append] at hwn
    rw [e, List.cons_append, tkK_cons, if_neg (by omega), if_neg hp, if_pos hc, hwn]
    have e1 : (c :: (r ++ (spc b ++ spT b l))).drop (c :: r).length = spc b ++ spT b l := by rw [← List.cons_append]; simp
    have e2 : (c :: (r ++ (spc b ++ spT b l))).take (c :: r).length = c :: r := by rw [← List.cons_append]; simp
    rw [e1, e2, spc_skip, ih]; rfl
  | sign c l hc hl ih =>
    have e : spT b ((2, [c]) :: l) = c :: (spc b ++ spT b l) := by simp [spT]
    rw [e, lx_sign hc, spc_skip, ih]; rfl
theorem spT_len (b : Bool) : ∀ l : List Kt, (spT b l).length ≤ sp7 l
  | [] => by simp [spT, sp7]
  | x :: l => by
    have h1 := spT_len b l
    have h2 : (spc b).length ≤ 7 := by cases b <;> simp [spc]
    have e : spT b (x :: l) = x.2 ++ spc b ++ spT b l := by simp [spT]
    rw [e, List.length_append, List.length_append, sp7]; omega
theorem sp7_take (l : List Kt) (k : Nat) : sp7 (l.take k) ≤ sp7 l := by
  conv => rhs; rw [← List.take_append_drop k l]
  rw [sp7_app]; omega
theorem spT_take (b : Bool) {l : List Kt} {k : Nat} (h : k < l.length) : spT b (l.take (k + 1)) = spT b (l.take k) ++ l[k].2 ++ spc b := by
  unfold spT
  rw [List.take_succ_eq_append_getElem h, List.flatMap_append, List.flatMap_cons, List.flatMap_nil, List.append_nil, List.append_assoc]
theorem few_csum {t : Ty} (h : cnt t 0 ≤ 200) : csum t ≤ 200 := by
  have := (cnt_sum t 0).2 (by omega)
  omega
theorem few_esum {e : Exp} (h : cntE e 0 ≤ 250) : esum e ≤ 250 := by
  have := (cntE_sum e 0).2 (by omega)
  omega
end Go.Pv
end
