/- Any order. -/
import Derived.Test.YtoehgdamenpclaaDoorPvM
namespace Go.Pv
open Go

section
variable {P : Program} {gl : Gl} {ops : Array Oper} {K : AS → Prop}

def anyA (P : Program) (gl : Gl) (ops : Array Oper) (K : AS → Prop) : Nat → Array Bool → AS → Prop
  | 0, listed, σ => Region.ready .any ops listed = [] ∧ K σ
  | fuel + 1, listed, σ => (Region.ready .any ops listed = [] → K σ) ∧
      ∀ i ∈ Region.ready .any ops listed, ∃ o, ops[i]? = some o ∧ nextVd P gl ops o σ (anyA P gl ops K fuel (listed.setIfInBounds i true))

theorem anyA_eqv (hK : ∀ s s', Eqv s s' → K s → K s') : ∀ (fuel : Nat) (listed : Array Bool) (σ σ' : AS), Eqv σ σ' → anyA P gl ops K fuel listed σ → anyA P gl ops K fuel listed σ'
  | 0, _, _, _, h, ha => ⟨ha.1, hK _ _ h ha.2⟩
  | fuel + 1, listed, σ, σ', h, ha => ⟨fun h0 => hK _ _ h (ha.1 h0), fun i hi => by
      obtain ⟨o, ho, hn⟩ := ha.2 i hi
      exact ⟨o, ho, nextVd_eqv h (fun s s' hs hk => anyA_eqv hK fuel _ s s' hs hk) hn⟩⟩

def YA (P : Program) (gl : Gl) (ops : Array Oper) (o : Oper) (σ : AS) (x : TV) : Prop :=
  dstOk P o σ = true ∧ ((guardB ops o σ = some true ∧ ((∃ c, opR P gl σ o = .val c x ∧ c) ∨ ∃ f args r, opR P gl σ o = .call f args ∧ (gl.y = none ∧ Valid P gl f args r) ∧ x = .v r none)) ∨
    (guardB ops o σ = some false ∧ x = .v (.tup []) none))

theorem YA_of_next {o : Oper} {σ : AS} {K : AS → Prop} (hq : quietOp o = true) (h : nextVd P gl ops o σ K) : ∃ x, YA P gl ops o σ x ∧ K (σ.put o.dst x) := by
  obtain ⟨hd, h⟩ := h
  cases hg : guardB ops o σ with
  | none => rw [hg] at h; exact h.elim
  | some b =>
    rw [hg] at h
    cases b with
    | false => exact ⟨_, ⟨hd, .inr ⟨hg, rfl⟩⟩, h⟩
    | true =>
      simp only [] at h
      cases hr : opR P gl σ o with
      | stuck => rw [hr] at h; exact h.elim
      | val c x => rw [hr] at h; exact ⟨x, ⟨hd, .inl ⟨hg, .inl ⟨c, hr, h.1⟩⟩⟩, h.2⟩
      | eff c s => rw [hr] at h; have := h.1; rw [hq] at this; cases this
      | call f args => rw [hr] at h; obtain ⟨r, h1, h2⟩ := h; exact ⟨_, ⟨hd, .inl ⟨hg, .inr ⟨f, args, r, hr, h1, rfl⟩⟩⟩, h2⟩
      | callB f args ks => rw [hr] at h; exact h.elim
      | yld l x => rw [hr] at h; exact h.elim

theorem next_of_YA {o : Oper} {σ : AS} {K : AS → Prop} {x : TV} (h : YA P gl ops o σ x) (hk : K (σ.put o.dst x)) : nextVd P gl ops o σ K := by
  obtain ⟨hd, ⟨hg, ⟨c, hr, hc⟩ | ⟨f, args, r, hr, hv, rfl⟩⟩ | ⟨hg, rfl⟩⟩ := h
  · exact ⟨hd, by rw [hg]; simp only []; rw [hr]; exact ⟨hc, hk⟩⟩
  · exact ⟨hd, by rw [hg]; simp only []; rw [hr]; exact ⟨r, hv, hk⟩⟩
  · exact ⟨hd, by rw [hg]; exact hk⟩

theorem YA.sees {o : Oper} {σ σ' : AS} {x : TV} (hq : quietOp o = true) (h : YA P gl ops o σ x) (hs : Sees gl ops o σ σ') : YA P gl ops o σ' x := by
  unfold YA at *
  rw [hs.dst, hs.guard, hs.opR hq]
  exact h

theorem sees_put {o : Oper} {σ : AS} (hh : σ.hint = []) {d : Option Nat} (x : TV) (hd : ∀ t, d = some t → t ∉ o.looksAt ops) : Sees gl ops o σ (σ.put d x) := by
  cases d with
  | none => exact ⟨⟨rfl, rfl, rfl⟩, rfl, fun _ _ => rfl, rfl, rfl, rfl, hh, hh⟩
  | some t =>
    refine ⟨⟨rfl, rfl, rfl⟩, rfl, fun s hs => ?_, rfl, rfl, rfl, hh, hh⟩
    have : t ≠ s := fun e => hd t rfl (e ▸ hs)
    simp [AS.get, AS.put, look, this]

theorem Sees.symm {o : Oper} {σ σ' : AS} (h : Sees gl ops o σ σ') : Sees gl ops o σ' σ := ⟨⟨h.ex.1.symm, h.ex.2.1.symm, h.ex.2.2.symm⟩, h.n.symm, fun t ht => (h.tm t ht).symm, h.bx.symm, h.tb.symm, h.sh.symm, h.hint.2, h.hint.1⟩

theorem put_hint {σ : AS} (h : σ.hint = []) (d : Option Nat) (x : TV) : (σ.put d x).hint = [] := by cases d <;> exact h

/-- j comes after i. -/
inductive Reach (ops : Array Oper) : Nat → Nat → Prop
  | one (j i : Nat) (o : Oper) (ho : ops[j]? = some o) (e : Edge) (he : e ∈ o.after) (hb : Region.binds .any e = true) (hi : e.on = i) : Reach ops j i
  | step (j k i : Nat) (o : Oper) (ho : ops[j]? = some o) (e : Edge) (he : e ∈ o.after) (hb : Region.binds .any e = true) (hk : e.on = k) (h : Reach ops k i) : Reach ops j i

/-- What has been carried out has all before it carried out. -/
def DC (ops : Array Oper) (listed : Array Bool) : Prop := ∀ j o, ops[j]? = some o → listed.getD j false = true → ∀ e ∈ o.after, Region.binds .any e = true → listed.getD e.on false = true

theorem DC.reach {listed : Array Bool} (h : DC ops listed) {j i : Nat} (hr : Reach ops j i) (hj : listed.getD j false = true) : listed.getD i false = true := by
  induction hr with
  | one j i o ho e he hb hi => subst hi; exact h j o ho hj e he hb
  | step j k i o ho e he hb hk hr ih => subst hk; exact ih (h j o ho hj e he hb)

theorem DC.ready {listed : Array Bool} (h : DC ops listed) {j i : Nat} (hr : Reach ops j i) (hj : j ∈ Region.ready .any ops listed) : listed.getD i false = true := by
  obtain ⟨_, o', ho', hall⟩ := mem_ready.1 hj
  cases hr with
  | one j i o ho e he hb hi =>
    rw [ho'] at ho; injection ho with ho; subst ho; subst hi
    exact hall e he hb
  | step j k i o ho e he hb hk hr =>
    rw [ho'] at ho; injection ho with ho; subst ho; subst hk
    exact h.reach hr (hall e he hb)

theorem DC.set {listed : Array Bool} (h : DC ops listed) {j : Nat} (hj : j ∈ Region.ready .any ops listed) : DC ops (listed.setIfInBounds j true) := by
  obtain ⟨_, oj, hoj, hall⟩ := mem_ready.1 hj
  intro k o ho hk e he hb
  refine getD_set_true ?_
  by_cases hkj : j = k
  · subst hkj
    rw [hoj] at ho; injection ho with ho; subst ho
    exact hall e he hb
  · rw [getD_set_ne false hkj] at hk
    exact h k o ho hk e he hb

theorem unlisted {listed : Array Bool} {i : Nat} (h : listed.getD i true = false) : ¬ listed.getD i false = true := by
  rcases Nat.lt_or_ge i listed.size with h' | h'
  · simp [h'] at h ⊢; exact h
  · simp [Array.getElem?_eq_none h']

/-- A quiet operation that may come first may be taken first. -/
theorem anyA_first {i : Nat} {oi : Oper} {x : TV} (hi : ops[i]? = some oi) (hqi : quietOp oi = true) (hK : ∀ s s', Eqv s s' → K s → K s') : ∀ (fuel : Nat) (listed : Array Bool) (σ : AS), σ.hint = [] → DC ops listed →
    (∀ j oj, ops[j]? = some oj → j ≠ i → listed.getD j true = false → Reach ops j i ∨ (quietOp oj = true ∧ oi.apart ops oj = true)) →
    i ∈ Region.ready .any ops listed → YA P gl ops oi σ x → anyA P gl ops K fuel (listed.setIfInBounds i true) (σ.put oi.dst x) → anyA P gl ops K (fuel + 1) listed σ := by
  intro fuel
  induction fuel with
  | zero =>
    intro listed σ hh hdc hfree hr hy H
    refine ⟨fun h => (by rw [h] at hr; cases hr), fun j hj => ?_⟩
    by_cases hji : j = i
    · subst hji; exact ⟨oi, hi, next_of_YA hy H⟩
    · have := ready_mono hj hji
      rw [H.1] at this
      cases this
  | succ fuel ih =>
    intro listed σ hh hdc hfree hr hy H
    refine ⟨fun h => (by rw [h] at hr; cases hr), fun j hj => ?_⟩
    by_cases hji : j = i
    · subst hji; exact ⟨oi, hi, next_of_YA hy H⟩
    · obtain ⟨hjun, oj', hoj', _⟩ := mem_ready.1 hj
      obtain ⟨oj, hoj, h1⟩ := H.2 j (ready_mono hj hji)
      have hiun := (mem_ready.1 hr).1
      rcases hfree j oj hoj hji hjun with hreach | ⟨hqj, hap⟩
      · exact absurd (hdc.ready hreach hj) (unlisted hiun)
      · obtain ⟨a1, a2, a3⟩ := Oper.apart_spec hap
        have hs1 : Sees gl ops oj σ (σ.put oi.dst x) := sees_put hh x a1
        obtain ⟨y, hyj, hk⟩ := YA_of_next hqj h1
        have hyj' : YA P gl ops oj σ y := hyj.sees hqj hs1.symm
        refine ⟨oj, hoj, next_of_YA hyj' ?_⟩
        refine ih (listed.setIfInBounds j true) (σ.put oj.dst y) (put_hint hh _ _) (hdc.set hj) ?_ (ready_mono hr (Ne.symm hji)) (hy.sees hqi (sees_put hh y a3)) ?_
        · intro k ok hk' hki hun
          refine hfree k ok hk' hki ?_
          by_cases hjk : j = k
          · subst hjk; exact hjun
          · rw [getD_set_ne true hjk] at hun; exact hun
        · rw [Array.setIfInBounds_comm _ _ hji]
          refine anyA_eqv hK fuel _ _ _ ?_ hk
          exact Eqv.swap hh x y (fun t ht hd => a2 t ht hd)

/-! ### The check on a region -/
def edgesOf (o : Oper) : List Nat := (o.after.toList.filter fun e => Region.binds .any e).map (·.on)

def maskOf (acc : List Nat) (es : List Nat) : Nat := es.foldl (fun m e => m ||| (2 ^ e ||| acc.getD e 0)) 0

def masks : List Oper → List Nat → List Nat
  | [], acc => acc
  | o :: r, acc => masks r (acc ++ [maskOf acc (edgesOf o)])

theorem foldl_or (f : Nat → Nat) (i : Nat) : ∀ (es : List Nat) (m : Nat), (es.foldl (fun m e => m ||| f e) m).testBit i = true → m.testBit i = true ∨ ∃ e ∈ es, (f e).testBit i = true
  | [], m, h => .inl h
  | e :: es, m, h => by
    rcases foldl_or f i es _ h with h | ⟨e', he, h⟩
    · rw [Nat.testBit_or, Bool.or_eq_true] at h
      rcases h with h | h
      · exact .inl h
      · exact .inr ⟨e, by simp, h⟩
    · exact .inr ⟨e', by simp [he], h⟩

theorem mask_spec {acc : List Nat} {j : Nat} {o : Oper} (ho : ops[j]? = some o) (hacc : ∀ k i, (acc.getD k 0).testBit i = true → Reach ops k i) {i : Nat} (h : (maskOf acc (edgesOf o)).testBit i = true) : Reach ops j i := by
  rcases foldl_or _ i _ _ h with h | ⟨e, he, h⟩
  · simp at h
  · obtain ⟨ed, hed, rfl⟩ := List.mem_map.1 he
    obtain ⟨h1, h2⟩ := List.mem_filter.1 hed
    have h1' : ed ∈ o.after := by simpa using h1
    rw [Nat.testBit_or, Bool.or_eq_true] at h
    rcases h with h | h
    · rw [Nat.testBit_two_pow] at h
      exact .one j i o ho ed h1' h2 (by simpa using h)
    · exact .step j ed.on i o ho ed h1' h2 rfl (hacc _ _ h)

theorem masks_spec : ∀ (l : List Oper) (acc : List Nat), (∀ j, l[j]? = ops[acc.length + j]?) → (∀ k i, (acc.getD k 0).testBit i = true → Reach ops k i) → ∀ k i, ((masks l acc).getD k 0).testBit i = true → Reach ops k i
  | [], acc, _, h, k, i, hk => h k i hk
  | o :: l, acc, hl, h, k, i, hk => by
    refine masks_spec l (acc ++ [maskOf acc (edgesOf o)]) (fun j => ?_) (fun k' i' hk' => ?_) k i hk
    · have := hl (j + 1)
      simpa [Nat.add_assoc, Nat.add_comm 1 j] using this
    · have h0 : ops[acc.length]? = some o := by simpa using (hl 0).symm
      rw [List.getD_eq_getElem?_getD] at hk'
      rcases Nat.lt_trichotomy k' acc.length with hlt | heq | hgt
      · rw [List.getElem?_append_left hlt] at hk'
        exact h k' i' (by rw [List.getD_eq_getElem?_getD]; exact hk')
      · subst heq
        rw [List.getElem?_append_right (Nat.le_refl _)] at hk'
        simp only [Nat.sub_self, List.getElem?_cons_zero, Option.getD_some] at hk'
        exact mask_spec h0 h hk'
      · rw [List.getElem?_eq_none (by simp; omega)] at hk'
        simp at hk'

def pairOk (ops : Array Oper) (ms : List Nat) (i : Nat) (oi : Oper) (j : Nat) (oj : Oper) : Bool :=
  (ms.getD j 0).testBit i || (quietOp oi && quietOp oj && oi.apart ops oj)

def rowOk (ops : Array Oper) (ms : List Nat) (i : Nat) (oi : Oper) : Nat → List Oper → Bool
  | _, [] => true
  | j, oj :: r => pairOk ops ms i oi j oj && rowOk ops ms i oi (j + 1) r

def allOk (ops : Array Oper) (ms : List Nat) : Nat → List Oper → Bool
  | _, [] => true
  | i, o :: r => (edgesOf o).all (fun e => decide (e < i)) && rowOk ops ms i o (i + 1) r && allOk ops ms (i + 1) r

/-- The order of the text may stand for every order. -/
def lexOk (ops : Array Oper) : Bool := allOk ops (masks ops.toList []) 0 ops.toList

theorem rowOk_spec {ms : List Nat} {i : Nat} {oi : Oper} : ∀ (r : List Oper) (j : Nat), rowOk ops ms i oi j r = true → ∀ k o, r[k]? = some o → pairOk ops ms i oi (j + k) o = true
  | [], _, _, k, o, h => by simp at h
  | o' :: r, j, h, k, o, hk => by
    simp only [rowOk, Bool.and_eq_true] at h
    cases k with
    | zero => simp at hk; subst hk; exact h.1
    | succ k =>
      have := rowOk_spec r (j + 1) h.2 k o (by simpa using hk)
      rwa [show j + 1 + k = j + (k + 1) by omega] at this

def RVd (P : Program) (gl : Gl) (ops : Array Oper) : List Oper → AS → (AS → Prop) → Prop
  | [], σ, K => K σ
  | o :: rest, σ, K => nextVd P gl ops o σ fun σ' => RVd P gl ops rest σ' K

theorem eff_hint {o : Oper} {σ : AS} {K : AS → Prop} (hh : σ.hint = []) (h : nextVd P gl ops o σ K) : nextVd P gl ops o σ fun s => s.hint = [] ∧ K s := by
  have e : Eqv σ σ := ⟨⟨rfl, rfl, rfl⟩, rfl, fun _ => rfl, rfl, rfl, rfl, hh, hh⟩
  exact nextVd_eqv' e h
where
  nextVd_eqv' {o : Oper} {σ : AS} {K : AS → Prop} (e : Eqv σ σ) (hn : nextVd P gl ops o σ K) : nextVd P gl ops o σ fun s => s.hint = [] ∧ K s := by
    refine ⟨hn.1, ?_⟩
    have hn := hn.2
    cases hg : guardB ops o σ with
    | none => rw [hg] at hn; exact hn
    | some b =>
      rw [hg] at hn
      cases b with
      | false => exact ⟨put_hint e.hint.1 _ _, hn⟩
      | true =>
        simp only [] at hn ⊢
        cases hr : opR P gl σ o with
        | stuck => rw [hr] at hn; exact hn
        | val c x => rw [hr] at hn; exact ⟨hn.1, put_hint e.hint.1 _ _, hn.2⟩
        | call f args => rw [hr] at hn; obtain ⟨r, h1, h2⟩ := hn; exact ⟨r, h1, put_hint e.hint.1 _ _, h2⟩
        | callB f args ks => rw [hr] at hn; exact hn.elim
        | yld l x => rw [hr] at hn; exact hn.elim
        | eff c s =>
          rw [hr] at hn
          refine ⟨hn.1, hn.2.1, ?_, hn.2.2⟩
          rcases opR_eqv (P := P) (gl := gl) e hn.1 with ⟨c', s1, s2, h1, h2, h3⟩ | h1
          · rw [hr] at h1; injection h1 with _ h1; subst h1; exact h3.hint.1
          · rw [hr] at h1; cases h1

theorem anyA_lex (hK : ∀ s s', Eqv s s' → K s → K s') : ∀ (l : List Oper) (k : Nat) (listed : Array Bool) (σ : AS), (∀ j, l[j]? = ops[k + j]?) → allOk ops (masks ops.toList []) k l = true → listed.size = ops.size → k + l.length = ops.size →
    (∀ j, j < ops.size → listed.getD j true = decide (j < k)) → DC ops listed → σ.hint = [] → RVd P gl ops l σ K → anyA P gl ops K l.length listed σ
  | [], k, listed, σ, _, _, hsz, hlen, hlist, _, _, h => by
    refine ⟨?_, h⟩
    cases hr : Region.ready .any ops listed with
    | nil => rfl
    | cons i r =>
      have hi : i ∈ Region.ready .any ops listed := by rw [hr]; simp
      obtain ⟨h1, o, ho, _⟩ := mem_ready.1 hi
      have hlt := (Array.getElem?_eq_some_iff.1 ho).1
      rw [hlist i hlt] at h1
      simp at hlen h1
      omega
  | o :: l, k, listed, σ, hl, hB, hsz, hlen, hlist, hdc, hh, h => by
    have h0 : ops[k]? = some o := by simpa using (hl 0).symm
    have hlt := (Array.getElem?_eq_some_iff.1 h0).1
    simp only [allOk, Bool.and_eq_true] at hB
    obtain ⟨⟨hedge, hrow⟩, hB'⟩ := hB
    have hgetf : ∀ j, j < ops.size → listed.getD j false = decide (j < k) := fun j hj => by
      rw [← hlist j hj]
      have : j < listed.size := by omega
      simp [this]
    have hready : k ∈ Region.ready .any ops listed := by
      refine mem_ready.2 ⟨by rw [hlist k hlt]; simp, o, h0, fun e he hb => ?_⟩
      have : e.on < k := by
        have := List.all_eq_true.1 hedge e.on (List.mem_map.2 ⟨e, List.mem_filter.2 ⟨by simpa using he, hb⟩, rfl⟩)
        simpa using this
      rw [hgetf e.on (by omega)]
      simpa using this
    have hpair : ∀ j oj, ops[j]? = some oj → j ≠ k → listed.getD j true = false → Reach ops j k ∨ (quietOp o = true ∧ quietOp oj = true ∧ o.apart ops oj = true) := by
      intro j oj hj hne hun
      have hjlt := (Array.getElem?_eq_some_iff.1 hj).1
      rw [hlist j hjlt] at hun
      simp only [decide_eq_false_iff_not] at hun
      obtain ⟨d, rfl⟩ : ∃ d, j = k + 1 + d := ⟨j - (k + 1), by omega⟩
      have hd : l[d]? = some oj := by
        have := hl (d + 1)
        rw [show k + (d + 1) = k + 1 + d by omega, hj] at this
        simpa using this
      have := rowOk_spec l (k + 1) hrow d oj hd
      simp only [pairOk, Bool.or_eq_true, Bool.and_eq_true] at this
      rcases this with h | h
      · exact .inl (masks_spec ops.toList [] (by simp) (by simp) _ _ h)
      · exact .inr ⟨h.1.1, h.1.2, h.2⟩
    have hlist' : ∀ j, j < ops.size → (listed.setIfInBounds k true).getD j true = decide (j < k + 1) := by
      intro j hj
      by_cases hjk : k = j
      · subst hjk
        have : k < listed.size := by omega
        simp [this]
      · rw [getD_set_ne true hjk, hlist j hj]
        congr 1
        apply propext
        omega
    have hl' : ∀ j, l[j]? = ops[k + 1 + j]? := fun j => by
      have := hl (j + 1)
      simpa [Nat.add_assoc, Nat.add_comm 1 j] using this
    have hsz' : (listed.setIfInBounds k true).size = ops.size := by simpa using hsz
    have hlen' : k + 1 + l.length = ops.size := by simp at hlen; omega
    by_cases hq : quietOp o = true
    · obtain ⟨x, hy, hk⟩ := YA_of_next hq h
      have := anyA_lex hK l (k + 1) (listed.setIfInBounds k true) (σ.put o.dst x) hl' hB' hsz' hlen' hlist' (hdc.set hready) (put_hint hh _ _) hk
      exact anyA_first h0 hq hK l.length listed σ hh hdc (fun j oj hj hne hun => (hpair j oj hj hne hun).imp id (fun h => h.2)) hready hy this
    · refine ⟨fun h => (by rw [h] at hready; cases hready), fun j hj => ?_⟩
      by_cases hjk : j = k
      · subst hjk
        refine ⟨o, h0, ?_⟩
        have h2 := eff_hint hh h
        refine nextVd_eqv ⟨⟨rfl, rfl, rfl⟩, rfl, fun _ => rfl, rfl, rfl, rfl, hh, hh⟩ (fun s s' hs hk => ?_) h2
        refine anyA_eqv hK _ _ _ _ hs ?_
        exact anyA_lex hK l (j + 1) (listed.setIfInBounds j true) s hl' hB' hsz' hlen' hlist' (hdc.set hready) hk.1 hk.2
      · obtain ⟨hun, oj, hoj, _⟩ := mem_ready.1 hj
        rcases hpair j oj hoj hjk hun with h1 | h1
        · have := hdc.ready h1 hj
          rw [hgetf k hlt] at this
          simp at this
        · exact absurd h1.1 hq

end

theorem R.eqv {cx : Cx} {σ σ' : AS} {a : Act} {w : World} (h : R cx σ a w) (e : Eqv σ σ') : R cx σ' a w := by
  obtain ⟨gh, r⟩ := h
  refine ⟨gh, r.weak ⟨e.n, fun t x hx => ?_, fun k c hk => by rw [← e.bx]; exact hk, fun q hq => ?_, fun b c hb => by rw [← e.sh]; exact hb, e.ex.1, e.ex.2.1, e.ex.2.2⟩⟩
  · rw [e.tm t] at hx
    refine ⟨hx, fun k o hx' => ?_⟩
    rw [e.bx]
    exact (r.tmps t x hx).2 k o hx'
  · rw [e.tb] at hq
    refine ⟨hq, ?_⟩
    rw [e.bx]
    exact (r.tbs q.1 q.2.1 q.2.2.1 q.2.2.2 hq).1

theorem R.setHint {cx : Cx} {σ : AS} {a : Act} {w : World} (h : R cx σ a w) (hint : List (Nat × Nat)) : R cx { σ with hint := hint } a w := by
  obtain ⟨gh, r⟩ := h
  exact ⟨gh, ⟨r.frm, r.base, r.limB, r.size, r.ex.sub (fun _ _ _ h => h) rfl rfl, r.gl, r.tmps, r.boxes, r.inj, r.shs, r.apart, r.tbs, r.own, r.alone⟩⟩

theorem R.drew {cx : Cx} {σ : AS} {a : Act} {w : World} (h : R cx σ a w) (n : Nat) : R cx σ a { w with drawn := n } := by
  obtain ⟨gh, r⟩ := h
  exact ⟨_, r.drew n⟩

theorem anyA_sound {cx : Cx} {ro : Option Nat} {n : Nat} {ops : Array Oper} {Q : Exit → Act → World → Prop} {K : AS → Prop} (hQ : ∀ σ a w, K σ → R cx σ a w → Q .normal a w) :
    ∀ (fuel : Nat) (listed : Array Bool) (σ : AS) (a : Act) (w : World), R cx σ a w → anyA cx.P cx.gl ops K fuel listed σ → wpAnyIn (Fw ro) n cx.P .any ops Q fuel listed a w
  | 0, listed, σ, a, w, r, h => ⟨h.1, hQ σ a w h.2 r⟩
  | fuel + 1, listed, σ, a, w, r, h => ⟨fun h0 => hQ σ a w (h.1 h0) r, fun i hi => by
      obtain ⟨o, ho, hn⟩ := h.2 i hi
      refine wpOpIn_mono (fun a' w' hh => ?_) (opIn_sound (ro := ro) (n := n) (Q := Q) ho r (nextV_of hn))
      obtain ⟨σ', hk, r'⟩ := hh
      exact anyA_sound hQ fuel _ σ' a' w' r' hk⟩

theorem region_draw_sound {cx : Cx} {ro : Option Nat} {n : Nat} {id : Nat} {ops : Array Oper} {Q : Exit → Act → World → Prop} {K : AS → Prop} {σ : AS} {a : Act} {w : World} (hm : cx.P.follows .mixedOrders = true) (hok : lexOk ops = true)
    (hQ : ∀ s a w, K s → R cx s a w → Q .normal a w) (r : R cx σ a w) (h : RVd cx.P cx.gl ops ops.toList { σ with hint := [] } fun s => K { s with hint := σ.hint }) : (Code.region id ops true).wpIn (Fw ro) n cx.P Q a w := by
  refine wpIn_region_any hm ?_
  let K' : AS → Prop := fun s => ∃ s0, Eqv s0 s ∧ K { s0 with hint := σ.hint }
  have hK' : ∀ s s', Eqv s s' → K' s → K' s' := fun s s' e ⟨s0, e0, hk⟩ =>
    ⟨s0, ⟨⟨e.ex.1.trans e0.ex.1, e.ex.2.1.trans e0.ex.2.1, e.ex.2.2.trans e0.ex.2.2⟩, e.n.trans e0.n, fun t => (e.tm t).trans (e0.tm t), e.bx.trans e0.bx, e.tb.trans e0.tb, e.sh.trans e0.sh, e0.hint.1, e.hint.2⟩, hk⟩
  have hmono : ∀ (l : List Oper) (s : AS), s.hint = [] → RVd cx.P cx.gl ops l s (fun s => K { s with hint := σ.hint }) → RVd cx.P cx.gl ops l s K' := by
    intro l
    induction l with
    | nil => intro s hs h; exact ⟨s, ⟨⟨rfl, rfl, rfl⟩, rfl, fun _ => rfl, rfl, rfl, rfl, hs, hs⟩, h⟩
    | cons o l ih =>
      intro s hs h
      have h2 := eff_hint hs h
      exact nextVd_eqv ⟨⟨rfl, rfl, rfl⟩, rfl, fun _ => rfl, rfl, rfl, rfl, hs, hs⟩ (fun s1 s2 e hk => by
        have h3 := ih s1 hk.1 hk.2
        exact RVd_eqv hK' l s1 s2 e h3) h2
  have h' := hmono ops.toList _ rfl h
  have ha := anyA_lex hK' ops.toList 0 (Array.replicate ops.size false) { σ with hint := [] } (by simp) hok (by simp) (by simp) (fun j hj => by simp [hj]) (fun j o _ hj => by rw [Array.getD_eq_getD_getElem?, Array.getElem?_replicate] at hj; split at hj <;> simp at hj) rfl h'
  have hs := anyA_sound (ro := ro) (n := n) (Q := Q) (fun s a w ⟨s0, e0, hk⟩ r => hQ _ a w hk ((r.eqv e0.symm).setHint σ.hint)) _ _ _ a _ ((r.setHint []).drew (w.drawn + 1)) ha
  simpa using hs
where
  RVd_eqv {cx : Cx} {ops : Array Oper} {K : AS → Prop} (hK : ∀ s s', Eqv s s' → K s → K s') : ∀ (l : List Oper) (s s' : AS), Eqv s s' → RVd cx.P cx.gl ops l s K → RVd cx.P cx.gl ops l s' K
    | [], s, s', e, h => hK s s' e h
    | o :: l, s, s', e, h => nextVd_eqv e (fun s1 s2 e1 hk => RVd_eqv hK l s1 s2 e1 hk) h

end Go.Pv
