import Derived.Test.YtghmdnfdocdgfaaDoorPvB
set_option linter.all false
section
/- What the operations on memory do to the abstract state. -/
namespace Go.Pv
open Go

def limUp (lim : Lim) (n : Nat) : Lim := fun b => if b < n then lim b else .all
theorem limUp_lt {lim : Lim} {n b : Nat} (h : b < n) : limUp lim n b = lim b := by simp [limUp, h]
theorem limUp_ge {lim : Lim} {n b : Nat} (h : n ≤ b) : limUp lim n b = .all := by simp [limUp, Nat.not_lt.2 h]

theorem Frm.alloc (w : World) (o : Obj) : Frm w.heap.size (fun _ => False) w (w.alloc o) := ⟨rfl, rfl, rfl, by simp, fun k hk _ => heap_alloc_old w o hk⟩

theorem RR.lt_box {cx : Cx} {gh : Gh} {σ : AS} {a : Act} {w : World} (r : RR cx gh σ a w) {k : Nat} (h : (look k σ.bx).isSome = true) : gh.bl k < w.heap.size := by
  obtain ⟨cells, hc⟩ := Option.isSome_iff_exists.1 h
  obtain ⟨_, _, cs, e, h3, _⟩ := r.boxes k cells hc
  exact (Array.getElem?_eq_some_iff.1 h3).1

theorem RR.lt_sh {cx : Cx} {gh : Gh} {σ : AS} {a : Act} {w : World} (r : RR cx gh σ a w) {b : Nat} (h : (look b σ.sh).isSome = true) : b < w.heap.size := by
  obtain ⟨cells, hc⟩ := Option.isSome_iff_exists.1 h
  obtain ⟨_, _, cs, e, h3, _⟩ := r.shs b cells hc
  exact (Array.getElem?_eq_some_iff.1 h3).1

theorem RR.lt_own {cx : Cx} {gh : Gh} {σ : AS} {a : Act} {w : World} (r : RR cx gh σ a w) {g e : Nat} (h : σ.uses g e) {b : Nat} (hb : (gh.gv g).ownBlock = some b) : b < w.heap.size ∧ cx.B ≤ b := by
  obtain ⟨⟨m, xs, h1, _⟩, _⟩ := r.own g e h
  exact ⟨(h1.lt b hb).2, (h1.lt b hb).1⟩

def upd {α : Type} (f : Nat → α) (k : Nat) (x : α) : Nat → α := fun j => if j = k then x else f j
@[simp] theorem upd_same {α : Type} (f : Nat → α) (k : Nat) (x : α) : upd f k x k = x := by simp [upd]
theorem upd_ne {α : Type} (f : Nat → α) {k j : Nat} (x : α) (h : j ≠ k) : upd f k x j = f j := by simp [upd, h]

theorem RR.newrow {cx : Cx} {gh : Gh} {σ : AS} {a : Act} {w : World} (r : RR cx gh σ a w) (o : Obj) : RR cx { gh with lim := limUp gh.lim w.heap.size } σ a (w.alloc o) :=
  r.grow _ (Frm.alloc w o) (fun _ hb => limUp_lt hb)

theorem RR.newbox {cx : Cx} {gh : Gh} {σ : AS} {a : Act} {w : World} (r : RR cx gh σ a w) (k : Nat) (hk : look k σ.bx = none) (hcl : ∀ t f ks, look t σ.tm = some (.cl f ks) → k ∉ ks) (cells : List AV) (cs : Array Value) (e : TypeId) (hc : RepL gh.lim w.heap cs.toList cells) :
    RR cx { gh with lim := upd gh.lim w.heap.size (.upto 0), bl := upd gh.bl k w.heap.size } { σ with bx := (k, cells) :: σ.bx } a (w.alloc (.cells cs e)) := by
  have hl : ∀ b, b < w.heap.size → upd gh.lim w.heap.size (.upto 0) b = gh.lim b := fun b hb => upd_ne _ _ (by omega)
  have r1 := r.grow (w' := w.alloc (.cells cs e)) (upd gh.lim w.heap.size (.upto 0)) (Frm.alloc w _) hl
  have hkeep : Keep gh.lim w.heap (upd gh.lim w.heap.size (.upto 0)) (w.alloc (.cells cs e)).heap := Keep.of_same hl (fun b hb => heap_alloc_old w _ hb)
  have hne : ∀ {k' : Nat}, (look k' σ.bx).isSome = true → k' ≠ k := fun h he => by subst he; rw [hk] at h; cases h
  have hbl : ∀ {k' : Nat}, (look k' σ.bx).isSome = true → upd gh.bl k w.heap.size k' = gh.bl k' := fun h => upd_ne _ _ (hne h)
  have hlk : ∀ k', (look k' ((k, cells) :: σ.bx)).isSome = true → k' = k ∨ (look k' σ.bx).isSome = true := by
    intro k' h
    simp only [look] at h
    split at h
    · rename_i h'; exact .inl h'.symm
    · exact .inr h
  have hlk' : ∀ {k' : Nat}, (look k' σ.bx).isSome = true → (look k' ((k, cells) :: σ.bx)).isSome = true := by
    intro k' h
    simp only [look]
    split
    · rfl
    · exact h
  refine { frm := r1.frm, base := r1.base, limB := r1.limB, size := r1.size, ex := r1.ex.sub (fun _ _ h => h) rfl rfl, gl := r1.gl, tmps := ?_, boxes := ?_, inj := ?_, shs := r1.shs, apart := ?_, tbs := ?_, own := ?_, alone := r1.alone }
  · intro t x h
    have h1 := r1.tmps t x h
    refine ⟨?_, fun k' off hx => hlk' (h1.2 k' off hx)⟩
    cases x with
    | un => trivial
    | v y g => exact h1.1
    | bld l ns => exact h1.1
    | lp k' off =>
      have h2 := h1.1
      simp only [TRep] at h2 ⊢
      rw [hbl (h1.2 k' off rfl)]; exact h2
    | it k9 => trivial
    | cl f ks =>
      have h2 := h1.1
      have h3 := hcl t f ks h
      simp only [TRep] at h2 ⊢
      rw [h2]
      congr 2
      apply List.map_congr_left
      intro q hq
      rw [upd_ne _ _ (fun (he : q = k) => h3 (by rw [← he]; exact hq))]
  · intro k' cells' h
    simp only [look] at h
    split at h
    · rename_i he; subst he
      injection h with h; subst h
      refine ⟨by simpa using r.base, by simp, cs, e, ?_, hc.mono hkeep⟩
      simpa using heap_alloc_new w _
    · have h2 := r1.boxes k' cells' h
      have h3 := hbl (k' := k') (by simp [h])
      dsimp only at h2 ⊢
      rw [h3]
      exact h2
  · intro k1 k2 h1 h2 he
    dsimp only at he
    by_cases e1 : k1 = k <;> by_cases e2 : k2 = k
    · rw [e1, e2]
    · have g2 := (hlk k2 h2).resolve_left e2
      rw [e1, upd_same, hbl g2] at he
      have := r.lt_box g2
      omega
    · have g1 := (hlk k1 h1).resolve_left e1
      rw [e2, upd_same, hbl g1] at he
      have := r.lt_box g1
      omega
    · have g1 := (hlk k1 h1).resolve_left e1
      have g2 := (hlk k2 h2).resolve_left e2
      rw [hbl g1, hbl g2] at he
      exact r.inj k1 k2 g1 g2 he
  · intro b k' hb h'
    dsimp only
    rcases hlk k' h' with rfl | h'
    · rw [upd_same]
      have := r.lt_sh hb
      omega
    · rw [hbl h']; exact r.apart b k' hb h'
  · intro k' j g e' h
    obtain ⟨h1, h2⟩ := r1.tbs k' j g e' h
    have h1' : (look k' σ.bx).isSome = true := h1
    refine ⟨hlk' h1, ?_⟩
    dsimp only at h2 ⊢
    rw [hbl h1']; exact h2
  · intro g e' h
    obtain ⟨h1, h2⟩ := r1.own g e' h
    refine ⟨h1, fun b hb => ⟨fun k' h' => ?_, (h2 b hb).2⟩⟩
    dsimp only at hb ⊢
    rcases hlk k' h' with rfl | h'
    · rw [upd_same]
      have := (r.lt_own (g := g) (e := e') h hb).1
      omega
    · rw [hbl h']; exact (h2 b hb).1 k' h'

def splice (cells : List AV) (off : Nat) (xs : List AV) : List AV := cells.take off ++ xs ++ cells.drop (off + xs.length)
def tbOf (k off : Nat) : Option (Nat × Nat) → List (Nat × Nat × Nat × Nat)
  | some p => [(k, off, p.1, p.2)]
  | none => []
def clr (tb : List (Nat × Nat × Nat × Nat)) (k off n : Nat) : List (Nat × Nat × Nat × Nat) := tb.filter fun q => !(q.1 == k && (decide (off ≤ q.2.1) && decide (q.2.1 < off + n)))

theorem Keep.setRow {lim : Lim} {w : World} {b : Nat} (hb : lim b = .upto 0) (cs : Array Value) : Keep lim w.heap lim (w.setRow b cs).heap := by
  refine ⟨?_, fun b' r _ h => ⟨h, setRow_other w b b' cs (fun he => by subst he; rw [hb] at h; cases h)⟩⟩
  rintro b' o ⟨cs', e, g, hc⟩ ho
  have hne : b' ≠ b := fun he => by subst he; exact absurd (ho 0 hb) (Nat.not_lt_zero _)
  refine ⟨⟨cs', e, g, (setRow_other w b b' cs hne).trans hc⟩, ho, ?_⟩
  unfold cellAt
  rw [setRow_other w b b' cs hne]

theorem Frm.setRow {B : Nat} {S : Nat → Prop} (w : World) (b : Nat) (cs : Array Value) (h : S b ∨ B ≤ b) : Frm B S w (w.setRow b cs) :=
  ⟨rfl, rfl, rfl, by simp, fun k hk hs => setRow_other w b k cs (fun he => by subst he; rcases h with h | h; exact hs h; omega)⟩

theorem Oth.setRow (w : World) (b : Nat) (cs : Array Value) {cur : Array Value} {e : TypeId} {g : Nat × Nat} (h : w.heap[b]? = some (.cells cur e g)) : Oth w (w.setRow b cs) := fun k o hk ho => by
  refine (setRow_other w b k cs (fun he => ?_)).trans hk
  subst he
  rw [h] at hk; cases hk; cases ho

theorem RR.store {cx : Cx} {gh : Gh} {σ : AS} {a : Act} {w : World} (r : RR cx gh σ a w) (hy : cx.gl.y = none) (k off : Nat) {cells : List AV} (hk : look k σ.bx = some cells) (vs : List Value) (xs : List AV)
    (hx : RepL gh.lim w.heap vs xs) (ho : off + xs.length ≤ cells.length) (tg : Option (Nat × Nat)) (htg : ∀ p, tg = some p → vs = [gh.gv p.1] ∧ σ.uses p.1 p.2) :
    ∃ cur e, w.heap[gh.bl k]? = some (.cells cur e (0, 0)) ∧ off + vs.length ≤ cur.size ∧
      RR cx gh { σ with bx := (k, splice cells off xs) :: σ.bx, tb := tbOf k off tg ++ clr σ.tb k off xs.length } a
        (w.setRow (gh.bl k) (cur.toList.take off ++ vs ++ cur.toList.drop (off + vs.length)).toArray) := by
  obtain ⟨hB, hlim, cur, e, hcur, hrep⟩ := r.boxes k cells hk
  have hsome : (look k σ.bx).isSome = true := by simp [hk]
  have hlen : cur.size = cells.length := by have := hrep.1; simpa using this
  refine ⟨cur, e, hcur, by rw [hx.1, hlen]; exact ho, ?_⟩
  generalize hnew : (cur.toList.take off ++ vs ++ cur.toList.drop (off + vs.length)).toArray = new
  have hkeep := Keep.setRow (w := w) hlim new
  have hlk : ∀ k', (look k' ((k, splice cells off xs) :: σ.bx)).isSome = (look k' σ.bx).isSome := by
    intro k'
    simp only [look]
    split
    · rename_i h; subst h; rw [hsome]; rfl
    · rfl
  have hheap : ∀ b, b ≠ gh.bl k → (w.setRow (gh.bl k) new).heap[b]? = w.heap[b]? := fun b hb => setRow_other w _ b new hb
  have hspl : RepL gh.lim (w.setRow (gh.bl k) new).heap new.toList (splice cells off xs) := by
    have h0 : RepL gh.lim w.heap new.toList (splice cells off xs) := by
      rw [← hnew]
      unfold splice
      rw [← hx.1]
      exact ((hrep.take off).append hx).append (hrep.drop _)
    exact h0.mono hkeep
  have husesI : ∀ g e', (AS.uses { σ with bx := (k, splice cells off xs) :: σ.bx, tb := tbOf k off tg ++ clr σ.tb k off xs.length } g e') → σ.uses g e' := by
    intro g e' h
    rcases h with h | ⟨k', j, h⟩
    · exact .inl h
    · simp only [List.mem_append] at h
      rcases h with h | h
      · cases tg with
        | none => simp [tbOf] at h
        | some p => simp [tbOf] at h; obtain ⟨-, -, rfl, rfl⟩ := h; exact (htg p rfl).2
      · exact .inr ⟨k', j, (List.mem_filter.1 h).1⟩
  refine { frm := r.frm.trans (Frm.setRow w _ _ (.inr hB)), base := by simpa using r.base, limB := r.limB, size := r.size, ex := (r.ex.step hkeep (Oth.setRow w _ _ hcur) (.inl hy)).sub (fun _ _ h => h) rfl rfl, gl := fun g c h => (r.gl g c h).mono hkeep, tmps := ?_, boxes := ?_, inj := ?_, shs := ?_, apart := ?_, tbs := ?_, own := ?_, alone := fun g e1 g' e2 h h' => r.alone g e1 g' e2 (husesI _ _ h) (husesI _ _ h') }
  · intro t x h
    have h1 := r.tmps t x h
    refine ⟨?_, fun k' o hx' => by rw [hlk]; exact h1.2 k' o hx'⟩
    cases x with
    | un => trivial
    | v y g => exact ⟨h1.1.1.mono hkeep, h1.1.2⟩
    | bld l ns => exact ⟨h1.1.1.mono hkeep, h1.1.2⟩
    | lp k' o => exact h1.1
    | it k9 => trivial
    | cl f ks => exact h1.1
  · intro k' cells' h
    simp only [look] at h
    split at h
    · rename_i he; subst he
      injection h with h; subst h
      exact ⟨hB, hlim, new, e, setRow_heap w _ cur new e _ hcur, hspl⟩
    · rename_i hne
      obtain ⟨h1, h2, cs, e', h3, h4⟩ := r.boxes k' cells' h
      have hbne : gh.bl k' ≠ gh.bl k := fun he => hne (r.inj k k' hsome (by simp [h]) he.symm)
      exact ⟨h1, h2, cs, e', (hheap _ hbne).trans h3, h4.mono hkeep⟩
  · intro k1 k2 h1 h2 he
    rw [hlk] at h1 h2
    exact r.inj k1 k2 h1 h2 he
  · intro b cells' h
    obtain ⟨h1, h2, cs, e', h3, h4⟩ := r.shs b cells' h
    have hbne : b ≠ gh.bl k := fun he => r.apart b k (by simp [h]) hsome he.symm
    exact ⟨h1, h2, cs, e', (hheap _ hbne).trans h3, h4.mono hkeep⟩
  · intro b k' h1 h2
    rw [hlk] at h2
    exact r.apart b k' h1 h2
  · intro k' j g e' h
    rw [hlk]
    simp only [List.mem_append] at h
    rcases h with h | h
    · cases tg with
      | none => simp [tbOf] at h
      | some p =>
        simp [tbOf] at h
        obtain ⟨rfl, rfl, rfl, rfl⟩ := h
        refine ⟨hsome, ?_⟩
        have hvs := (htg p rfl).1
        have hl1 : xs.length = 1 := by rw [← hx.1, hvs]; rfl
        unfold cellAt
        rw [setRow_heap w _ cur new e _ hcur]
        have htake : (cur.toList.take j).length = j := by simp; omega
        show new[j]? = _
        rw [← hnew, hvs]
        simp only [List.append_assoc, List.getElem?_toArray]
        rw [List.getElem?_append_right (by omega), htake]
        simp
    · obtain ⟨h, hnot⟩ := List.mem_filter.1 h
      obtain ⟨h1, h2⟩ := r.tbs k' j g e' h
      refine ⟨h1, ?_⟩
      by_cases hkk : k' = k
      · subst hkk
        unfold cellAt at h2 ⊢
        rw [hcur] at h2
        rw [setRow_heap w _ cur new e _ hcur]
        simp only [] at h2 ⊢
        have hj : j < cur.size := (Array.getElem?_eq_some_iff.1 h2).1
        have hout : ¬ (off ≤ j ∧ j < off + xs.length) := by simp at hnot; omega
        have htake : (cur.toList.take off).length = off := by simp; omega
        rw [← hnew, List.getElem?_toArray]
        have hvl := hx.1
        rcases Nat.lt_or_ge j off with hlt | hge
        · rw [List.append_assoc, List.getElem?_append_left (by omega), List.getElem?_take, if_pos hlt]
          simpa using h2
        · have hge2 : off + xs.length ≤ j := by omega
          rw [List.getElem?_append_right (by simp; omega), List.getElem?_drop]
          have : off + vs.length + (j - (cur.toList.take off ++ vs).length) = j := by rw [List.length_append, htake]; omega
          rw [this]
          simpa using h2
      · have hbne : gh.bl k' ≠ gh.bl k := fun he => hkk (r.inj k' k h1 hsome he)
        unfold cellAt at h2 ⊢
        rw [hheap _ hbne]; exact h2
  · intro g e' h
    obtain ⟨⟨m, xs', h1, h2⟩, h3⟩ := r.own g e' (husesI g e' h)
    refine ⟨⟨m, xs', ⟨h1.1, ?_⟩, h2⟩, fun b hb => ⟨fun k' h' => by rw [hlk] at h'; exact (h3 b hb).1 k' h', (h3 b hb).2⟩⟩
    rcases h1.2 with hn | ⟨g', cap, cur', hv, hbg, hg', rest⟩
    · exact .inl hn
    · refine .inr ⟨g', cap, cur', hv, hbg, ?_, rest⟩
      rw [hheap g' (fun he => (h3 g' (by rw [hv]; rfl)).1 k hsome he.symm)]
      exact hg'

theorem RR.storeSh {cx : Cx} {gh : Gh} {σ : AS} {a : Act} {w : World} (r : RR cx gh σ a w) (hy : cx.gl.y = none) (b0 off : Nat) {cells : List AV} (hk : look b0 σ.sh = some cells) (vs : List Value) (xs : List AV)
    (hx : RepL gh.lim w.heap vs xs) (ho : off + xs.length ≤ cells.length) :
    ∃ cur e, w.heap[b0]? = some (.cells cur e (0, 0)) ∧ off + vs.length ≤ cur.size ∧
      RR cx gh { σ with sh := (b0, splice cells off xs) :: σ.sh } a (w.setRow b0 (cur.toList.take off ++ vs ++ cur.toList.drop (off + vs.length)).toArray) := by
  obtain ⟨hB, hlim, cur, e, hcur, hrep⟩ := r.shs b0 cells hk
  have hsome : (look b0 σ.sh).isSome = true := by simp [hk]
  have hlen : cur.size = cells.length := by have := hrep.1; simpa using this
  refine ⟨cur, e, hcur, by rw [hx.1, hlen]; exact ho, ?_⟩
  generalize hnew : (cur.toList.take off ++ vs ++ cur.toList.drop (off + vs.length)).toArray = new
  have hkeep := Keep.setRow (w := w) hlim new
  have hlk : ∀ k', (look k' ((b0, splice cells off xs) :: σ.sh)).isSome = (look k' σ.sh).isSome := by
    intro k'
    simp only [look]
    split
    · rename_i h; subst h; rw [hsome]; rfl
    · rfl
  have hheap : ∀ b, b ≠ b0 → (w.setRow b0 new).heap[b]? = w.heap[b]? := fun b hb => setRow_other w _ b new hb
  have hspl : RepL gh.lim (w.setRow b0 new).heap new.toList (splice cells off xs) := by
    have h0 : RepL gh.lim w.heap new.toList (splice cells off xs) := by
      rw [← hnew]
      unfold splice
      rw [← hx.1]
      exact ((hrep.take off).append hx).append (hrep.drop _)
    exact h0.mono hkeep
  refine { frm := r.frm.trans (Frm.setRow w _ _ hB), base := by simpa using r.base, limB := r.limB, size := r.size, ex := (r.ex.step hkeep (Oth.setRow w _ _ hcur) (.inl hy)).sub (fun _ _ h => h) rfl rfl, gl := fun g c h => (r.gl g c h).mono hkeep, tmps := ?_, boxes := ?_, inj := r.inj, shs := ?_, apart := ?_, tbs := ?_, own := ?_, alone := r.alone }
  · intro t x h
    have h1 := r.tmps t x h
    refine ⟨?_, h1.2⟩
    cases x with
    | un => trivial
    | v y g => exact ⟨h1.1.1.mono hkeep, h1.1.2⟩
    | bld l ns => exact ⟨h1.1.1.mono hkeep, h1.1.2⟩
    | lp k' o => exact h1.1
    | it k9 => trivial
    | cl f ks => exact h1.1
  · intro k' cells' h
    obtain ⟨h1, h2, cs, e', h3, h4⟩ := r.boxes k' cells' h
    have hbne : gh.bl k' ≠ b0 := r.apart b0 k' hsome (by simp [h])
    exact ⟨h1, h2, cs, e', (hheap _ hbne).trans h3, h4.mono hkeep⟩
  · intro b cells' h
    simp only [look] at h
    split at h
    · rename_i he; subst he
      injection h with h; subst h
      exact ⟨hB, hlim, new, e, setRow_heap w _ cur new e _ hcur, hspl⟩
    · rename_i hne
      obtain ⟨h1, h2, cs, e', h3, h4⟩ := r.shs b cells' h
      exact ⟨h1, h2, cs, e', (hheap _ (fun he => hne he.symm)).trans h3, h4.mono hkeep⟩
  · intro b k' h1 h2
    rw [hlk] at h1
    exact r.apart b k' h1 h2
  · intro k' j g e' h
    obtain ⟨h1, h2⟩ := r.tbs k' j g e' h
    refine ⟨h1, ?_⟩
    unfold cellAt at h2 ⊢
    rw [hheap _ (r.apart b0 k' hsome h1)]; exact h2
  · intro g e' h
    obtain ⟨⟨m, xs', h1, h2⟩, h3⟩ := r.own g e' h
    have hno : ∀ b, (gh.gv g).ownBlock = some b → b ≠ b0 := fun b hb he => by
      have := (h3 b hb).2
      rw [he, hk] at this; cases this
    refine ⟨⟨m, xs', ⟨h1.1, ?_⟩, h2⟩, fun b hb => ⟨(h3 b hb).1, ?_⟩⟩
    · rcases h1.2 with hn | ⟨g', cap, cur', hv, hbg, hg', rest⟩
      · exact .inl hn
      · exact .inr ⟨g', cap, cur', hv, hbg, by rw [hheap g' (hno g' (by rw [hv]; rfl))]; exact hg', rest⟩
    · simp only [look, if_neg (fun he : b0 = b => hno b hb he.symm)]
      exact (h3 b hb).2

end Go.Pv
end

section
/- Appending in place; boxes that are frozen or handed out; forgetting. -/
namespace Go.Pv
open Go

theorem run_append_pv {P : Program} (w : World) (base : Nat) (t ty e : TypeId) (i : TypeInfo) (z : Value) (ht : P.underlying t = some (.slice e)) (hi : P.info? e = some i) (hz : i.zero = some z)
    (hzs : z.cells.size = i.size) (v : Value) (n : Nat) (xs : List Value) (hown : w.ownsRow base e i.size v n xs)
    (p : Option Addr) (m c : Nat) (news : List Value) (hl : news.length = m * i.size) (hp : p = none → m = 0) (hnews : ∀ a, p = some a → ∀ j u, news[j]? = some u → w.cell? (a.add j) = some u) (h1 : ∀ u ∈ news, u.oneCell' = true)
    (hbytes : (n + m) * i.bytes ≤ 140737488355328) (hlen63 : n + m ≤ maxLen) (hbase : base ≤ w.heap.size) :
    ∃ v' w', (Builtin.append_ #[t, t] ty #[v, .slice p m c]).run P w = .ok v' w' ∧ w'.ownsRow base e i.size v' (n + m) (xs ++ news) ∧
      Frm w.heap.size (fun b => v.ownBlock = some b) w w' ∧ (∀ b, v'.ownBlock = some b → v.ownBlock = some b ∨ w.heap.size ≤ b) ∧
      (∀ b o u, v.ownBlock = some b → o < n * i.size → cellAt w.heap b o = some u → cellAt w'.heap b o = some u) := by
  have hsmall : n + m ≤ 9223372036854775807 := by simp only [maxLen] at hlen63; omega
  have hlen : (xs ++ news).length = (n + m) * i.size := by rw [List.length_append, hown.1, hl, Nat.add_mul]
  cases p with
  | none =>
    have hm := hp rfl
    subst hm
    have hn : news = [] := List.eq_nil_of_length_eq_zero (by simpa using hl)
    subst hn
    have hrun : (Builtin.append_ #[t, t] ty #[v, .slice none 0 c]).run P w = .ok v w := by
      rcases hown.2 with ⟨rfl, rfl⟩ | ⟨g, cap, cur, rfl, _, _, hnc, _⟩
      · simp [Builtin.append_, run_underlying ht, sizeOf, typeInfo, hi, Builtin.lenOf, Builtin.firstCells]
      · simp [Builtin.append_, run_underlying ht, sizeOf, typeInfo, hi, Builtin.lenOf, Builtin.firstCells, hnc, storeCells]
    exact ⟨v, w, hrun, by simpa using hown, Frm.refl _ _ _, fun b hb => .inl hb, fun b o u _ _ h => h⟩
  | some a =>
    have hnews := hnews a rfl
    have grown : ∀ (old : Nat),
        (w.drew.alloc (.cells (xs.toArray ++ news.toArray ++ Builtin.zeroCells z.cells (grownCap w (n + m) old e - (n + m))) e)).ownsRow base e i.size
          (.slice (some ⟨w.heap.size, 0, none⟩) (n + m) (grownCap w (n + m) old e)) (n + m) (xs ++ news) := by
      intro old
      have hge := grownCap_ge w (n + m) old e
      have hcm : grownCap w (n + m) old e ≤ maxLen := grownCap_le_maxLen w (n + m) old e hlen63
      refine ⟨hlen, .inr ⟨w.heap.size, _, _, rfl, hbase, heap_alloc_new w.drew _, hge, hcm, ?_, ?_⟩⟩
      · simp only [Array.size_append, List.size_toArray, size_zeroCells, hzs, hown.1, hl, ← Nat.add_mul]
        congr 1
        omega
      · simp only [Array.toList_append, List.append_assoc]
        rw [← List.append_assoc, ← hlen]
        exact List.take_left
    have hfrm : ∀ o : Obj, Frm w.heap.size (fun b => v.ownBlock = some b) w (w.drew.alloc o) := fun o => ⟨rfl, rfl, rfl, by simp, fun k hk _ => heap_alloc_old w.drew o hk⟩
    have hold : ∀ (o : Obj) b o' u, cellAt w.heap b o' = some u → cellAt (w.drew.alloc o).heap b o' = some u := fun o b o' u h => by
      have hb := cellAt_lt h
      unfold cellAt at h ⊢
      rw [heap_alloc_old w.drew o hb]; exact h
    rcases hown.2 with ⟨rfl, rfl⟩ | ⟨g, cap, cur, rfl, hbg, hg, hnc, hcm, hcs, htake⟩
    · have hx : xs = [] := List.eq_nil_of_length_eq_zero (by simpa using hown.1)
      subst hx
      by_cases hm : m = 0
      · subst hm
        have hn : news = [] := List.eq_nil_of_length_eq_zero (by simpa using hl)
        subst hn
        refine ⟨.slice none 0 0, w, ?_, World.ownsRow_nil w base e i.size, Frm.refl _ _ _, fun b hb => .inl hb, fun b o u _ _ h => h⟩
        simp [Builtin.append_, run_underlying ht, sizeOf, typeInfo, hi, Builtin.lenOf, Builtin.firstCells, loadCells, loadCellsFrom]
      · have hr := run_append_nil (P := P) w t ty e i z ht hi hz a m c news hl hnews (by omega) (by omega) (by have hb := hbytes; simp only [Nat.zero_add] at hb; omega)
        have hgr := grown 0
        simp only [Nat.zero_add, List.nil_append, Array.empty_append] at hgr ⊢
        exact ⟨_, _, hr, hgr, hfrm _, fun b hb => .inr (by simp [Value.ownBlock] at hb; omega), fun b o u _ _ h => hold _ b o u h⟩
    · by_cases hroom : n + m ≤ cap
      · have hfit : n * i.size + news.length ≤ cur.size := by rw [hl, hcs, ← Nat.add_mul]; exact Nat.mul_le_mul_right _ hroom
        have hr := run_append_room (P := P) w t ty e i ht hi g n cap cur hg a m c news hl hnews h1 hroom hfit
        refine ⟨_, _, hr, ⟨hlen, .inr ⟨g, cap, _, rfl, hbg, setRow_heap w g cur _ e _ hg, hroom, hcm, ?_, ?_⟩⟩, ⟨rfl, rfl, rfl, by simp, fun k _ hk => setRow_other w g k _ (fun e => hk (by simp [Value.ownBlock, e]))⟩, fun b hb => .inl hb, ?_⟩
        · simp only [List.size_toArray, List.length_append, List.length_take, List.length_drop, Array.length_toList]
          omega
        · rw [htake, ← hlen]
          exact List.take_left
        · intro b o u hb ho h
          simp [Value.ownBlock] at hb
          subst hb
          unfold cellAt at h ⊢
          rw [hg] at h
          rw [setRow_heap w g cur _ e _ hg]
          simp only [] at h ⊢
          have hoc : o < cur.size := (Array.getElem?_eq_some_iff.1 h).1
          rw [List.getElem?_toArray, List.append_assoc, List.getElem?_append_left (by simp; omega), List.getElem?_take, if_pos ho]
          simpa using h
      · have holds : ∀ j u, xs[j]? = some u → w.cell? ((⟨g, 0, none⟩ : Addr).add j) = some u := hown.cells (g := g) rfl
        have hr := run_append_grow (P := P) w t ty e i z ht hi hz ⟨g, 0, none⟩ n cap xs hown.1 holds a m c news hl hnews (by omega) (by omega) (growslice_fits (by omega) hbytes)
        exact ⟨_, _, hr, grown cap, hfrm _, fun b hb => .inr (by simp [Value.ownBlock] at hb; omega), fun b o u _ _ h => hold _ b o u h⟩

def TV.untag (g : Nat) : TV → TV
  | .v x (some p) => if p.1 = g then .v x none else .v x (some p)
  | y => y
def AS.purge (σ : AS) (g : Nat) : AS := { σ with tm := σ.tm.map fun p => (p.1, p.2.untag g), tb := σ.tb.filter fun q => !(q.2.2.1 == g) }

theorem look_map {α β : Type} (f : α → β) (k : Nat) : ∀ l : List (Nat × α), look k (l.map fun p => (p.1, f p.2)) = (look k l).map f
  | [] => rfl
  | (j, x) :: r => by
    simp only [List.map_cons, look]
    split
    · rfl
    · exact look_map f k r

theorem AS.uses_purge {σ : AS} {g g' e : Nat} (h : (σ.purge g).uses g' e) : σ.uses g' e ∧ g' ≠ g := by
  rcases h with ⟨t, x, h⟩ | ⟨k, j, h⟩
  · simp only [AS.purge, look_map] at h
    cases h1 : look t σ.tm with
    | none => rw [h1] at h; cases h
    | some y =>
      rw [h1] at h
      simp only [Option.map_some, Option.some.injEq] at h
      cases y with
      | un => cases h
      | bld l ns => cases h
      | lp k o => cases h
      | it k9 => cases h
      | cl f ks => cases h
      | v y q =>
        cases q with
        | none => cases h
        | some q =>
          simp only [TV.untag] at h
          split at h
          · cases h
          · rename_i hne
            simp only [TV.v.injEq, Option.some.injEq] at h
            obtain ⟨rfl, rfl⟩ := h
            exact ⟨.inl ⟨t, _, h1⟩, hne⟩
  · simp only [AS.purge] at h
    obtain ⟨h1, h2⟩ := List.mem_filter.1 h
    exact ⟨.inr ⟨k, j, h1⟩, by simpa using h2⟩

theorem purge_it {σ : AS} {g t : Nat} {q : ItK} (h : look t (σ.purge g).tm = some (.it q)) : look t σ.tm = some (.it q) := by
  simp only [AS.purge, look_map] at h
  cases h1 : look t σ.tm with
  | none => rw [h1] at h; cases h
  | some y =>
    rw [h1] at h
    simp only [Option.map_some, Option.some.injEq] at h
    rw [← h]
    cases y with
    | v y q =>
      cases q with
      | none => rfl
      | some q => simp only [TV.untag] at h; split at h <;> cases h
    | un => rfl
    | bld l ns => rfl
    | lp k o => rfl
    | it k9 => rfl
    | cl f ks => rfl

theorem RR.purge {cx : Cx} {gh : Gh} {σ : AS} {a : Act} {w : World} (r : RR cx gh σ a w) (g : Nat) : RR cx gh (σ.purge g) a w := by
  refine { frm := r.frm, base := r.base, limB := r.limB, size := r.size, ex := r.ex.sub (fun _ _ h => purge_it h) rfl rfl, gl := r.gl, tmps := ?_, boxes := r.boxes, inj := r.inj, shs := r.shs, apart := r.apart, tbs := fun k j g' e h => r.tbs k j g' e (List.mem_filter.1 h).1, own := fun g' e h => r.own g' e (AS.uses_purge h).1, alone := fun g1 e1 g2 e2 h h' => r.alone g1 e1 g2 e2 (AS.uses_purge h).1 (AS.uses_purge h').1 }
  intro t x h
  simp only [AS.purge, look_map] at h
  cases h1 : look t σ.tm with
  | none => rw [h1] at h; cases h
  | some y =>
    rw [h1] at h
    simp only [Option.map_some, Option.some.injEq] at h
    have h2 := r.tmps t y h1
    subst h
    cases y with
    | un => exact ⟨trivial, by simp [TV.untag]⟩
    | bld l ns => exact ⟨h2.1, by simp [TV.untag]⟩
    | lp k o => exact h2
    | it k9 => exact ⟨trivial, by simp [TV.untag]⟩
    | cl f ks => exact ⟨h2.1, by simp [TV.untag]⟩
    | v y q =>
      cases q with
      | none => exact ⟨h2.1, by simp [TV.untag]⟩
      | some q =>
        simp only [TV.untag]
        split
        · exact ⟨⟨h2.1.1, by simp⟩, by simp⟩
        · exact ⟨h2.1, by simp⟩

theorem RR.uses_lt {cx : Cx} {gh : Gh} {σ : AS} {a : Act} {w : World} (r : RR cx gh σ a w) {g e : Nat} (h : σ.uses g e) {b : Nat} (hb : (gh.gv g).ownBlock = some b) : b < w.heap.size := (r.lt_own h hb).1

theorem RR.append {cx : Cx} {gh : Gh} {σ : AS} {a : Act} {w w' : World} (r : RR cx gh σ a w) (hy : cx.gl.y = none) (g e : Nat) (hu : σ.uses g e) (v' : Value) (m : Nat) (xs' : List Value)
    (_hown : w'.ownsRow cx.B e (esz cx.P e) v' m xs') (hf : Frm w.heap.size (fun b => (gh.gv g).ownBlock = some b) w w') (hb : ∀ b, v'.ownBlock = some b → (gh.gv g).ownBlock = some b ∨ w.heap.size ≤ b)
    (hk : ∀ n xs, w.ownsRow cx.B e (esz cx.P e) (gh.gv g) n xs → n ≤ m ∧ ∀ b o u, (gh.gv g).ownBlock = some b → o < n * esz cx.P e → cellAt w.heap b o = some u → cellAt w'.heap b o = some u) :
    ∃ gh', RR cx gh' (σ.purge g) a w' ∧ gh'.gv g = v' ∧ Keep gh.lim w.heap gh'.lim w'.heap ∧ (∀ b, v'.ownBlock = some b → gh'.lim b = .upto (m * esz cx.P e)) ∧
      (∀ b, v'.ownBlock = some b → (∀ k, (look k σ.bx).isSome = true → gh'.bl k ≠ b) ∧ look b σ.sh = none) ∧
      (∀ g' e', (σ.purge g).uses g' e' → ∀ b, v'.ownBlock = some b → (gh'.gv g').ownBlock ≠ some b) := by
  obtain ⟨⟨n, xs, ho1, ho2⟩, ho3⟩ := r.own g e hu
  obtain ⟨hnm, hcell⟩ := hk n xs ho1
  let lim' : Lim := fun b => if v'.ownBlock = some b then .upto (m * esz cx.P e) else gh.lim b
  have hlim_old : ∀ b, v'.ownBlock ≠ some b → lim' b = gh.lim b := fun b h => by simp [lim', h]
  have hkeep : Keep gh.lim w.heap lim' w'.heap := by
    refine ⟨?_, fun b r ⟨cs0, e0, z0, hcb⟩ hr => by
      by_cases hv : v'.ownBlock = some b
      · rcases hb b hv with h | h
        · rw [ho2 b h] at hr; cases hr
        · have := (Array.getElem?_eq_some_iff.1 hcb).1; omega
      · refine ⟨(hlim_old b hv).trans hr, hf.block b (Array.getElem?_eq_some_iff.1 hcb).1 (fun h => ?_)⟩
        rw [ho2 b h] at hr; cases hr⟩
    rintro b o ⟨cs0, e0, z0, hcb⟩ hok
    have hbl := (Array.getElem?_eq_some_iff.1 hcb).1
    by_cases hbo : (gh.gv g).ownBlock = some b
    · have hlb := ho2 b hbo
      have ho : o < n * esz cx.P e := hok _ hlb
      obtain ⟨u, hc⟩ : ∃ u, cellAt w.heap b o = some u := by
        rcases ho1.2 with ⟨hn, -⟩ | ⟨g', cap, cur, hv, -, hg', hncap, -, hcsz, -⟩
        · rw [hn] at hbo; cases hbo
        · rw [hv] at hbo
          simp only [Value.ownBlock, Option.some.injEq] at hbo
          subst hbo
          have hlt : o < cur.size := by rw [hcsz]; exact Nat.lt_of_lt_of_le ho (Nat.mul_le_mul_right _ hncap)
          exact ⟨cur[o], by unfold cellAt; rw [hg']; simp [hlt]⟩
      have hcc := hcell b o u hbo ho hc
      refine ⟨cellAt_B hcc, ?_, hcc.trans hc.symm⟩
      by_cases hv : v'.ownBlock = some b
      · intro q hq
        simp only [lim', hv, if_true, LV.upto.injEq] at hq
        subst hq
        exact Nat.lt_of_lt_of_le ho (Nat.mul_le_mul_right _ hnm)
      · rw [show Lim.ok lim' b o = Lim.ok gh.lim b o by unfold Lim.ok; rw [hlim_old b hv]]; exact hok
    · have hv : v'.ownBlock ≠ some b := fun he => by
        rcases hb b he with h | h
        · exact hbo h
        · omega
      refine ⟨⟨cs0, e0, z0, (hf.block b hbl hbo).trans hcb⟩, by rw [show Lim.ok lim' b o = Lim.ok gh.lim b o by unfold Lim.ok; rw [hlim_old b hv]]; exact hok, ?_⟩
      unfold cellAt
      rw [hf.block b hbl hbo]
  have hpart : ∀ b, b < w.heap.size → (gh.gv g).ownBlock ≠ some b → v'.ownBlock ≠ some b := fun b hlt hne he => by
    rcases hb b he with h | h
    · exact hne h
    · omega
  have hsame : ∀ b, b < w.heap.size → (gh.gv g).ownBlock ≠ some b → w'.heap[b]? = w.heap[b]? := fun b hlt hne => hf.block b hlt hne
  have rp := r.purge g
  have hoth : Oth w w' := Oth.of_cells hf fun b hb => by
    rcases ho1.2 with ⟨hn, -⟩ | ⟨g', cap, cur, hv, -, hg', -⟩
    · rw [hn] at hb; cases hb
    · rw [hv] at hb
      simp only [Value.ownBlock, Option.some.injEq] at hb
      subst hb
      exact ⟨_, _, _, hg'⟩
  have hnB : ∀ b, (gh.gv g).ownBlock = some b → cx.B ≤ b := fun b h => (r.lt_own hu h).2
  have hother : ∀ g' e', (σ.purge g).uses g' e' → ∀ b, (gh.gv g').ownBlock = some b → (gh.gv g).ownBlock ≠ some b := fun g' e' h b hb' =>
    r.alone g' e' g e (AS.uses_purge h).1 hu (AS.uses_purge h).2 b hb'
  refine ⟨{ lim := lim', bl := gh.bl, gv := upd gh.gv g v' }, ?_, by simp, hkeep, fun b h => by simp [lim', h], ?_, ?_⟩
  · refine { frm := r.frm.trans (hf.mono r.base (fun k hk h => absurd (hnB k h) (by omega))), base := Nat.le_trans r.base hf.size, limB := ?_, size := r.size, ex := (r.ex.step hkeep hoth (.inl hy)).sub (fun _ _ h => purge_it h) rfl rfl, gl := fun q c h => (r.gl q c h).mono hkeep, tmps := ?_, boxes := ?_, inj := r.inj, shs := ?_, apart := r.apart, tbs := ?_, own := ?_, alone := ?_ }
    · intro b hbB
      have hlt := Nat.lt_of_lt_of_le hbB r.base
      exact (hlim_old b (hpart b hlt (fun h => absurd (hnB b h) (by omega)))).trans (r.limB b hbB)
    · intro t x h
      have h1 := rp.tmps t x h
      refine ⟨?_, h1.2⟩
      cases x with
      | un => trivial
      | bld l ns => exact ⟨h1.1.1.mono hkeep, h1.1.2⟩
      | lp k o => exact h1.1
      | it k9 => trivial
      | cl f ks => exact h1.1
      | v y q =>
        refine ⟨h1.1.1.mono hkeep, fun p hp => ?_⟩
        subst hp
        have hne := (AS.uses_purge (σ := σ) (g := g) (g' := p.1) (e := p.2) (.inl ⟨t, y, h⟩)).2
        rw [h1.1.2 p rfl]
        exact (upd_ne gh.gv v' hne).symm
    · intro k cells h
      obtain ⟨h1, h2, cs, e', h3, h4⟩ := r.boxes k cells h
      have hlt := (Array.getElem?_eq_some_iff.1 h3).1
      have hne : (gh.gv g).ownBlock ≠ some (gh.bl k) := fun he => (ho3 _ he).1 k (by simp [show look k σ.bx = some cells from h]) rfl
      exact ⟨h1, (hlim_old _ (hpart _ hlt hne)).trans h2, cs, e', (hsame _ hlt hne).trans h3, h4.mono hkeep⟩
    · intro b cells h
      obtain ⟨h1, h2, cs, e', h3, h4⟩ := r.shs b cells h
      have hlt := (Array.getElem?_eq_some_iff.1 h3).1
      have hne : (gh.gv g).ownBlock ≠ some b := fun he => by have := (ho3 _ he).2; rw [show look b σ.sh = some cells from h] at this; cases this
      exact ⟨h1, (hlim_old _ (hpart _ hlt hne)).trans h2, cs, e', (hsame _ hlt hne).trans h3, h4.mono hkeep⟩
    · intro k j g' e' h
      have h0 := rp.tbs k j g' e' h
      have hne := (AS.uses_purge (σ := σ) (g := g) (g' := g') (e := e') (.inr ⟨k, j, h⟩)).2
      refine ⟨h0.1, ?_⟩
      have hlt := r.lt_box h0.1
      have hneb : (gh.gv g).ownBlock ≠ some (gh.bl k) := fun he => (ho3 _ he).1 k h0.1 rfl
      dsimp only
      rw [upd_ne gh.gv v' hne]
      have := h0.2
      unfold cellAt at this ⊢
      rw [hsame _ hlt hneb]; exact this
    · intro g' e' h
      obtain ⟨hu', hne⟩ := AS.uses_purge h
      dsimp only
      rw [upd_ne gh.gv v' hne]
      obtain ⟨⟨n', xs', h1, h2⟩, h3⟩ := r.own g' e' hu'
      refine ⟨⟨n', xs', ⟨h1.1, ?_⟩, fun b hb' => ?_⟩, h3⟩
      · rcases h1.2 with hn | ⟨g'', cap, cur, hv, hbg, hg', rest⟩
        · exact .inl hn
        · exact .inr ⟨g'', cap, cur, hv, hbg, by rw [hsame g'' (Array.getElem?_eq_some_iff.1 hg').1 (hother g' e' h g'' (by rw [hv]; rfl))]; exact hg', rest⟩
      · exact (hlim_old b (hpart b (h1.lt b hb').2 (hother g' e' h b hb'))).trans (h2 b hb')
    · intro g1 e1 g2 e2 h h' hne b hb'
      dsimp only at hb' ⊢
      rw [upd_ne gh.gv v' (AS.uses_purge h).2] at hb'
      rw [upd_ne gh.gv v' (AS.uses_purge h').2]
      exact r.alone g1 e1 g2 e2 (AS.uses_purge h).1 (AS.uses_purge h').1 hne b hb'
  · intro b h
    rcases hb b h with h | h
    · exact ho3 b h
    · refine ⟨fun k hk => ?_, ?_⟩
      · have := r.lt_box hk
        dsimp only
        omega
      · cases hs : look b σ.sh with
        | none => rfl
        | some c => have := r.lt_sh (b := b) (by simp [hs]); omega
  · intro g' e' h b hb'
    dsimp only
    rw [upd_ne gh.gv v' (AS.uses_purge h).2]
    intro he
    rcases hb b hb' with h1 | h1
    · exact hother g' e' h b he h1
    · have := r.uses_lt (AS.uses_purge h).1 he
      omega

structure OwnOk (cx : Cx) (gh : Gh) (σ : AS) (w : World) (g e : Nat) (V : Value) : Prop where
  own : ∃ m xs, w.ownsRow cx.B e (esz cx.P e) V m xs ∧ ∀ b, V.ownBlock = some b → gh.lim b = .upto (m * esz cx.P e)
  apart : ∀ b, V.ownBlock = some b → (∀ k, (look k σ.bx).isSome = true → gh.bl k ≠ b) ∧ look b σ.sh = none
  alone : ∀ g' e', σ.uses g' e' → g' ≠ g → ∀ b, V.ownBlock = some b → (gh.gv g').ownBlock ≠ some b

theorem RR.regroup {cx : Cx} {gh : Gh} {σ : AS} {a : Act} {w : World} (r : RR cx gh σ a w) (g : Nat) (hun : ∀ e, ¬ σ.uses g e) (V : Value) : RR cx { gh with gv := upd gh.gv g V } σ a w := by
  have hne : ∀ {g' e'}, σ.uses g' e' → g' ≠ g := fun h he => by subst he; exact hun _ h
  refine { frm := r.frm, base := r.base, limB := r.limB, size := r.size, ex := r.ex, gl := r.gl, tmps := ?_, boxes := r.boxes, inj := r.inj, shs := r.shs, apart := r.apart, tbs := ?_, own := ?_, alone := ?_ }
  · intro t x h
    have h1 := r.tmps t x h
    refine ⟨?_, h1.2⟩
    cases x with
    | un => trivial
    | bld l ns => exact h1.1
    | lp k o => exact h1.1
    | it k9 => trivial
    | cl f ks => exact h1.1
    | v y q =>
      refine ⟨h1.1.1, fun p hp => ?_⟩
      subst hp
      rw [h1.1.2 p rfl]
      exact (upd_ne gh.gv V (hne (e' := p.2) (.inl ⟨t, y, h⟩))).symm
  · intro k j g' e h
    have h1 := r.tbs k j g' e h
    refine ⟨h1.1, ?_⟩
    dsimp only
    rw [upd_ne gh.gv V (hne (e' := e) (.inr ⟨k, j, h⟩))]
    exact h1.2
  · intro g' e h
    dsimp only
    rw [upd_ne gh.gv V (hne h)]
    exact r.own g' e h
  · intro g1 e1 g2 e2 h h' hne' b hb
    dsimp only at hb ⊢
    rw [upd_ne gh.gv V (hne h)] at hb
    rw [upd_ne gh.gv V (hne h')]
    exact r.alone g1 e1 g2 e2 h h' hne' b hb

theorem RR.putTag {cx : Cx} {gh : Gh} {σ : AS} {a : Act} {w : World} (r : RR cx gh σ a w) (d : Option Nat) (hd : ∀ t, d = some t → t < σ.n ∧ t ∉ σ.fx) (g e : Nat) {x : AV} (hx : Rep gh.lim w.heap (gh.gv g) x)
    (ho : OwnOk cx gh σ w g e (gh.gv g)) (hu : ∀ e', σ.uses g e' → e' = e) : RR cx gh (σ.put d (.v x (some (g, e)))) (a.put d (gh.gv g)) w := by
  cases d with
  | none => exact r
  | some t =>
    have ht := (hd t rfl).1
    have huses : ∀ g' e', (σ.put (some t) (.v x (some (g, e)))).uses g' e' → (g' = g ∧ e' = e) ∨ σ.uses g' e' := by
      intro g' e' h
      rcases h with ⟨s, y, h⟩ | h
      · simp only [AS.put, look] at h
        split at h
        · simp only [Option.some.injEq, TV.v.injEq, Prod.mk.injEq] at h
          exact .inl ⟨h.2.1.symm, h.2.2.symm⟩
        · exact .inr (.inl ⟨s, y, h⟩)
      · exact .inr (.inr h)
    refine { frm := r.frm, base := r.base, limB := r.limB, size := by rw [Act.put_size]; exact r.size, ex := r.ex.put (some t) hd _ rfl _, gl := r.gl, tmps := ?_, boxes := r.boxes, inj := r.inj, shs := r.shs, apart := r.apart, tbs := r.tbs, own := ?_, alone := ?_ }
    · intro s y h
      simp only [AS.put, look] at h
      have hsz := r.size
      by_cases hts : t = s
      · subst hts
        simp only [if_true] at h
        injection h with h; subst h
        refine ⟨?_, by simp⟩
        simp only [Act.put, Array.getD_eq_getD_getElem?]
        rw [Array.getElem?_setIfInBounds_self_of_lt (by rw [hsz]; exact ht)]
        exact ⟨hx, fun p hp => by simp at hp; rw [← hp]; rfl⟩
      · simp only [hts, if_false] at h
        have := r.tmps s y h
        simpa [Act.put, AS.put, Array.getElem?_setIfInBounds_ne hts] using this
    · intro g' e' h
      rcases huses g' e' h with ⟨rfl, rfl⟩ | h
      · exact ⟨ho.own, ho.apart⟩
      · exact r.own g' e' h
    · intro g1 e1 g2 e2 h h' hne b hb
      rcases huses g1 e1 h with ⟨q1, q2⟩ | q <;> rcases huses g2 e2 h' with ⟨q3, q4⟩ | q'
      · exact absurd (q1.trans q3.symm) hne
      · subst q1; exact ho.alone g2 e2 q' (fun he => hne he.symm) b hb
      · subst q3; exact fun hb' => ho.alone g1 e1 q hne b hb' hb
      · exact r.alone g1 e1 g2 e2 q q' hne b hb

theorem RR.tagCell {cx : Cx} {gh : Gh} {σ : AS} {a : Act} {w : World} (r : RR cx gh σ a w) (k j g e : Nat) (hk : (look k σ.bx).isSome = true) (hc : cellAt w.heap (gh.bl k) j = some (gh.gv g))
    (ho : OwnOk cx gh σ w g e (gh.gv g)) : RR cx gh { σ with tb := (k, j, g, e) :: σ.tb } a w := by
  have huses : ∀ g' e', AS.uses { σ with tb := (k, j, g, e) :: σ.tb } g' e' → (g' = g ∧ e' = e) ∨ σ.uses g' e' := by
    intro g' e' h
    rcases h with h | ⟨k', j', h⟩
    · exact .inr (.inl h)
    · simp only [List.mem_cons, Prod.mk.injEq] at h
      rcases h with ⟨-, -, rfl, rfl⟩ | h
      · exact .inl ⟨rfl, rfl⟩
      · exact .inr (.inr ⟨k', j', h⟩)
  refine { frm := r.frm, base := r.base, limB := r.limB, size := r.size, ex := r.ex.sub (fun _ _ h => h) rfl rfl, gl := r.gl, tmps := r.tmps, boxes := r.boxes, inj := r.inj, shs := r.shs, apart := r.apart, tbs := ?_, own := ?_, alone := ?_ }
  · intro k' j' g' e' h
    simp only [List.mem_cons, Prod.mk.injEq] at h
    rcases h with ⟨rfl, rfl, rfl, rfl⟩ | h
    · exact ⟨hk, hc⟩
    · exact r.tbs k' j' g' e' h
  · intro g' e' h
    rcases huses g' e' h with ⟨rfl, rfl⟩ | h
    · exact ⟨ho.own, ho.apart⟩
    · exact r.own g' e' h
  · intro g1 e1 g2 e2 h h' hne b hb
    rcases huses g1 e1 h with ⟨q1, q2⟩ | q <;> rcases huses g2 e2 h' with ⟨q3, q4⟩ | q'
    · exact absurd (q1.trans q3.symm) hne
    · subst q1; exact ho.alone g2 e2 q' (fun he => hne he.symm) b hb
    · subst q3; exact fun hb' => ho.alone g1 e1 q hne b hb' hb
    · exact r.alone g1 e1 g2 e2 q q' hne b hb

theorem OwnOk.nil {cx : Cx} {gh : Gh} {σ : AS} {w : World} (g e : Nat) : OwnOk cx gh σ w g e (.slice none 0 0) :=
  ⟨⟨0, [], World.ownsRow_nil w _ _ _, fun b h => (by cases h)⟩, fun b h => (by cases h), fun _ _ _ _ b h => (by cases h)⟩

structure AS.le (σ' σ : AS) : Prop where
  n : σ'.n = σ.n
  tm : ∀ t x, look t σ'.tm = some x → look t σ.tm = some x ∧ ∀ k o, x = .lp k o → (look k σ'.bx).isSome = true
  bx : ∀ k c, look k σ'.bx = some c → look k σ.bx = some c
  tb : ∀ q, q ∈ σ'.tb → q ∈ σ.tb ∧ (look q.1 σ'.bx).isSome = true
  sh : ∀ b c, look b σ'.sh = some c → look b σ.sh = some c
  ys : σ'.ys = σ.ys
  fx : σ'.fx = σ.fx
  mks : σ'.mks = σ.mks

theorem RR.weak {cx : Cx} {gh : Gh} {σ σ' : AS} {a : Act} {w : World} (r : RR cx gh σ a w) (h : σ'.le σ) : RR cx gh σ' a w := by
  have hs : ∀ {k}, (look k σ'.bx).isSome = true → (look k σ.bx).isSome = true := fun hk => by
    obtain ⟨c, hc⟩ := Option.isSome_iff_exists.1 hk
    simp [h.bx _ c hc]
  have hu : ∀ {g e}, σ'.uses g e → σ.uses g e := by
    rintro g e (⟨t, x, hx⟩ | ⟨k, j, hx⟩)
    · exact .inl ⟨t, x, (h.tm t _ hx).1⟩
    · exact .inr ⟨k, j, (h.tb _ hx).1⟩
  refine { frm := r.frm, base := r.base, limB := r.limB, size := r.size.trans h.n.symm, ex := r.ex.sub (fun t q hx => (h.tm t _ hx).1) h.ys h.fx h.mks, gl := r.gl, tmps := fun t x hx => ⟨(r.tmps t x (h.tm t x hx).1).1, (h.tm t x hx).2⟩, boxes := fun k c hk => r.boxes k c (h.bx k c hk), inj := fun k k' h1 h2 => r.inj k k' (hs h1) (hs h2), shs := fun b c hb => r.shs b c (h.sh b c hb), apart := fun b k h1 h2 => ?_, tbs := fun k j g e hq => ⟨(h.tb _ hq).2, (r.tbs k j g e (h.tb _ hq).1).2⟩, own := fun g e hg => ?_, alone := fun g e g' e' h1 h2 => r.alone g e g' e' (hu h1) (hu h2) }
  · obtain ⟨c, hc⟩ := Option.isSome_iff_exists.1 h1
    exact r.apart b k (by simp [h.sh b c hc]) (hs h2)
  · obtain ⟨h1, h2⟩ := r.own g e (hu hg)
    refine ⟨h1, fun b hb => ⟨fun k hk => (h2 b hb).1 k (hs hk), ?_⟩⟩
    cases hq : look b σ'.sh with
    | none => rfl
    | some c => exact absurd (h2 b hb).2 (by simp [h.sh b c hq])

def pick {α : Type} (ks : List Nat) (l : List (Nat × α)) : List (Nat × α) :=
  match ks with
  | [] => []
  | k :: r => match look k l with
    | some x => (k, x) :: pick r l
    | none => pick r l

theorem look_pick {α : Type} (l : List (Nat × α)) (k : Nat) (x : α) : ∀ ks, look k (pick ks l) = some x → look k l = some x
  | [], h => by cases h
  | j :: r, h => by
    unfold pick at h
    split at h
    · rename_i y hy
      simp only [look] at h
      split at h
      · rename_i he; subst he; rw [hy]; exact h
      · exact look_pick l k x r h
    · exact look_pick l k x r h

def lpOk (bx : List (Nat × List AV)) : List (Nat × TV) → Bool
  | [] => true
  | (_, .lp k _) :: r => (look k bx).isSome && lpOk bx r
  | (_, .un) :: r | (_, .v _ _) :: r | (_, .bld _ _) :: r | (_, .it _) :: r | (_, .cl _ _) :: r => lpOk bx r

theorem lpOk_spec {bx : List (Nat × List AV)} : ∀ {tm : List (Nat × TV)}, lpOk bx tm = true → ∀ t k o, look t tm = some (.lp k o) → (look k bx).isSome = true
  | [], _, t, k, o, h => by cases h
  | (j, x) :: r, hl, t, k, o, h => by
    simp only [look] at h
    cases x <;> simp only [lpOk, Bool.and_eq_true] at hl
    case lp k' o' =>
      split at h
      · injection h with h; injection h with h1 h2; subst h1; exact hl.1
      · exact lpOk_spec hl.2 t k o h
    all_goals
      split at h
      · injection h with h; cases h
      · exact lpOk_spec hl t k o h

def AS.keep (σ : AS) (ts bs : List Nat) : AS := { σ with tm := pick ts σ.tm, bx := pick bs σ.bx, tb := σ.tb.filter fun q => (look q.1 (pick bs σ.bx)).isSome }

theorem AS.keep_le {σ : AS} {ts bs : List Nat} (h : lpOk (pick bs σ.bx) (pick ts σ.tm) = true) : (σ.keep ts bs).le σ where
  n := rfl
  tm := fun t x hx => ⟨look_pick σ.tm t x ts hx, fun k o he => by subst he; exact lpOk_spec h t k o hx⟩
  bx := fun k c hc => look_pick σ.bx k c bs hc
  tb := fun q hq => by have := List.mem_filter.1 hq; exact ⟨this.1, this.2⟩
  sh := fun b c hc => hc
  ys := rfl
  fx := rfl
  mks := rfl

end Go.Pv
end
