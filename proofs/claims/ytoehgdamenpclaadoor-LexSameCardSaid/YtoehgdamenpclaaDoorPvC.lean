/- What the operations on memory do to the abstract state. -/
import Derived.Test.YtoehgdamenpclaaDoorPvB
namespace Go.Pv
open Go

def limUp (lim : Lim) (n : Nat) : Lim := fun b => if b < n then lim b else none
theorem limUp_lt {lim : Lim} {n b : Nat} (h : b < n) : limUp lim n b = lim b := by simp [limUp, h]
theorem limUp_ge {lim : Lim} {n b : Nat} (h : n ≤ b) : limUp lim n b = none := by simp [limUp, Nat.not_lt.2 h]

theorem Frm.alloc (w : World) (o : Obj) : Frm w.heap.size (fun _ => False) w (w.alloc o) := ⟨rfl, rfl, rfl, by simp, fun k hk _ => heap_alloc_old w o hk⟩

theorem RR.lt_box {cx : Cx} {gh : Gh} {σ : AS} {a : Act} {w : World} (r : RR cx gh σ a w) {k : Nat} (h : (look k σ.bx).isSome = true) : gh.bl k < w.heap.size := by
  obtain ⟨cells, hc⟩ := Option.isSome_iff_exists.1 h
  obtain ⟨_, _, cs, e, h3, _⟩ := r.boxes k cells hc
  exact (Array.getElem?_eq_some_iff.1 h3).1

theorem RR.lt_sh {cx : Cx} {gh : Gh} {σ : AS} {a : Act} {w : World} (r : RR cx gh σ a w) {b : Nat} (h : (look b σ.sh).isSome = true) : b < w.heap.size := by
  obtain ⟨cells, hc⟩ := Option.isSome_iff_exists.1 h
  obtain ⟨_, _, cs, e, h3, _⟩ := r.shs b cells hc
  exact (Array.getElem?_eq_some_iff.1 h3).1

theorem RR.lt_own {cx : Cx} {gh : Gh} {σ : AS} {a : Act} {w : World} (r : RR cx gh σ a w) {g e : Nat} (h : σ.uses g e) {b : Nat} (hb : (gh.gv g).ownBlock = some b) : b < w.heap.size ∧ cx.B ≤ b := by
  obtain ⟨⟨m, xs, h1, _⟩, _⟩ := r.own g e h
  exact ⟨(h1.lt b hb).2, (h1.lt b hb).1⟩

def upd {α : Type} (f : Nat → α) (k : Nat) (x : α) : Nat → α := fun j => if j = k then x else f j
@[simp] theorem upd_same {α : Type} (f : Nat → α) (k : Nat) (x : α) : upd f k x k = x := by simp [upd]
theorem upd_ne {α : Type} (f : Nat → α) {k j : Nat} (x : α) (h : j ≠ k) : upd f k x j = f j := by simp [upd, h]

/-- A new row of cells that nobody will write. -/
theorem RR.newrow {cx : Cx} {gh : Gh} {σ : AS} {a : Act} {w : World} (r : RR cx gh σ a w) (o : Obj) : RR cx { gh with lim := limUp gh.lim w.heap.size } σ a (w.alloc o) :=
  r.grow _ (Frm.alloc w o) (fun _ hb => limUp_lt hb)

/-- A new box. -/
theorem RR.newbox {cx : Cx} {gh : Gh} {σ : AS} {a : Act} {w : World} (r : RR cx gh σ a w) (k : Nat) (hk : look k σ.bx = none) (hcl : ∀ t f ks, look t σ.tm = some (.cl f ks) → k ∉ ks) (cells : List AV) (cs : Array Value) (e : TypeId) (hc : RepL gh.lim w.heap cs.toList cells) :
    RR cx { gh with lim := upd gh.lim w.heap.size (some 0), bl := upd gh.bl k w.heap.size } { σ with bx := (k, cells) :: σ.bx } a (w.alloc (.cells cs e)) := by
  have hl : ∀ b, b < w.heap.size → upd gh.lim w.heap.size (some 0) b = gh.lim b := fun b hb => upd_ne _ _ (by omega)
  have r1 := r.grow (w' := w.alloc (.cells cs e)) (upd gh.lim w.heap.size (some 0)) (Frm.alloc w _) hl
  have hkeep : Keep gh.lim w.heap (upd gh.lim w.heap.size (some 0)) (w.alloc (.cells cs e)).heap := Keep.of_same hl (fun b hb => heap_alloc_old w _ hb)
  have hne : ∀ {k' : Nat}, (look k' σ.bx).isSome = true → k' ≠ k := fun h he => by subst he; rw [hk] at h; cases h
  have hbl : ∀ {k' : Nat}, (look k' σ.bx).isSome = true → upd gh.bl k w.heap.size k' = gh.bl k' := fun h => upd_ne _ _ (hne h)
  have hlk : ∀ k', (look k' ((k, cells) :: σ.bx)).isSome = true → k' = k ∨ (look k' σ.bx).isSome = true := by
    intro k' h
    simp only [look] at h
    split at h
    · rename_i h'; exact .inl h'.symm
    · exact .inr h
  have hlk' : ∀ {k' : Nat}, (look k' σ.bx).isSome = true → (look k' ((k, cells) :: σ.bx)).isSome = true := by
    intro k' h
    simp only [look]
    split
    · rfl
    · exact h
  refine { frm := r1.frm, base := r1.base, limB := r1.limB, size := r1.size, ex := r1.ex.sub (fun _ _ _ h => h) rfl rfl, gl := r1.gl, tmps := ?_, boxes := ?_, inj := ?_, shs := r1.shs, apart := ?_, tbs := ?_, own := ?_, alone := r1.alone }
  · intro t x h
    have h1 := r1.tmps t x h
    refine ⟨?_, fun k' off hx => hlk' (h1.2 k' off hx)⟩
    cases x with
    | un => trivial
    | v y g => exact h1.1
    | bld l ns => exact h1.1
    | lp k' off =>
      have h2 := h1.1
      simp only [TRep] at h2 ⊢
      rw [hbl (h1.2 k' off rfl)]; exact h2
    | it s p => trivial
    | cl f ks =>
      have h2 := h1.1
      have h3 := hcl t f ks h
      simp only [TRep] at h2 ⊢
      rw [h2]
      congr 2
      apply List.map_congr_left
      intro q hq
      rw [upd_ne _ _ (fun (he : q = k) => h3 (by rw [← he]; exact hq))]
  · intro k' cells' h
    simp only [look] at h
    split at h
    · rename_i he; subst he
      injection h with h; subst h
      refine ⟨by simpa using r.base, by simp, cs, e, ?_, hc.mono hkeep⟩
      simpa using heap_alloc_new w _
    · have h2 := r1.boxes k' cells' h
      have h3 := hbl (k' := k') (by simp [h])
      dsimp only at h2 ⊢
      rw [h3]
      exact h2
  · intro k1 k2 h1 h2 he
    dsimp only at he
    by_cases e1 : k1 = k <;> by_cases e2 : k2 = k
    · rw [e1, e2]
    · have g2 := (hlk k2 h2).resolve_left e2
      rw [e1, upd_same, hbl g2] at he
      have := r.lt_box g2
      omega
    · have g1 := (hlk k1 h1).resolve_left e1
      rw [e2, upd_same, hbl g1] at he
      have := r.lt_box g1
      omega
    · have g1 := (hlk k1 h1).resolve_left e1
      have g2 := (hlk k2 h2).resolve_left e2
      rw [hbl g1, hbl g2] at he
      exact r.inj k1 k2 g1 g2 he
  · intro b k' hb h'
    dsimp only
    rcases hlk k' h' with rfl | h'
    · rw [upd_same]
      have := r.lt_sh hb
      omega
    · rw [hbl h']; exact r.apart b k' hb h'
  · intro k' j g e' h
    obtain ⟨h1, h2⟩ := r1.tbs k' j g e' h
    have h1' : (look k' σ.bx).isSome = true := h1
    refine ⟨hlk' h1, ?_⟩
    dsimp only at h2 ⊢
    rw [hbl h1']; exact h2
  · intro g e' h
    obtain ⟨h1, h2⟩ := r1.own g e' h
    refine ⟨h1, fun b hb => ⟨fun k' h' => ?_, (h2 b hb).2⟩⟩
    dsimp only at hb ⊢
    rcases hlk k' h' with rfl | h'
    · rw [upd_same]
      have := (r.lt_own (g := g) (e := e') h hb).1
      omega
    · rw [hbl h']; exact (h2 b hb).1 k' h'

def splice (cells : List AV) (off : Nat) (xs : List AV) : List AV := cells.take off ++ xs ++ cells.drop (off + xs.length)
def tbOf (k off : Nat) : Option (Nat × Nat) → List (Nat × Nat × Nat × Nat)
  | some p => [(k, off, p.1, p.2)]
  | none => []
def clr (tb : List (Nat × Nat × Nat × Nat)) (k off n : Nat) : List (Nat × Nat × Nat × Nat) := tb.filter fun q => !(q.1 == k && (decide (off ≤ q.2.1) && decide (q.2.1 < off + n)))

theorem Keep.setRow {lim : Lim} {w : World} {b : Nat} (hb : lim b = some 0) (cs : Array Value) : Keep lim w.heap lim (w.setRow b cs).heap := by
  rintro b' o ⟨cs', e, g, hc⟩ ho
  have hne : b' ≠ b := fun he => by subst he; exact absurd (ho 0 hb) (Nat.not_lt_zero _)
  refine ⟨⟨cs', e, g, (setRow_other w b b' cs hne).trans hc⟩, ho, ?_⟩
  unfold cellAt
  rw [setRow_other w b b' cs hne]

theorem Frm.setRow {B : Nat} {S : Nat → Prop} (w : World) (b : Nat) (cs : Array Value) (h : S b ∨ B ≤ b) : Frm B S w (w.setRow b cs) :=
  ⟨rfl, rfl, rfl, by simp, fun k hk hs => setRow_other w b k cs (fun he => by subst he; rcases h with h | h; exact hs h; omega)⟩

theorem Oth.setRow (w : World) (b : Nat) (cs : Array Value) {cur : Array Value} {e : TypeId} {g : Nat × Nat} (h : w.heap[b]? = some (.cells cur e g)) : Oth w (w.setRow b cs) := fun k o hk ho => by
  refine (setRow_other w b k cs (fun he => ?_)).trans hk
  subst he
  rw [h] at hk; cases hk; cases ho

/-- A store into a box: off, n cells. -/
theorem RR.store {cx : Cx} {gh : Gh} {σ : AS} {a : Act} {w : World} (r : RR cx gh σ a w) (hy : cx.gl.y = none) (k off : Nat) {cells : List AV} (hk : look k σ.bx = some cells) (vs : List Value) (xs : List AV)
    (hx : RepL gh.lim w.heap vs xs) (ho : off + xs.length ≤ cells.length) (tg : Option (Nat × Nat)) (htg : ∀ p, tg = some p → vs = [gh.gv p.1] ∧ σ.uses p.1 p.2) :
    ∃ cur e, w.heap[gh.bl k]? = some (.cells cur e (0, 0)) ∧ off + vs.length ≤ cur.size ∧
      RR cx gh { σ with bx := (k, splice cells off xs) :: σ.bx, tb := tbOf k off tg ++ clr σ.tb k off xs.length } a
        (w.setRow (gh.bl k) (cur.toList.take off ++ vs ++ cur.toList.drop (off + vs.length)).toArray) := by
  obtain ⟨hB, hlim, cur, e, hcur, hrep⟩ := r.boxes k cells hk
  have hsome : (look k σ.bx).isSome = true := by simp [hk]
  have hlen : cur.size = cells.length := by have := hrep.1; simpa using this
  refine ⟨cur, e, hcur, by rw [hx.1, hlen]; exact ho, ?_⟩
  generalize hnew : (cur.toList.take off ++ vs ++ cur.toList.drop (off + vs.length)).toArray = new
  have hkeep := Keep.setRow (w := w) hlim new
  have hlk : ∀ k', (look k' ((k, splice cells off xs) :: σ.bx)).isSome = (look k' σ.bx).isSome := by
    intro k'
    simp only [look]
    split
    · rename_i h; subst h; rw [hsome]; rfl
    · rfl
  have hheap : ∀ b, b ≠ gh.bl k → (w.setRow (gh.bl k) new).heap[b]? = w.heap[b]? := fun b hb => setRow_other w _ b new hb
  have hspl : RepL gh.lim (w.setRow (gh.bl k) new).heap new.toList (splice cells off xs) := by
    have h0 : RepL gh.lim w.heap new.toList (splice cells off xs) := by
      rw [← hnew]
      unfold splice
      rw [← hx.1]
      exact ((hrep.take off).append hx).append (hrep.drop _)
    exact h0.mono hkeep
  have husesI : ∀ g e', (AS.uses { σ with bx := (k, splice cells off xs) :: σ.bx, tb := tbOf k off tg ++ clr σ.tb k off xs.length } g e') → σ.uses g e' := by
    intro g e' h
    rcases h with h | ⟨k', j, h⟩
    · exact .inl h
    · simp only [List.mem_append] at h
      rcases h with h | h
      · cases tg with
        | none => simp [tbOf] at h
        | some p => simp [tbOf] at h; obtain ⟨-, -, rfl, rfl⟩ := h; exact (htg p rfl).2
      · exact .inr ⟨k', j, (List.mem_filter.1 h).1⟩
  refine { frm := r.frm.trans (Frm.setRow w _ _ (.inr hB)), base := by simpa using r.base, limB := r.limB, size := r.size, ex := (r.ex.step hkeep (Oth.setRow w _ _ hcur) (.inl hy)).sub (fun _ _ _ h => h) rfl rfl, gl := fun g c h => (r.gl g c h).mono hkeep, tmps := ?_, boxes := ?_, inj := ?_, shs := ?_, apart := ?_, tbs := ?_, own := ?_, alone := fun g e1 g' e2 h h' => r.alone g e1 g' e2 (husesI _ _ h) (husesI _ _ h') }
  · intro t x h
    have h1 := r.tmps t x h
    refine ⟨?_, fun k' o hx' => by rw [hlk]; exact h1.2 k' o hx'⟩
    cases x with
    | un => trivial
    | v y g => exact ⟨h1.1.1.mono hkeep, h1.1.2⟩
    | bld l ns => exact ⟨h1.1.1.mono hkeep, h1.1.2⟩
    | lp k' o => exact h1.1
    | it s p => trivial
    | cl f ks => exact h1.1
  · intro k' cells' h
    simp only [look] at h
    split at h
    · rename_i he; subst he
      injection h with h; subst h
      exact ⟨hB, hlim, new, e, setRow_heap w _ cur new e _ hcur, hspl⟩
    · rename_i hne
      obtain ⟨h1, h2, cs, e', h3, h4⟩ := r.boxes k' cells' h
      have hbne : gh.bl k' ≠ gh.bl k := fun he => hne (r.inj k k' hsome (by simp [h]) he.symm)
      exact ⟨h1, h2, cs, e', (hheap _ hbne).trans h3, h4.mono hkeep⟩
  · intro k1 k2 h1 h2 he
    rw [hlk] at h1 h2
    exact r.inj k1 k2 h1 h2 he
  · intro b cells' h
    obtain ⟨h1, h2, cs, e', h3, h4⟩ := r.shs b cells' h
    have hbne : b ≠ gh.bl k := fun he => r.apart b k (by simp [h]) hsome he.symm
    exact ⟨h1, h2, cs, e', (hheap _ hbne).trans h3, h4.mono hkeep⟩
  · intro b k' h1 h2
    rw [hlk] at h2
    exact r.apart b k' h1 h2
  · intro k' j g e' h
    rw [hlk]
    simp only [List.mem_append] at h
    rcases h with h | h
    · cases tg with
      | none => simp [tbOf] at h
      | some p =>
        simp [tbOf] at h
        obtain ⟨rfl, rfl, rfl, rfl⟩ := h
        refine ⟨hsome, ?_⟩
        have hvs := (htg p rfl).1
        have hl1 : xs.length = 1 := by rw [← hx.1, hvs]; rfl
        unfold cellAt
        rw [setRow_heap w _ cur new e _ hcur]
        have htake : (cur.toList.take j).length = j := by simp; omega
        show new[j]? = _
        rw [← hnew, hvs]
        simp only [List.append_assoc, List.getElem?_toArray]
        rw [List.getElem?_append_right (by omega), htake]
        simp
    · obtain ⟨h, hnot⟩ := List.mem_filter.1 h
      obtain ⟨h1, h2⟩ := r.tbs k' j g e' h
      refine ⟨h1, ?_⟩
      by_cases hkk : k' = k
      · subst hkk
        unfold cellAt at h2 ⊢
        rw [hcur] at h2
        rw [setRow_heap w _ cur new e _ hcur]
        simp only [] at h2 ⊢
        have hj : j < cur.size := (Array.getElem?_eq_some_iff.1 h2).1
        have hout : ¬ (off ≤ j ∧ j < off + xs.length) := by simp at hnot; omega
        have htake : (cur.toList.take off).length = off := by simp; omega
        rw [← hnew, List.getElem?_toArray]
        have hvl := hx.1
        rcases Nat.lt_or_ge j off with hlt | hge
        · rw [List.append_assoc, List.getElem?_append_left (by omega), List.getElem?_take, if_pos hlt]
          simpa using h2
        · have hge2 : off + xs.length ≤ j := by omega
          rw [List.getElem?_append_right (by simp; omega), List.getElem?_drop]
          have : off + vs.length + (j - (cur.toList.take off ++ vs).length) = j := by rw [List.length_append, htake]; omega
          rw [this]
          simpa using h2
      · have hbne : gh.bl k' ≠ gh.bl k := fun he => hkk (r.inj k' k h1 hsome he)
        unfold cellAt at h2 ⊢
        rw [hheap _ hbne]; exact h2
  · intro g e' h
    obtain ⟨⟨m, xs', h1, h2⟩, h3⟩ := r.own g e' (husesI g e' h)
    refine ⟨⟨m, xs', ⟨h1.1, ?_⟩, h2⟩, fun b hb => ⟨fun k' h' => by rw [hlk] at h'; exact (h3 b hb).1 k' h', (h3 b hb).2⟩⟩
    rcases h1.2 with hn | ⟨g', cap, cur', hv, hbg, hg', rest⟩
    · exact .inl hn
    · refine .inr ⟨g', cap, cur', hv, hbg, ?_, rest⟩
      rw [hheap g' (fun he => (h3 g' (by rw [hv]; rfl)).1 k hsome he.symm)]
      exact hg'

/-- A store into an object that others may hold. -/
theorem RR.storeSh {cx : Cx} {gh : Gh} {σ : AS} {a : Act} {w : World} (r : RR cx gh σ a w) (hy : cx.gl.y = none) (b0 off : Nat) {cells : List AV} (hk : look b0 σ.sh = some cells) (vs : List Value) (xs : List AV)
    (hx : RepL gh.lim w.heap vs xs) (ho : off + xs.length ≤ cells.length) :
    ∃ cur e, w.heap[b0]? = some (.cells cur e (0, 0)) ∧ off + vs.length ≤ cur.size ∧
      RR cx gh { σ with sh := (b0, splice cells off xs) :: σ.sh } a (w.setRow b0 (cur.toList.take off ++ vs ++ cur.toList.drop (off + vs.length)).toArray) := by
  obtain ⟨hB, hlim, cur, e, hcur, hrep⟩ := r.shs b0 cells hk
  have hsome : (look b0 σ.sh).isSome = true := by simp [hk]
  have hlen : cur.size = cells.length := by have := hrep.1; simpa using this
  refine ⟨cur, e, hcur, by rw [hx.1, hlen]; exact ho, ?_⟩
  generalize hnew : (cur.toList.take off ++ vs ++ cur.toList.drop (off + vs.length)).toArray = new
  have hkeep := Keep.setRow (w := w) hlim new
  have hlk : ∀ k', (look k' ((b0, splice cells off xs) :: σ.sh)).isSome = (look k' σ.sh).isSome := by
    intro k'
    simp only [look]
    split
    · rename_i h; subst h; rw [hsome]; rfl
    · rfl
  have hheap : ∀ b, b ≠ b0 → (w.setRow b0 new).heap[b]? = w.heap[b]? := fun b hb => setRow_other w _ b new hb
  have hspl : RepL gh.lim (w.setRow b0 new).heap new.toList (splice cells off xs) := by
    have h0 : RepL gh.lim w.heap new.toList (splice cells off xs) := by
      rw [← hnew]
      unfold splice
      rw [← hx.1]
      exact ((hrep.take off).append hx).append (hrep.drop _)
    exact h0.mono hkeep
  refine { frm := r.frm.trans (Frm.setRow w _ _ hB), base := by simpa using r.base, limB := r.limB, size := r.size, ex := (r.ex.step hkeep (Oth.setRow w _ _ hcur) (.inl hy)).sub (fun _ _ _ h => h) rfl rfl, gl := fun g c h => (r.gl g c h).mono hkeep, tmps := ?_, boxes := ?_, inj := r.inj, shs := ?_, apart := ?_, tbs := ?_, own := ?_, alone := r.alone }
  · intro t x h
    have h1 := r.tmps t x h
    refine ⟨?_, h1.2⟩
    cases x with
    | un => trivial
    | v y g => exact ⟨h1.1.1.mono hkeep, h1.1.2⟩
    | bld l ns => exact ⟨h1.1.1.mono hkeep, h1.1.2⟩
    | lp k' o => exact h1.1
    | it s p => trivial
    | cl f ks => exact h1.1
  · intro k' cells' h
    obtain ⟨h1, h2, cs, e', h3, h4⟩ := r.boxes k' cells' h
    have hbne : gh.bl k' ≠ b0 := r.apart b0 k' hsome (by simp [h])
    exact ⟨h1, h2, cs, e', (hheap _ hbne).trans h3, h4.mono hkeep⟩
  · intro b cells' h
    simp only [look] at h
    split at h
    · rename_i he; subst he
      injection h with h; subst h
      exact ⟨hB, hlim, new, e, setRow_heap w _ cur new e _ hcur, hspl⟩
    · rename_i hne
      obtain ⟨h1, h2, cs, e', h3, h4⟩ := r.shs b cells' h
      exact ⟨h1, h2, cs, e', (hheap _ (fun he => hne he.symm)).trans h3, h4.mono hkeep⟩
  · intro b k' h1 h2
    rw [hlk] at h1
    exact r.apart b k' h1 h2
  · intro k' j g e' h
    obtain ⟨h1, h2⟩ := r.tbs k' j g e' h
    refine ⟨h1, ?_⟩
    unfold cellAt at h2 ⊢
    rw [hheap _ (r.apart b0 k' hsome h1)]; exact h2
  · intro g e' h
    obtain ⟨⟨m, xs', h1, h2⟩, h3⟩ := r.own g e' h
    have hno : ∀ b, (gh.gv g).ownBlock = some b → b ≠ b0 := fun b hb he => by
      have := (h3 b hb).2
      rw [he, hk] at this; cases this
    refine ⟨⟨m, xs', ⟨h1.1, ?_⟩, h2⟩, fun b hb => ⟨(h3 b hb).1, ?_⟩⟩
    · rcases h1.2 with hn | ⟨g', cap, cur', hv, hbg, hg', rest⟩
      · exact .inl hn
      · exact .inr ⟨g', cap, cur', hv, hbg, by rw [hheap g' (hno g' (by rw [hv]; rfl))]; exact hg', rest⟩
    · simp only [look, if_neg (fun he : b0 = b => hno b hb he.symm)]
      exact (h3 b hb).2

end Go.Pv
