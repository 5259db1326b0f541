import Derived.Test.YtghmdnfdocdgfaaDoorPvOj
import Derived.Test.YtghmdnfdocdgfaaDoorPvY
set_option linter.all false
section
/- A function that changes strings in one object and in the blocks of one region: what lies there all the same. -/
namespace Go.Pv
open Go

def StrAl (k : Nat) (v v' : Value) : Prop := v' = v ∨ ∃ s s' : ByteArray, v = .string s ∧ v' = .string s' ∧ s'.size ≤ s.size + k
theorem StrAl.mono {k k' : Nat} (h : k ≤ k') {v v' : Value} (r : StrAl k v v') : StrAl k' v v' := by
  rcases r with r | ⟨s, s', h1, h2, h3⟩
  · exact .inl r
  · exact .inr ⟨s, s', h1, h2, by omega⟩
theorem StrAl.str {k : Nat} {s : ByteArray} {v' : Value} (r : StrAl k (.string s) v') : ∃ s', v' = .string s' ∧ s'.size ≤ s.size + k := by
  rcases r with r | ⟨a, s', h1, h2, h3⟩
  · exact ⟨s, r, by omega⟩
  · cases h1; exact ⟨s', h2, h3⟩
theorem StrAl.sl {k n cap : Nat} {p : Option Addr} {v' : Value} (r : StrAl k (.slice p n cap) v') : v' = .slice p n cap := by
  rcases r with r | ⟨a, s', h1, h2, h3⟩
  · exact r
  · cases h1

structure Altd (lim : Lim) (ρ b0 k : Nat) (h0 h : Array Obj) : Prop where
  size : h0.size ≤ h.size
  same : ∀ b : Nat, b < h0.size → b ≠ b0 → lim b ≠ .reg ρ → h[b]? = h0[b]?
  cells : ∀ (b : Nat) cs e g, h0[b]? = some (.cells cs e g) → ∃ cs', h[b]? = some (.cells cs' e g) ∧ ∀ (j : Nat) v, cs[j]? = some v → ∃ v', cs'[j]? = some v' ∧ StrAl k v v'
  oth : ∀ (b : Nat) (o : Obj), h0[b]? = some o → o.isCells = false → h[b]? = some o
theorem Altd.refl (lim : Lim) (ρ b0 k : Nat) (h : Array Obj) : Altd lim ρ b0 k h h :=
  ⟨Nat.le_refl _, fun _ _ _ _ => rfl, fun _ cs _ _ h => ⟨cs, h, fun _ v hv => ⟨v, hv, .inl rfl⟩⟩, fun _ _ h _ => h⟩
theorem Altd.mono {lim : Lim} {ρ b0 k k' : Nat} {h0 h : Array Obj} (hk : k ≤ k') (m : Altd lim ρ b0 k h0 h) : Altd lim ρ b0 k' h0 h :=
  ⟨m.size, m.same, fun b cs e g hb => by
    obtain ⟨cs', h1, h2⟩ := m.cells b cs e g hb
    exact ⟨cs', h1, fun j v hv => by obtain ⟨v', h3, h4⟩ := h2 j v hv; exact ⟨v', h3, h4.mono hk⟩⟩, m.oth⟩
theorem Altd.cell {lim : Lim} {ρ b0 k : Nat} {h0 h : Array Obj} (m : Altd lim ρ b0 k h0 h) {b j : Nat} {v : Value} (hv : cellAt h0 b j = some v) : ∃ v', cellAt h b j = some v' ∧ StrAl k v v' := by
  obtain ⟨cs, e, g, hb⟩ := cellAt_B hv
  obtain ⟨cs', h1, h2⟩ := m.cells b cs e g hb
  unfold cellAt at hv ⊢
  rw [hb] at hv
  rw [h1]
  exact h2 j v hv
theorem Altd.store {lim : Lim} {ρ b0 k k' : Nat} {h0 : Array Obj} {w : World} (m : Altd lim ρ b0 k h0 w.heap) (hk : k ≤ k') {b j : Nat} (hw : b = b0 ∨ lim b = .reg ρ) {s s' : ByteArray} (hv : cellAt h0 b j = some (.string s)) (hs : s'.size ≤ s.size + k') :
    Altd lim ρ b0 k' h0 (w.setCell ⟨b, j, none⟩ (.string s')).heap := by
  have m := m.mono hk
  obtain ⟨cs, e, g, hb⟩ := cellAt_B hv
  refine ⟨by simp only [World.setCell, Array.size_modify]; exact m.size, fun b' h1 h2 h3 => ?_, fun b' cs1 e1 g1 h1 => ?_, fun b' o h1 h2 => ?_⟩
  · have hne : b ≠ b' := by
      rintro rfl
      rcases hw with hw | hw
      · exact h2 hw
      · exact h3 hw
    simp only [World.setCell, Array.getElem?_modify, if_neg hne]
    exact m.same b' h1 h2 h3
  · obtain ⟨cs', h3, h4⟩ := m.cells b' cs1 e1 g1 h1
    by_cases hne : b = b'
    · subst hne
      simp only [World.setCell, Array.getElem?_modify, if_true, h3, Option.map_some, Option.isSome_none, Bool.false_eq_true, if_false]
      refine ⟨_, rfl, fun i v hi => ?_⟩
      obtain ⟨v', h5, h6⟩ := h4 i v hi
      by_cases hij : j = i
      · subst hij
        have hvs : v = .string s := by
          unfold cellAt at hv
          rw [h1] at hv
          simp only at hv
          rw [hi] at hv
          exact Option.some.inj hv
        subst hvs
        have hlt := (Array.getElem?_eq_some_iff.1 h5).1
        exact ⟨.string s', by rw [Array.getElem?_setIfInBounds]; simp [hlt], .inr ⟨s, s', rfl, rfl, hs⟩⟩
      · exact ⟨v', by rw [Array.getElem?_setIfInBounds, if_neg hij]; exact h5, h6⟩
    · exact ⟨cs', by simp only [World.setCell, Array.getElem?_modify, if_neg hne]; exact h3, h4⟩
  · have hne : b ≠ b' := by
      rintro rfl
      rw [hb] at h1; cases h1; cases h2
    simp only [World.setCell, Array.getElem?_modify, if_neg hne]
    exact m.oth b' o h1 h2
theorem Altd.new {lim : Lim} {ρ b0 k : Nat} {h0 : Array Obj} {w : World} (m : Altd lim ρ b0 k h0 w.heap) {a : Addr} (ha : h0.size ≤ a.block) (v : Value) : Altd lim ρ b0 k h0 (w.setCell a v).heap := by
  have hlt : ∀ {b : Nat} {o : Obj}, h0[b]? = some o → a.block ≠ b := fun h => by have := (Array.getElem?_eq_some_iff.1 h).1; omega
  refine ⟨by simp only [World.setCell, Array.size_modify]; exact m.size, fun b h1 h2 h3 => ?_, fun b cs e g h1 => ?_, fun b o h1 h2 => ?_⟩
  · simp only [World.setCell, Array.getElem?_modify, if_neg (show a.block ≠ b by omega)]
    exact m.same b h1 h2 h3
  · simp only [World.setCell, Array.getElem?_modify, if_neg (hlt h1)]
    exact m.cells b cs e g h1
  · simp only [World.setCell, Array.getElem?_modify, if_neg (hlt h1)]
    exact m.oth b o h1 h2
theorem Altd.alloc {lim : Lim} {ρ b0 k : Nat} {h0 : Array Obj} {w : World} (m : Altd lim ρ b0 k h0 w.heap) (o : Obj) : Altd lim ρ b0 k h0 (w.alloc o).heap := by
  have hs := m.size
  have hlt : ∀ {b : Nat} {o : Obj}, h0[b]? = some o → b < w.heap.size := fun h => by have := (Array.getElem?_eq_some_iff.1 h).1; omega
  refine ⟨by simp only [World.alloc, Array.size_push]; omega, fun b h1 h2 h3 => ?_, fun b cs e g h1 => ?_, fun b o h1 h2 => ?_⟩
  · simp only [World.alloc]
    rw [Array.getElem?_push, if_neg (by omega)]
    exact m.same b h1 h2 h3
  · simp only [World.alloc]
    rw [Array.getElem?_push, if_neg (by have := hlt h1; omega)]
    exact m.cells b cs e g h1
  · simp only [World.alloc]
    rw [Array.getElem?_push, if_neg (by have := hlt h1; omega)]
    exact m.oth b o h1 h2
theorem Altd.validW {lim : Lim} {ρ b0 k : Nat} {w w' : World} (m : Altd lim ρ b0 k w.heap w'.heap) : Oth w w' ∧ ∀ b, b < w.heap.size → b ≠ b0 → lim b ≠ .reg ρ → w'.heap[b]? = w.heap[b]? :=
  ⟨fun b o h1 h2 => m.oth b o h1 h2, fun b h1 h2 h3 => m.same b h1 h2 h3⟩

def NodeC (lim : Lim) (h : Array Obj) (b off : Nat) (l : List AV) : Prop :=
  (∃ cs e, h[b]? = some (.cells cs e (0, 0))) ∧ ∀ (j : Nat) (x : AV), l[j]? = some x → ∃ u, cellAt h b (off + j) = some u ∧ Rep lim h u x
theorem NodeC.of_box {lim : Lim} {h : Array Obj} {b : Nat} {l : List AV} (r : BoxAt lim h b l) : NodeC lim h b 0 l := by
  obtain ⟨-, cs, e, h1, h2⟩ := r
  refine ⟨⟨cs, e, h1⟩, fun j x hj => ?_⟩
  obtain ⟨u, h3, h4⟩ := h2.get hj
  refine ⟨u, ?_, h4⟩
  unfold cellAt
  rw [h1, Nat.zero_add]
  simpa using h3
theorem Rep.kid {lim : Lim} {h : Array Obj} {v : Value} {ρ e z i : Nat} {l : List (List AV)} {r : List AV} (hr : Rep lim h v (.fr ρ e z l)) (hrow : ∀ x ∈ l, x.length = z) (hi : l[i]? = some r) :
    ∃ b cap, v = .slice (some ⟨b, 0, none⟩) l.length cap ∧ l.length ≤ cap ∧ cap ≤ maxLen ∧ lim b = .reg ρ ∧ NodeC lim h b (i * z) r := by
  have hlt := (List.getElem?_eq_some_iff.1 hi).1
  have hmem := List.mem_of_getElem? hi
  cases hr with
  | fr _ _ _ _ _ hx hR =>
    rcases hR with h0 | ⟨b, cap, cur, rfl, h2, h3, h4, h5, h6⟩
    · omega
    · refine ⟨b, cap, rfl, h3, h4, h6, ⟨cur, e, h2⟩, fun j x hj => ?_⟩
      obtain ⟨b', off', vs, hp, hvl, hv, hcell⟩ := hx.slice_cells hrow (fun hn => by rw [hn] at hlt; simp at hlt)
      simp only [Option.some.injEq, Addr.mk.injEq, and_true] at hp
      obtain ⟨rfl, rfl⟩ := hp
      have hjz : j < z := by rw [← hrow r hmem]; exact (List.getElem?_eq_some_iff.1 hj).1
      have hfl : l.flatten[i * z + j]? = some x := by
        have key : ∀ (l : List (List AV)) (i : Nat), (∀ x ∈ l, x.length = z) → l[i]? = some r → l.flatten[i * z + j]? = some x := by
          intro l
          induction l with
          | nil => intro i _ hi; cases hi
          | cons a l ih =>
            intro i hl hi
            have ha := hl a (by simp)
            cases i with
            | zero =>
              simp only [List.getElem?_cons_zero, Option.some.injEq] at hi
              subst hi
              rw [List.flatten_cons, Nat.zero_mul, Nat.zero_add, List.getElem?_append_left (by omega)]
              exact hj
            | succ i =>
              rw [List.getElem?_cons_succ] at hi
              rw [List.flatten_cons, List.getElem?_append_right (by rw [ha, Nat.add_mul]; omega), ha, show (i + 1) * z + j - z = i * z + j by rw [Nat.add_mul]; omega]
              exact ih i (fun y hy => hl y (by simp [hy])) hi
        exact key l i hrow hi
      obtain ⟨u, h7, h8⟩ := hv.get hfl
      exact ⟨u, by have := (hcell _ _ h7).2; simpa using this, h8⟩
theorem NodeC.str {lim : Lim} {ρ b0 k : Nat} {h0 : Array Obj} {w : World} (m : Altd lim ρ b0 k h0 w.heap) {b off j : Nat} {l : List AV} {s : List UInt8} (n : NodeC lim h0 b off l) (hj : l[j]? = some (.str s)) :
    cellAt h0 b (off + j) = some (.string ⟨s.toArray⟩) ∧ ∃ s', w.cell? ⟨b, off + j, none⟩ = some (.string s') ∧ s'.size ≤ s.length + k := by
  obtain ⟨u, h1, h2⟩ := n.2 j _ hj
  cases h2
  obtain ⟨v', h3, h4⟩ := m.cell h1
  obtain ⟨s', rfl, h5⟩ := h4.str
  exact ⟨h1, s', by rw [cell?_eq]; exact h3, h5⟩
theorem NodeC.sl {lim : Lim} {ρ b0 k : Nat} {h0 : Array Obj} {w : World} (m : Altd lim ρ b0 k h0 w.heap) {b off j r e z : Nat} {l : List AV} {q : List (List AV)} (n : NodeC lim h0 b off l) (hj : l[j]? = some (.fr r e z q)) :
    ∃ p c, w.cell? ⟨b, off + j, none⟩ = some (.slice p q.length c) ∧ Rep lim h0 (.slice p q.length c) (.fr r e z q) := by
  obtain ⟨u, h1, h2⟩ := n.2 j _ hj
  obtain ⟨v', h3, h4⟩ := m.cell h1
  cases h2 with
  | fr _ _ _ _ _ hx hR =>
    obtain ⟨p, c, rfl, -⟩ := hx.slice_form
    rw [h4.sl] at h3
    exact ⟨p, c, by rw [cell?_eq]; exact h3, .fr _ _ _ _ _ hx hR⟩
theorem NodeC.slAt {lim : Lim} {ρ b0 k : Nat} {h0 : Array Obj} {w : World} (m : Altd lim ρ b0 k h0 w.heap) {b off j n c : Nat} {p : Option Addr} (h : cellAt h0 b (off + j) = some (.slice p n c)) : w.cell? ⟨b, off + j, none⟩ = some (.slice p n c) := by
  obtain ⟨v', h1, h2⟩ := m.cell h
  rw [h2.sl] at h1
  rw [cell?_eq]; exact h1
theorem NodeC.slOf {lim : Lim} {h0 : Array Obj} {b off j r e z : Nat} {l : List AV} {q : List (List AV)} (n : NodeC lim h0 b off l) (hj : l[j]? = some (.fr r e z q)) :
    ∃ p c, cellAt h0 b (off + j) = some (.slice p q.length c) ∧ Rep lim h0 (.slice p q.length c) (.fr r e z q) := by
  obtain ⟨u, h1, h2⟩ := n.2 j _ hj
  cases h2 with
  | fr _ _ _ _ _ hx hR =>
    obtain ⟨p, c, rfl, -⟩ := hx.slice_form
    exact ⟨p, c, h1, .fr _ _ _ _ _ hx hR⟩
theorem NodeC.thaw {lim : Lim} {ρ b0 k : Nat} {h0 : Array Obj} {w : World} (m : Altd lim ρ b0 k h0 w.heap) {b off : Nat} {l : List AV} (n : NodeC lim h0 b off l) (o : Nat) : w.frozen? ⟨b, o, none⟩ = false := by
  obtain ⟨⟨cs, e, h1⟩, -⟩ := n
  obtain ⟨cs', h2, -⟩ := m.cells b cs e (0, 0) h1
  simp [World.frozen?, h2]
end Go.Pv
end

section
/- Laws that write: the arguments lie in region 0. -/
namespace Go.Pv
open Go Go.ChangeShapes Go.WideShapes Go.RowKit

mutual
def AV.s0 : AV → AV
  | .slice l => .sr 0 (AV.s0LL l)
  | .agg l => .agg (AV.s0L l)
  | x => AV.rg none x
def AV.s0L : List AV → List AV
  | [] => []
  | x :: r => AV.s0 x :: AV.s0L r
def AV.s0LL : List (List AV) → List (List AV)
  | [] => []
  | x :: r => AV.s0L x :: AV.s0LL r
end
theorem s0L_map (l : List AV) : AV.s0L l = l.map AV.s0 := by
  induction l with
  | nil => rfl
  | cons x r ih => simp [AV.s0L, ih]
theorem s0LL_map (l : List (List AV)) : AV.s0LL l = l.map AV.s0L := by
  induction l with
  | nil => rfl
  | cons x r ih => simp [AV.s0LL, ih]
theorem s0L_get {l : List AV} {j : Nat} {x : AV} (h : (AV.s0L l)[j]? = some x) : ∃ y, l[j]? = some y ∧ x = AV.s0 y := by
  rw [s0L_map, List.getElem?_map] at h
  obtain ⟨y, h1, h2⟩ := Option.map_eq_some_iff.1 h
  exact ⟨y, h1, h2.symm⟩
theorem s0LL_get {l : List (List AV)} {j : Nat} {x : List AV} (h : (AV.s0LL l)[j]? = some x) : ∃ y, l[j]? = some y ∧ x = AV.s0L y := by
  rw [s0LL_map, List.getElem?_map] at h
  obtain ⟨y, h1, h2⟩ := Option.map_eq_some_iff.1 h
  exact ⟨y, h1, h2.symm⟩
theorem s0LL_len (l : List (List AV)) : (AV.s0LL l).length = l.length := by rw [s0LL_map, List.length_map]
theorem s0L_len (l : List AV) : (AV.s0L l).length = l.length := by rw [s0L_map, List.length_map]
def reg0 : Lim := fun _ => .reg 0
theorem reg0_ok (b o : Nat) : Lim.ok reg0 b o := fun n h => by cases h

theorem Rep.s0 {lim : Lim} {h : Array Obj} {v : Value} {x : AV} (r : Rep lim h v x) : Rep reg0 h v x.s0 := by
  have hk : ∀ b o, lim.ok b o → Lim.ok reg0 b o := fun b o _ => reg0_ok b o
  induction r with
  | slice0 p cap => exact .sr 0 _ _ (.slice0 p cap) fun b off n c _ hl => absurd rfl hl
  | slice b off cap sz l vs hcap hrow hc hr ih =>
    have e := s0LL_len l
    have h1 := Rep.slice (lim := reg0) (h := h) b off cap sz (AV.s0LL l) vs (by rw [e]; exact hcap) (fun i r hi => by obtain ⟨y, h1, rfl⟩ := s0LL_get hi; rw [s0L_len]; exact hrow i y h1)
      (by rw [e]; exact fun j hj => ⟨reg0_ok _ _, (hc j hj).2⟩) (fun i j r x hi hj => by obtain ⟨y, h1, rfl⟩ := s0LL_get hi; obtain ⟨z, h2, rfl⟩ := s0L_get hj; exact ih i j y z h1 h2)
    rw [e] at h1
    refine .sr 0 _ _ h1 fun b' off' n' cap' hv hl => ?_
    injection hv with hv; injection hv with hv; injection hv with hv
    subst hv
    refine ⟨?_, rfl⟩
    have hlen : (AV.s0LL l).flatten.length = l.length * sz := by
      rw [← e]
      exact flat_len_rows (sz := sz) fun i r hi => by obtain ⟨y, h1, rfl⟩ := s0LL_get hi; rw [s0L_len]; exact hrow i y h1
    have hpos := List.length_pos_iff.2 hl
    rw [hlen] at hpos
    exact cellAt_B (hc 0 hpos).2
  | agg cs l hl hr ih => exact .agg cs _ (by rw [s0L_len]; exact hl) fun j x hj => by obtain ⟨y, h1, rfl⟩ := s0L_get hj; exact ih j y h1
  | bool b => exact .bool b
  | int k n => exact .int k n
  | str l => exact .str l
  | tup cs l hl hr ih => exact (Rep.tup cs l hl hr).weak hk
  | func f cs l hl hr ih => exact (Rep.func f cs l hl hr).weak hk
  | nilFunc => exact .nilFunc
  | yld l => exact .yld l
  | ro b off l vs hc hr ih => exact (Rep.ro b off l vs hc hr).weak hk
  | nilPtr => exact .nilPtr
  | gp b off => exact .gp b off
  | iface t v x hx ih => exact (Rep.iface t v x hx).weak hk
  | nilIface => exact .nilIface
  | nilS => exact .nilS
  | bfn f cs l hl hr ih => exact (Rep.bfn f cs l hl hr).weak hk
  | slX p l hx ih => exact (Rep.slX p l hx).weak hk
  | anyB b => exact .anyB b
  | fr r e z v l hx hr ih => exact (Rep.fr r e z v l hx hr).weak hk
  | sr r v l hx hr ih => exact (Rep.sr r v l hx hr).weak hk
  | any v hv => exact .any v hv
  | gs b n cap => exact .gs b n cap
theorem RepL.s0 {lim : Lim} {h : Array Obj} {vs : List Value} {l : List AV} (r : RepL lim h vs l) : RepL reg0 h vs (AV.s0L l) :=
  ⟨by rw [s0L_len]; exact r.1, fun j x hj => by obtain ⟨y, h1, rfl⟩ := s0L_get hj; exact (r.2 j y h1).s0⟩

theorem law_callsT {H : Type} {enc : TypeId × Value → H} {P : Program} {fn : Func} {f : FuncId} {s : ChangeSpec} {T : List Nat} {gl : Gl} {W : World} {base : Nat} {args : Array Value} {ds gs : List (DataW H)} {before : List MemPlace} {tb : TypeId} {fresh handsOn again : Bool}
    (hT : (T.all fun t => plainT P T t) = true) (hlaid : laidOutB P = true) (hpar : (fn.params.toList.all fun t => T.contains t && P.readableRec t && decide (t < P.types.size)) = true) (hres : fn.resultTypes = #[tb]) (hb : P.underlying tb = some .bool) (hvars : s.vars = [])
    (hval : ∀ (j : Nat) t v, fn.params[j]? = some t → args[j]? = some v → Value.okWide P W .any base t v)
    (hW : DataW.Whole enc P fn.params.toList s.vars false W args.toList ds gs before) (hgl : GlOk gl allL W.heap) (hvt : s.plain.varTypes P = [])
    (hwt : (DataW.weightsEach P (fn.params.toList ++ s.plain.varTypes P) (ds ++ gs)).all (· ≤ reachBytes) = true)
    (hv : typedAll P fn.params.toList ds → (DataW.weightsEach P fn.params.toList ds).all (· ≤ reachBytes) = true → ValidT P gl f (AV.s0L (argAVs P fn.params.toList ds)) (.bool true)) (hp : GlPlain gl)
    (hspec : typedAll P fn.params.toList ds → s.fn H (ds ++ []) = { results := [.lit (.bool true)], args := ds }) :
    Calls P f args W fun e W' => ∃ v, e = .returned v ∧ s.post enc P fn false fresh handsOn again W args v W' := by
  have hW0 := hW
  obtain ⟨p, q, hA, hV, rfl, hfz, hnd⟩ := hW
  rw [hvars] at hV
  obtain ⟨rfl, rfl⟩ : gs = [] ∧ q = [] := by
    cases gs with
    | nil => exact ⟨rfl, hV⟩
    | cons g r => exact hV.elim
  have hpar' : ∀ t ∈ fn.params.toList, T.contains t = true ∧ P.readableRec t = true ∧ t < P.types.size := fun t ht => by
    have := List.all_eq_true.1 hpar t ht
    simp only [Bool.and_eq_true, decide_eq_true_eq] at this
    exact ⟨this.1.1, this.1.2, this.2⟩
  obtain ⟨hrep, hty⟩ := args_rep (w := W) hT fn.params.toList args.toList ds p (List.all_eq_true.2 fun t ht => (hpar' t ht).1) (fun j t v a b => hval j t v (by simpa using a) (by simpa using b)) hA
  obtain ⟨-, hcall⟩ := hv hty (by simpa [hvt] using hwt)
  refine (hcall reg0 W args.toList (fun b r h => by cases h; rfl) (hgl.weak hp fun _ _ _ => reg0_ok _ _) hrep.s0).mono fun e W' => ?_
  rintro ⟨v, lim', rfl, hf, hr⟩
  have hbv := rep_bool hr
  subst hbv
  have hbel : Below W.heap.size W W' := ⟨hf.os, hf.tape, hf.output, hf.size, fun k hk => hf.block k hk (fun h => h)⟩
  have e1 := hspec hty
  simp only [List.append_nil] at hW0 ⊢
  have hlt : ∀ x ∈ p, x.block < W.heap.size := fun x hx => hW0.lt x hx
  have hold : ∀ x ∈ p, (fun b => decide (b < W.heap.size)) x.block = true := fun x hx => by simpa using hlt x hx
  have hresT : ∀ (b : Nat) (sp : Nat → Bool) (hd : Bool), DataW.TrodAll enc P W' b sp hd fn.resultTypes.toList ((Value.bool true).resultList fn.resultTypes.size) (s.fn H (ds ++ [])).results [] := fun b sp hd => by
    rw [e1, hres]
    exact trodAll_mk1 (shut_bool hb true)
  have hargs : ∀ sp : Nat → Bool, (∀ x ∈ p, sp x.block = true) → DataW.TrodAll enc P W' 0 sp true fn.params.toList args.toList (s.fn H (ds ++ [])).args p := fun sp hsp => by
    rw [e1]
    exact keep_args hlaid hbel fn.params.toList args.toList ds p (fun t ht => (hpar' t ht).2) hA hlt sp hsp
  refine ⟨_, rfl, ds, [], p, [], p, [], by simpa using hW0, hresT _ _ _, hargs _ hold, ?_, World.keptBut_mono (fun x hx => hx.elim) (hbel.frame fun _ => False), fun _ => ⟨fun j t' r hj hv => ?_, ?_⟩⟩
  · rw [hvars, e1]; rfl
  · rw [hres] at hj hv
    match j, hj, hv with
    | 0, hj, hv =>
      simp only [List.getElem?_toArray, List.getElem?_cons_zero, Option.some.injEq] at hj
      subst hj
      simp only [List.size_toArray, List.length_cons, List.length_nil, Value.resultList] at hv
      injection hv with hv; subst hv
      exact okWide_bool_mk hb true
  · refine ⟨_, [], ([] ++ p) ++ [], ⟨[] ++ p, [], trodAll_append (hargs (fun _ => true) (fun _ _ => rfl)) (hresT 0 (fun _ => true) true), by rw [hvars]; rfl, rfl, fun b off hx => ?_, fun h => by cases h⟩, fun x hx _ => ?_⟩
    · skip
      rw [hbel.frozen (hlt _ (by simpa using hx))]
      exact hfz b off (by simpa using hx)
    · simpa using hx

end Go.Pv
end
