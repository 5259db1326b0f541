import Derived.Test.YtocmdbojefgpbaaGreatDoorPvOj
import Derived.Test.YtocmdbojefgpbaaGreatDoorPvMd
import Derived.Test.YtocmdbojefgpbaaGreatDoorPvDb
import Derived.Test.YtocmdbojefgpbaaGreatDoorPvY
set_option linter.all false
section
/- A function that changes strings in one object and in the blocks of one region: what lies there all the same. -/
namespace Go.Pv
open Go

def StrAl (k : Nat) (v v' : Value) : Prop := v' = v ∨ ∃ s s' : ByteArray, v = .string s ∧ v' = .string s' ∧ s'.size ≤ s.size + k
theorem StrAl.mono {k k' : Nat} (h : k ≤ k') {v v' : Value} (r : StrAl k v v') : StrAl k' v v' := by
  rcases r with r | ⟨s, s', h1, h2, h3⟩
  · exact .inl r
  · exact .inr ⟨s, s', h1, h2, by omega⟩
theorem StrAl.str {k : Nat} {s : ByteArray} {v' : Value} (r : StrAl k (.string s) v') : ∃ s', v' = .string s' ∧ s'.size ≤ s.size + k := by
  rcases r with r | ⟨a, s', h1, h2, h3⟩
  · exact ⟨s, r, by omega⟩
  · cases h1; exact ⟨s', h2, h3⟩
structure Altd (lim : Lim) (ρ b0 k : Nat) (h0 h : Array Obj) : Prop where
  size : h0.size ≤ h.size
  same : ∀ b : Nat, b < h0.size → b ≠ b0 → lim b ≠ .reg ρ → h[b]? = h0[b]?
  cells : ∀ (b : Nat) cs e g, h0[b]? = some (.cells cs e g) → ∃ cs', h[b]? = some (.cells cs' e g) ∧ ∀ (j : Nat) v, cs[j]? = some v → ∃ v', cs'[j]? = some v' ∧ StrAl k v v'
  oth : ∀ (b : Nat) (o : Obj), h0[b]? = some o → o.isCells = false → h[b]? = some o
theorem Altd.refl (lim : Lim) (ρ b0 k : Nat) (h : Array Obj) : Altd lim ρ b0 k h h :=
  ⟨Nat.le_refl _, fun _ _ _ _ => rfl, fun _ cs _ _ h => ⟨cs, h, fun _ v hv => ⟨v, hv, .inl rfl⟩⟩, fun _ _ h _ => h⟩
theorem Altd.mono {lim : Lim} {ρ b0 k k' : Nat} {h0 h : Array Obj} (hk : k ≤ k') (m : Altd lim ρ b0 k h0 h) : Altd lim ρ b0 k' h0 h :=
  ⟨m.size, m.same, fun b cs e g hb => by
    obtain ⟨cs', h1, h2⟩ := m.cells b cs e g hb
    exact ⟨cs', h1, fun j v hv => by obtain ⟨v', h3, h4⟩ := h2 j v hv; exact ⟨v', h3, h4.mono hk⟩⟩, m.oth⟩
theorem Altd.cell {lim : Lim} {ρ b0 k : Nat} {h0 h : Array Obj} (m : Altd lim ρ b0 k h0 h) {b j : Nat} {v : Value} (hv : cellAt h0 b j = some v) : ∃ v', cellAt h b j = some v' ∧ StrAl k v v' := by
  obtain ⟨cs, e, g, hb⟩ := cellAt_B hv
  obtain ⟨cs', h1, h2⟩ := m.cells b cs e g hb
  unfold cellAt at hv ⊢
  rw [hb] at hv
  rw [h1]
  exact h2 j v hv
theorem Altd.store {lim : Lim} {ρ b0 k k' : Nat} {h0 : Array Obj} {w : World} (m : Altd lim ρ b0 k h0 w.heap) (hk : k ≤ k') {b j : Nat} (hw : b = b0 ∨ lim b = .reg ρ) {s s' : ByteArray} (hv : cellAt h0 b j = some (.string s)) (hs : s'.size ≤ s.size + k') :
    Altd lim ρ b0 k' h0 (w.setCell ⟨b, j, none⟩ (.string s')).heap := by
  have m := m.mono hk
  obtain ⟨cs, e, g, hb⟩ := cellAt_B hv
  refine ⟨by simp only [World.setCell, Array.size_modify]; exact m.size, fun b' h1 h2 h3 => ?_, fun b' cs1 e1 g1 h1 => ?_, fun b' o h1 h2 => ?_⟩
  · have hne : b ≠ b' := by
      rintro rfl
      rcases hw with hw | hw
      · exact h2 hw
      · exact h3 hw
    simp only [World.setCell, Array.getElem?_modify, if_neg hne]
    exact m.same b' h1 h2 h3
  · obtain ⟨cs', h3, h4⟩ := m.cells b' cs1 e1 g1 h1
    by_cases hne : b = b'
    · subst hne
      simp only [World.setCell, Array.getElem?_modify, if_true, h3, Option.map_some, Option.isSome_none, Bool.false_eq_true, if_false]
      refine ⟨_, rfl, fun i v hi => ?_⟩
      obtain ⟨v', h5, h6⟩ := h4 i v hi
      by_cases hij : j = i
      · subst hij
        have hvs : v = .string s := by
          unfold cellAt at hv
          rw [h1] at hv
          simp only at hv
          rw [hi] at hv
          exact Option.some.inj hv
        subst hvs
        have hlt := (Array.getElem?_eq_some_iff.1 h5).1
        exact ⟨.string s', by rw [Array.getElem?_setIfInBounds]; simp [hlt], .inr ⟨s, s', rfl, rfl, hs⟩⟩
      · exact ⟨v', by rw [Array.getElem?_setIfInBounds, if_neg hij]; exact h5, h6⟩
    · exact ⟨cs', by simp only [World.setCell, Array.getElem?_modify, if_neg hne]; exact h3, h4⟩
  · have hne : b ≠ b' := by
      rintro rfl
      rw [hb] at h1; cases h1; cases h2
    simp only [World.setCell, Array.getElem?_modify, if_neg hne]
    exact m.oth b' o h1 h2
theorem Altd.new {lim : Lim} {ρ b0 k : Nat} {h0 : Array Obj} {w : World} (m : Altd lim ρ b0 k h0 w.heap) {a : Addr} (ha : h0.size ≤ a.block) (v : Value) : Altd lim ρ b0 k h0 (w.setCell a v).heap := by
  have hlt : ∀ {b : Nat} {o : Obj}, h0[b]? = some o → a.block ≠ b := fun h => by have := (Array.getElem?_eq_some_iff.1 h).1; omega
  refine ⟨by simp only [World.setCell, Array.size_modify]; exact m.size, fun b h1 h2 h3 => ?_, fun b cs e g h1 => ?_, fun b o h1 h2 => ?_⟩
  · simp only [World.setCell, Array.getElem?_modify, if_neg (show a.block ≠ b by omega)]
    exact m.same b h1 h2 h3
  · simp only [World.setCell, Array.getElem?_modify, if_neg (hlt h1)]
    exact m.cells b cs e g h1
  · simp only [World.setCell, Array.getElem?_modify, if_neg (hlt h1)]
    exact m.oth b o h1 h2
theorem Altd.alloc {lim : Lim} {ρ b0 k : Nat} {h0 : Array Obj} {w : World} (m : Altd lim ρ b0 k h0 w.heap) (o : Obj) : Altd lim ρ b0 k h0 (w.alloc o).heap := by
  have hs := m.size
  have hlt : ∀ {b : Nat} {o : Obj}, h0[b]? = some o → b < w.heap.size := fun h => by have := (Array.getElem?_eq_some_iff.1 h).1; omega
  refine ⟨by simp only [World.alloc, Array.size_push]; omega, fun b h1 h2 h3 => ?_, fun b cs e g h1 => ?_, fun b o h1 h2 => ?_⟩
  · simp only [World.alloc]
    rw [Array.getElem?_push, if_neg (by omega)]
    exact m.same b h1 h2 h3
  · simp only [World.alloc]
    rw [Array.getElem?_push, if_neg (by have := hlt h1; omega)]
    exact m.cells b cs e g h1
  · simp only [World.alloc]
    rw [Array.getElem?_push, if_neg (by have := hlt h1; omega)]
    exact m.oth b o h1 h2
theorem Altd.validW {lim : Lim} {ρ b0 k : Nat} {w w' : World} (m : Altd lim ρ b0 k w.heap w'.heap) : Oth w w' ∧ ∀ b, b < w.heap.size → b ≠ b0 → lim b ≠ .reg ρ → w'.heap[b]? = w.heap[b]? :=
  ⟨fun b o h1 h2 => m.oth b o h1 h2, fun b h1 h2 h3 => m.same b h1 h2 h3⟩

def NodeC (lim : Lim) (h : Array Obj) (b off : Nat) (l : List AV) : Prop :=
  (∃ cs e, h[b]? = some (.cells cs e (0, 0))) ∧ ∀ (j : Nat) (x : AV), l[j]? = some x → ∃ u, cellAt h b (off + j) = some u ∧ Rep lim h u x
theorem Rep.kid {lim : Lim} {h : Array Obj} {v : Value} {ρ e z i : Nat} {l : List (List AV)} {r : List AV} (hr : Rep lim h v (.fr ρ e z l)) (hrow : ∀ x ∈ l, x.length = z) (hi : l[i]? = some r) :
    ∃ b cap, v = .slice (some ⟨b, 0, none⟩) l.length cap ∧ l.length ≤ cap ∧ cap ≤ maxLen ∧ lim b = .reg ρ ∧ NodeC lim h b (i * z) r := by
  have hlt := (List.getElem?_eq_some_iff.1 hi).1
  have hmem := List.mem_of_getElem? hi
  cases hr with
  | fr _ _ _ _ _ hx hR =>
    rcases hR with h0 | ⟨b, cap, cur, rfl, h2, h3, h4, h5, h6⟩
    · omega
    · refine ⟨b, cap, rfl, h3, h4, h6, ⟨cur, e, h2⟩, fun j x hj => ?_⟩
      obtain ⟨b', off', vs, hp, hvl, hv, hcell⟩ := hx.slice_cells hrow (fun hn => by rw [hn] at hlt; simp at hlt)
      simp only [Option.some.injEq, Addr.mk.injEq, and_true] at hp
      obtain ⟨rfl, rfl⟩ := hp
      have hjz : j < z := by rw [← hrow r hmem]; exact (List.getElem?_eq_some_iff.1 hj).1
      have hfl : l.flatten[i * z + j]? = some x := by
        have key : ∀ (l : List (List AV)) (i : Nat), (∀ x ∈ l, x.length = z) → l[i]? = some r → l.flatten[i * z + j]? = some x := by
          intro l
          induction l with
          | nil => intro i _ hi; cases hi
          | cons a l ih =>
            intro i hl hi
            have ha := hl a (by simp)
            cases i with
            | zero =>
              simp only [List.getElem?_cons_zero, Option.some.injEq] at hi
              subst hi
              rw [List.flatten_cons, Nat.zero_mul, Nat.zero_add, List.getElem?_append_left (by omega)]
              exact hj
            | succ i =>
              rw [List.getElem?_cons_succ] at hi
              rw [List.flatten_cons, List.getElem?_append_right (by rw [ha, Nat.add_mul]; omega), ha, show (i + 1) * z + j - z = i * z + j by rw [Nat.add_mul]; omega]
              exact ih i (fun y hy => hl y (by simp [hy])) hi
        exact key l i hrow hi
      obtain ⟨u, h7, h8⟩ := hv.get hfl
      exact ⟨u, by have := (hcell _ _ h7).2; simpa using this, h8⟩
theorem NodeC.str {lim : Lim} {ρ b0 k : Nat} {h0 : Array Obj} {w : World} (m : Altd lim ρ b0 k h0 w.heap) {b off j : Nat} {l : List AV} {s : List UInt8} (n : NodeC lim h0 b off l) (hj : l[j]? = some (.str s)) :
    cellAt h0 b (off + j) = some (.string ⟨s.toArray⟩) ∧ ∃ s', w.cell? ⟨b, off + j, none⟩ = some (.string s') ∧ s'.size ≤ s.length + k := by
  obtain ⟨u, h1, h2⟩ := n.2 j _ hj
  cases h2
  obtain ⟨v', h3, h4⟩ := m.cell h1
  obtain ⟨s', rfl, h5⟩ := h4.str
  exact ⟨h1, s', by rw [cell?_eq]; exact h3, h5⟩
theorem NodeC.thaw {lim : Lim} {ρ b0 k : Nat} {h0 : Array Obj} {w : World} (m : Altd lim ρ b0 k h0 w.heap) {b off : Nat} {l : List AV} (n : NodeC lim h0 b off l) (o : Nat) : w.frozen? ⟨b, o, none⟩ = false := by
  obtain ⟨⟨cs, e, h1⟩, -⟩ := n
  obtain ⟨cs', h2, -⟩ := m.cells b cs e (0, 0) h1
  simp [World.frozen?, h2]
end Go.Pv
end

section
/- From data to declarations and programs. -/
namespace Go.Pv
open Go

structure DTys (P : Program) where
  S : Nat
  I : Nat
  L : Nat
  T : Nat
  X : Nat
  E : Nat
  SL : Nat
  FL : Nat
  F : Nat
  QL : Nat
  Q : Nat
  GL : Nat
  G : Nat
  hS : P.underlying S = some .string
  hI : P.underlying I = some (.int .i64)
  hL : P.underlying L = some (.slice T)
  hF : ftypes P T = some [S, L, I]
  hb : 0 < P.bytesOf T
  hX : P.underlying X = some (.slice E)
  hE : ftypes P E = some [I, S, T, L, X, I]
  hbe : 0 < P.bytesOf E
  hSL : P.underlying SL = some (.slice S)
  hbs : 0 < P.bytesOf S
  hFL : P.underlying FL = some (.slice F)
  hFF : ftypes P F = some [S, T, I]
  hbf : 0 < P.bytesOf F
  hQL : P.underlying QL = some (.slice Q)
  hQQ : ftypes P Q = some [S, T, I]
  hbq : 0 < P.bytesOf Q
  hGL : P.underlying GL = some (.slice G)
  hGG : ftypes P G = some [S, FL, QL, T, I]
  hbg : 0 < P.bytesOf G

section
variable {H : Type} {P : Program}

theorem fm_of (c : DTys P) {F : Nat} (hFF : ftypes P F = some [c.S, c.T, c.I]) (n : Nat) (d : DataW H) (h : typed P n F d) (hw : (d.weights P F).all (· ≤ reachBytes) = true) : ∃ f : Fm, avOf d = encF f ∧ fitF f := by
  obtain ⟨m, ps, rfl, rfl, hps, hwe⟩ := typed_struct hFF h
  rw [hwe] at hw
  match ps, hps with
  | [s, t, p], ⟨hs, ht, hp, _⟩ =>
    obtain ⟨w1, hw⟩ := weightsEach_cons hw
    obtain ⟨w2, hw⟩ := weightsEach_cons hw
    obtain ⟨s, hs1, hs2⟩ := str_of c.hS hs w1
    obtain ⟨⟨tn, tas, tp⟩, ht1, ht2⟩ := ty_of c.hS c.hI c.hL c.hF c.hb m _ ht w2
    obtain ⟨p, rfl, -⟩ := typed_int c.hI hp
    exact ⟨⟨s, .mk tn tas tp, p⟩, by simp [avOf, avFlat, hs1, ht1, encF, encTy_mk], hs2, ht2⟩
theorem fms_of (c : DTys P) {F FL : Nat} (hFL : P.underlying FL = some (.slice F)) (hFF : ftypes P F = some [c.S, c.T, c.I]) (hbf : 0 < P.bytesOf F) (n : Nat) (d : DataW H) (h : typed P n FL d) (hw : (d.weights P FL).all (· ≤ reachBytes) = true) :
    ∃ l : List Fm, avOf d = [.slice (l.map encF)] ∧ fitFs l := by
  obtain ⟨q, rfl, hq⟩ := typed_slice hFL h
  rcases hq with rfl | ⟨es, sp, rfl, hq⟩
  · exact ⟨[], rfl, by simp, fun f hf => by cases hf⟩
  · obtain ⟨g1, g2⟩ := weights_slice hFL hbf hw
    obtain ⟨l, e1, e2, e3⟩ := rows_of (enc := encF) (good := fitF) es (fun x hx => fm_of c hFF q x (hq x hx) (g2 x hx))
    exact ⟨l, by simp [avOf, e1], by omega, e3⟩
theorem sg_of (c : DTys P) (n : Nat) (d : DataW H) (h : typed P n c.G d) (hw : (d.weights P c.G).all (· ≤ reachBytes) = true) : ∃ s : Sg, avOf d = encG s ∧ fitG s := by
  obtain ⟨m, ps, rfl, rfl, hps, hwe⟩ := typed_struct c.hGG h
  rw [hwe] at hw
  match ps, hps with
  | [s, f, q, t, p], ⟨hs, hf, hq, ht, hp, _⟩ =>
    obtain ⟨w1, hw⟩ := weightsEach_cons hw
    obtain ⟨w2, hw⟩ := weightsEach_cons hw
    obtain ⟨w3, hw⟩ := weightsEach_cons hw
    obtain ⟨w4, hw⟩ := weightsEach_cons hw
    obtain ⟨s, hs1, hs2⟩ := str_of c.hS hs w1
    obtain ⟨f, hf1, hf2⟩ := fms_of c c.hFL c.hFF c.hbf m _ hf w2
    obtain ⟨q, hq1, hq2⟩ := fms_of c c.hQL c.hQQ c.hbq m _ hq w3
    obtain ⟨⟨tn, tas, tp⟩, ht1, ht2⟩ := ty_of c.hS c.hI c.hL c.hF c.hb m _ ht w4
    obtain ⟨p, rfl, -⟩ := typed_int c.hI hp
    exact ⟨⟨s, f, q, .mk tn tas tp, p⟩, by simp [avOf, avFlat, hs1, hf1, hq1, ht1, encG, encTy_mk], hs2, hf2, hq2, ht2⟩
end
end Go.Pv
end

section
/- Laws that write: the arguments lie in region 0. -/
namespace Go.Pv
open Go Go.ChangeShapes Go.WideShapes Go.RowKit

mutual
def AV.s0 : AV → AV
  | .slice l => .sr 0 (AV.s0LL l)
  | .agg l => .agg (AV.s0L l)
  | x => AV.rg none x
def AV.s0L : List AV → List AV
  | [] => []
  | x :: r => AV.s0 x :: AV.s0L r
def AV.s0LL : List (List AV) → List (List AV)
  | [] => []
  | x :: r => AV.s0L x :: AV.s0LL r
end
theorem s0L_map (l : List AV) : AV.s0L l = l.map AV.s0 := by
  induction l with
  | nil => rfl
  | cons x r ih => simp [AV.s0L, ih]
theorem s0LL_map (l : List (List AV)) : AV.s0LL l = l.map AV.s0L := by
  induction l with
  | nil => rfl
  | cons x r ih => simp [AV.s0LL, ih]
theorem s0L_get {l : List AV} {j : Nat} {x : AV} (h : (AV.s0L l)[j]? = some x) : ∃ y, l[j]? = some y ∧ x = AV.s0 y := by
  rw [s0L_map, List.getElem?_map] at h
  obtain ⟨y, h1, h2⟩ := Option.map_eq_some_iff.1 h
  exact ⟨y, h1, h2.symm⟩
theorem s0LL_get {l : List (List AV)} {j : Nat} {x : List AV} (h : (AV.s0LL l)[j]? = some x) : ∃ y, l[j]? = some y ∧ x = AV.s0L y := by
  rw [s0LL_map, List.getElem?_map] at h
  obtain ⟨y, h1, h2⟩ := Option.map_eq_some_iff.1 h
  exact ⟨y, h1, h2.symm⟩
theorem s0LL_len (l : List (List AV)) : (AV.s0LL l).length = l.length := by rw [s0LL_map, List.length_map]
theorem s0L_len (l : List AV) : (AV.s0L l).length = l.length := by rw [s0L_map, List.length_map]
def reg0 : Lim := fun _ => .reg 0
theorem reg0_ok (b o : Nat) : Lim.ok reg0 b o := fun n h => by cases h

theorem Rep.s0 {lim : Lim} {h : Array Obj} {v : Value} {x : AV} (r : Rep lim h v x) : Rep reg0 h v x.s0 := by
  have hk : ∀ b o, lim.ok b o → Lim.ok reg0 b o := fun b o _ => reg0_ok b o
  induction r with
  | slice0 p cap => exact .sr 0 _ _ (.slice0 p cap) fun b off n c _ hl => absurd rfl hl
  | slice b off cap sz l vs hcap hrow hc hr ih =>
    have e := s0LL_len l
    have h1 := Rep.slice (lim := reg0) (h := h) b off cap sz (AV.s0LL l) vs (by rw [e]; exact hcap) (fun i r hi => by obtain ⟨y, h1, rfl⟩ := s0LL_get hi; rw [s0L_len]; exact hrow i y h1)
      (by rw [e]; exact fun j hj => ⟨reg0_ok _ _, (hc j hj).2⟩) (fun i j r x hi hj => by obtain ⟨y, h1, rfl⟩ := s0LL_get hi; obtain ⟨z, h2, rfl⟩ := s0L_get hj; exact ih i j y z h1 h2)
    rw [e] at h1
    refine .sr 0 _ _ h1 fun b' off' n' cap' hv hl => ?_
    injection hv with hv; injection hv with hv; injection hv with hv
    subst hv
    refine ⟨?_, rfl⟩
    have hlen : (AV.s0LL l).flatten.length = l.length * sz := by
      rw [← e]
      exact flat_len_rows (sz := sz) fun i r hi => by obtain ⟨y, h1, rfl⟩ := s0LL_get hi; rw [s0L_len]; exact hrow i y h1
    have hpos := List.length_pos_iff.2 hl
    rw [hlen] at hpos
    exact cellAt_B (hc 0 hpos).2
  | agg cs l hl hr ih => exact .agg cs _ (by rw [s0L_len]; exact hl) fun j x hj => by obtain ⟨y, h1, rfl⟩ := s0L_get hj; exact ih j y h1
  | bool b => exact .bool b
  | int k n => exact .int k n
  | str l => exact .str l
  | tup cs l hl hr ih => exact (Rep.tup cs l hl hr).weak hk
  | func f cs l hl hr ih => exact (Rep.func f cs l hl hr).weak hk
  | nilFunc => exact .nilFunc
  | yld l => exact .yld l
  | ro b off l vs hc hr ih => exact (Rep.ro b off l vs hc hr).weak hk
  | nilPtr => exact .nilPtr
  | gp b off => exact .gp b off
  | iface t v x hx ih => exact (Rep.iface t v x hx).weak hk
  | nilIface => exact .nilIface
  | nilS => exact .nilS
  | bfn f cs l hl hr ih => exact (Rep.bfn f cs l hl hr).weak hk
  | slX p l hx ih => exact (Rep.slX p l hx).weak hk
  | anyB b => exact .anyB b
  | fr r e z v l hx hr ih => exact (Rep.fr r e z v l hx hr).weak hk
  | sr r v l hx hr ih => exact (Rep.sr r v l hx hr).weak hk
  | any v hv => exact .any v hv
  | gs b n cap => exact .gs b n cap
theorem RepL.s0 {lim : Lim} {h : Array Obj} {vs : List Value} {l : List AV} (r : RepL lim h vs l) : RepL reg0 h vs (AV.s0L l) :=
  ⟨by rw [s0L_len]; exact r.1, fun j x hj => by obtain ⟨y, h1, rfl⟩ := s0L_get hj; exact (r.2 j y h1).s0⟩

end Go.Pv
end
