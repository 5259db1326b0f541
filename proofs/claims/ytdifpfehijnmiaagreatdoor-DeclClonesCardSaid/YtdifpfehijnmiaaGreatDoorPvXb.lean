import Derived.Test.YtdifpfehijnmiaaGreatDoorPvOi
import Derived.Test.YtdifpfehijnmiaaGreatDoorPvMe
import Derived.Test.YtdifpfehijnmiaaGreatDoorPvDc
set_option linter.all false
section
/- A region is given up: who writes into it may. -/
namespace Go.Pv
open Go

mutual
def AV.off (ρ : Nat) : AV → Bool
  | .slice l => l.isEmpty
  | .fr r _ _ l => r != ρ && AV.offLL ρ l
  | .sr r l => r != ρ && AV.offLL ρ l
  | .agg l => AV.offL ρ l
  | .tup l => AV.offL ρ l
  | .bool _ | .int _ _ | .str _ | .nilS | .anyB | .nilPtr | .nilFunc | .nilIface | .gp _ _ | .any | .gs _ _ _ => true
  | _ => false
def AV.offL (ρ : Nat) : List AV → Bool
  | [] => true
  | x :: r => AV.off ρ x && AV.offL ρ r
def AV.offLL (ρ : Nat) : List (List AV) → Bool
  | [] => true
  | x :: r => AV.offL ρ x && AV.offLL ρ r
end
theorem offL_all (ρ : Nat) (l : List AV) : AV.offL ρ l = l.all (AV.off ρ) := by
  induction l with
  | nil => rfl
  | cons x r ih => simp [AV.offL, ih]
theorem offLL_all (ρ : Nat) (l : List (List AV)) : AV.offLL ρ l = l.all (AV.offL ρ) := by
  induction l with
  | nil => rfl
  | cons x r ih => simp [AV.offLL, ih]

theorem Rep.off {lim lim' : Lim} {h h' : Array Obj} {ρ : Nat} (hk : ∀ b r, CellsB h b → r ≠ ρ → lim b = .reg r → lim' b = .reg r ∧ h'[b]? = h[b]?) {v : Value} {x : AV} (r : Rep lim h v x) :
    (x.off ρ = true → Rep lim' h' v x) ∧ ∀ l, x = .slice l → AV.offLL ρ l = true → (∀ b off n cap, v = .slice (some ⟨b, off, none⟩) n cap → l.flatten ≠ [] → ∃ r, CellsB h b ∧ r ≠ ρ ∧ lim b = .reg r) → Rep lim' h' v (.slice l) := by
  have hall : ∀ {l : List AV} {j : Nat} {y : AV}, AV.offL ρ l = true → l[j]? = some y → y.off ρ = true := fun {l j y} hf hj => by
    rw [offL_all, List.all_eq_true] at hf
    exact hf y (List.mem_of_getElem? hj)
  induction r with
  | bool b => exact ⟨fun _ => .bool b, fun l he => by cases he⟩
  | int k n => exact ⟨fun _ => .int k n, fun l he => by cases he⟩
  | str l => exact ⟨fun _ => .str l, fun l he => by cases he⟩
  | slice0 p cap => exact ⟨fun _ => .slice0 p cap, fun l he _ _ => by cases he; exact .slice0 p cap⟩
  | slice b off cap sz l vs hcap hrow hc hr ih =>
    refine ⟨fun hf => ?_, fun l' he hf hb => ?_⟩
    · have hl : l = [] := by simpa [AV.off] using hf
      subst hl
      exact .slice0 _ _
    · injection he with he; subst he
      exact .slice b off cap sz l vs hcap hrow (fun j hj => by
          obtain ⟨r', hcb, hr', hlb⟩ := hb b off _ _ rfl (flat_ne hrow hj)
          obtain ⟨k1, k2⟩ := hk b r' hcb hr' hlb
          exact ⟨Lim.reg_ok k1 _, by have := (hc j hj).2; unfold cellAt at this ⊢; rw [k2]; exact this⟩)
        (fun i j r x hi hj => by
          refine (ih i j r x hi hj).1 (hall (l := r) ?_ hj)
          rw [offLL_all, List.all_eq_true] at hf
          exact hf r (List.mem_of_getElem? hi))
  | agg cs l hl hr ih => exact ⟨fun hf => .agg cs _ hl fun j x hj => (ih j x hj).1 (hall hf hj), fun l he => by cases he⟩
  | tup cs l hl hr ih => exact ⟨fun hf => .tup cs _ hl fun j x hj => (ih j x hj).1 (hall hf hj), fun l he => by cases he⟩
  | func f cs l hl hr ih => exact ⟨fun hf => by simp [AV.off] at hf, fun l he => by cases he⟩
  | nilFunc => exact ⟨fun _ => .nilFunc, fun l he => by cases he⟩
  | yld l => exact ⟨fun hf => by simp [AV.off] at hf, fun l he => by cases he⟩
  | ro b off l vs hc hr ih => exact ⟨fun hf => by simp [AV.off] at hf, fun l he => by cases he⟩
  | nilPtr => exact ⟨fun _ => .nilPtr, fun l he => by cases he⟩
  | gp b off => exact ⟨fun _ => .gp b off, fun l he => by cases he⟩
  | iface t v x hx ih => exact ⟨fun hf => by simp [AV.off] at hf, fun l he => by cases he⟩
  | nilIface => exact ⟨fun _ => .nilIface, fun l he => by cases he⟩
  | nilS => exact ⟨fun _ => .nilS, fun l he => by cases he⟩
  | bfn f cs l hl hr ih => exact ⟨fun hf => by simp [AV.off] at hf, fun l he => by cases he⟩
  | slX p l hx ih => exact ⟨fun hf => by simp [AV.off] at hf, fun l he => by cases he⟩
  | anyB b => exact ⟨fun _ => .anyB b, fun l he => by cases he⟩
  | fr r e z v l hx hr ih =>
    refine ⟨fun hf => ?_, fun l he => by cases he⟩
    simp only [AV.off, Bool.and_eq_true, bne_iff_ne, ne_eq] at hf
    have hb : ∀ b off n cap, v = .slice (some ⟨b, off, none⟩) n cap → l.length ≠ 0 → ∃ r, CellsB h b ∧ r ≠ ρ ∧ lim b = .reg r := fun b off n cap hv hl => by
      rcases hr with h2 | ⟨b', cap', cur, h2, hcb, -, -, -, h3⟩
      · exact absurd h2 hl
      · rw [h2] at hv
        injection hv with hv; injection hv with hv; injection hv with hv
        subst hv
        exact ⟨r, ⟨_, _, _, hcb⟩, hf.1, h3⟩
    refine .fr _ _ _ _ _ (ih.2 l rfl hf.2 fun b off n cap hv hl => hb b off n cap hv fun h0 => hl (by rw [List.length_eq_zero_iff.1 h0]; rfl)) ?_
    rcases hr with h2 | ⟨b', cap', cur, h2, h3, h4, h5, h6, h7⟩
    · exact .inl h2
    · obtain ⟨k1, k2⟩ := hk b' r ⟨_, _, _, h3⟩ hf.1 h7
      exact .inr ⟨b', cap', cur, h2, k2.trans h3, h4, h5, h6, k1⟩
  | sr r v l hx hr ih =>
    refine ⟨fun hf => ?_, fun l he => by cases he⟩
    simp only [AV.off, Bool.and_eq_true, bne_iff_ne, ne_eq] at hf
    refine .sr _ _ _ (ih.2 l rfl hf.2 fun b off n cap hv hl => ⟨r, (hr b off n cap hv hl).1, hf.1, (hr b off n cap hv hl).2⟩) fun b off n cap hv hl => ?_
    obtain ⟨h1, h2⟩ := hr b off n cap hv hl
    obtain ⟨k1, k2⟩ := hk b r h1 hf.1 h2
    obtain ⟨cs, e, z, hcb⟩ := h1
    exact ⟨⟨cs, e, z, k2.trans hcb⟩, k1⟩
  | any v hv => exact ⟨fun _ => .any v hv, fun l he => by cases he⟩
  | gs b n cap => exact ⟨fun _ => .gs b n cap, fun l he => by cases he⟩

def AV.kill (ρ : Nat) (x : AV) : AV := if x.off ρ then x else .any
def TV.kill (ρ : Nat) : TV → TV
  | .v x _ => if x.off ρ then .v x none else .un
  | .lp k o => .lp k o
  | _ => .un
def AS.kill (ρ b0 : Nat) (σ : AS) : AS :=
  { σ with tm := σ.tm.map fun p => (p.1, p.2.kill ρ), bx := σ.bx.map fun p => (p.1, p.2.map (AV.kill ρ)), tb := [], sh := (σ.sh.filter fun p => !(p.1 == b0)).map fun p => (p.1, p.2.map (AV.kill ρ)) }
def AS.killOk (ρ : Nat) (σ : AS) : Bool := (σ.bx.all fun p => p.2.all fun x => x.off ρ || x.one) && (σ.sh.all fun p => p.2.all fun x => x.off ρ || x.one)

theorem look_all {α : Type} {p : Nat × α → Bool} : ∀ {l : List (Nat × α)}, l.all p = true → ∀ {k : Nat} {x : α}, look k l = some x → p (k, x) = true
  | [], _, _, _, h => by cases h
  | (j, y) :: r, h, k, x, hx => by
    simp only [List.all_cons, Bool.and_eq_true] at h
    simp only [look] at hx
    split at hx
    · rename_i he; subst he; injection hx with hx; subst hx; exact h.1
    · exact look_all h.2 hx

theorem look_filter_ne' {α : Type} {b0 : Nat} : ∀ (l : List (Nat × α)) (k : Nat), look k (l.filter fun p => !(p.1 == b0)) = if k = b0 then none else look k l
  | [], k => by simp [look]
  | (j, y) :: r, k => by
    simp only [List.filter_cons]
    by_cases hj : j = b0
    · subst hj
      simp only [beq_self_eq_true, Bool.not_true, Bool.false_eq_true, if_false]
      rw [look_filter_ne' r k]
      by_cases hk : k = j
      · simp [hk]
      · simp only [look, if_neg hk, if_neg (Ne.symm hk)]
    · simp only [beq_iff_eq, hj, not_false_eq_true, Bool.not_eq_true', decide_eq_true_eq, if_true, look, show (j == b0) = false by simpa using hj, Bool.not_false]
      rw [look_filter_ne' r k]
      by_cases hk : k = b0
      · subst hk; simp [hj]
      · simp [hk]

theorem RR.kill {cx : Cx} {gh : Gh} {σ : AS} {a : Act} {w w' : World} (r : RR cx gh σ a w) (htop : cx.gl.top = true) (hgy : cx.gl.y = none) (ρ b0 : Nat) (h0 : (look b0 σ.sh).isSome = true) (hok : σ.killOk ρ = true) (hmk : σ.mks = 0)
    (hos : w'.os = w.os) (htape : w'.tape = w.tape) (hout : w'.output = w.output) (hsz : w.heap.size ≤ w'.heap.size) (hoth : Oth w w')
    (hsame : ∀ b, b < w.heap.size → b ≠ b0 → ¬ (cx.B ≤ b ∧ gh.lim b = .reg ρ) → w'.heap[b]? = w.heap[b]?) :
    ∃ gh', RR cx gh' (σ.kill ρ b0) a w' := by
  obtain ⟨ht1, ht2, ht3⟩ := r.ex.top htop
  let lim' : Lim := fun b => if cx.B ≤ b ∧ gh.lim b = .reg ρ then .upto 0 else gh.lim b
  have hlt : ∀ {b : Nat} {o : Obj}, w.heap[b]? = some o → b < w.heap.size := fun h => (Array.getElem?_eq_some_iff.1 h).1
  obtain ⟨c0, hc0⟩ := Option.isSome_iff_exists.1 h0
  obtain ⟨hs0, hl0, cs0, e0, hcs0, -⟩ := r.shs b0 c0 hc0
  have hS0 : b0 < cx.B → cx.S b0 := fun h => hs0.resolve_right (by omega)
  have hlB : ∀ {b}, b < cx.B → lim' b = gh.lim b := fun h => if_neg (by omega)
  have hl : ∀ {b}, gh.lim b ≠ .reg ρ → lim' b = gh.lim b := fun h => if_neg (by simp [h])
  have hreg : ∀ b q, CellsB w.heap b → q ≠ ρ → gh.lim b = .reg q → lim' b = .reg q ∧ w'.heap[b]? = w.heap[b]? := fun b q ⟨cs, e, z, hcb⟩ hq hb => by
    have hne : gh.lim b ≠ .reg ρ := by rw [hb]; intro h; injection h with h; exact hq h
    exact ⟨(hl hne).trans hb, hsame b (hlt hcb) (fun he => by rw [he, hl0] at hb; cases hb) (fun h => hne h.2)⟩
  have hoff : ∀ {v : Value} {x : AV}, Rep gh.lim w.heap v x → x.off ρ = true → Rep lim' w'.heap v x := fun hr hx => (Rep.off hreg hr).1 hx
  have hkeep : Keep cx.lim cx.w0.heap lim' w'.heap := by
    refine ⟨fun b o hc ho => ?_, fun b q hc hq => ?_⟩
    · obtain ⟨cs, e, z, hcb⟩ := hc
      have hbB : b < cx.B := Nat.lt_of_lt_of_le (Array.getElem?_eq_some_iff.1 hcb).1 ht1
      obtain ⟨⟨cs1, e1, z1, k1⟩, k2, k3⟩ := r.ex.keep.1 b o ⟨cs, e, z, hcb⟩ ho
      have hne : b ≠ b0 := fun he => by
        subst he
        rw [r.limB b hbB] at hl0
        exact absurd (ho 0 hl0) (Nat.not_lt_zero _)
      have hs := hsame b (hlt k1) hne (fun h => by omega)
      refine ⟨⟨cs1, e1, z1, hs.trans k1⟩, fun n hn => k2 n (by rw [← hlB hbB]; exact hn), ?_⟩
      rw [← k3]; unfold cellAt; rw [hs]
    · obtain ⟨cs, e, z, hcb⟩ := hc
      have hbB : b < cx.B := Nat.lt_of_lt_of_le (Array.getElem?_eq_some_iff.1 hcb).1 ht1
      obtain ⟨k1, k2⟩ := r.ex.keep.2 b q ⟨cs, e, z, hcb⟩ hq
      have hs := hsame b (hlt (k2.trans hcb)) (fun he => by rw [he, hl0] at k1; cases k1) (fun h => by omega)
      exact ⟨(hlB hbB).trans k1, hs.trans k2⟩
  have hnu : ∀ g e, ¬ AS.uses (σ.kill ρ b0) g e := by
    rintro g e (⟨t, x, h⟩ | ⟨k, j, h⟩)
    · rw [show (σ.kill ρ b0).tm = σ.tm.map fun p => (p.1, p.2.kill ρ) from rfl, look_map] at h
      obtain ⟨y, -, he⟩ := Option.map_eq_some_iff.1 h
      cases y <;> simp only [TV.kill] at he <;> first | cases he | (split at he <;> cases he)
    · cases h
  have hbx : ∀ k, (look k (σ.kill ρ b0).bx).isSome = (look k σ.bx).isSome := fun k => by
    rw [show (σ.kill ρ b0).bx = σ.bx.map fun p => (p.1, p.2.map (AV.kill ρ)) from rfl, look_map]; simp
  have hcells : ∀ {vs : List Value} {l : List AV}, RepL gh.lim w.heap vs l → (l.all fun x => x.off ρ || x.one) = true → RepL lim' w'.heap vs (l.map (AV.kill ρ)) := fun {vs l} hr ha => by
    refine ⟨by rw [List.length_map]; exact hr.1, fun j x hx => ?_⟩
    rw [List.getElem?_map] at hx
    obtain ⟨y, hy, rfl⟩ := Option.map_eq_some_iff.1 hx
    have h1 := hr.2 j y hy
    have h2 := List.all_eq_true.1 ha y (List.mem_of_getElem? hy)
    unfold AV.kill
    split
    · rename_i ho; exact hoff h1 ho
    · rename_i ho
      simp only [ho, Bool.false_or] at h2
      exact .any _ (h1.oneCell (by simpa using h2))
  simp only [AS.killOk, Bool.and_eq_true] at hok
  have hshl : ∀ b c, look b (σ.kill ρ b0).sh = some c → b ≠ b0 ∧ ∃ c1, look b σ.sh = some c1 ∧ c = c1.map (AV.kill ρ) := fun b c h => by
    rw [show (σ.kill ρ b0).sh = (σ.sh.filter fun p => !(p.1 == b0)).map fun p => (p.1, p.2.map (AV.kill ρ)) from rfl, look_map, look_filter_ne'] at h
    obtain ⟨c1, h1, h2⟩ := Option.map_eq_some_iff.1 h
    split at h1
    · cases h1
    · rename_i hne; exact ⟨hne, c1, h1, h2.symm⟩
  refine ⟨{ gh with lim := lim' }, { frm := r.frm.trans ⟨hos, htape, hout, hsz, fun k hk hS => hsame k (Nat.lt_of_lt_of_le hk r.base) (fun he => hS (he ▸ hS0 (he ▸ hk))) (fun h => by omega)⟩, base := Nat.le_trans r.base hsz, limB := fun b hb => (hlB hb).trans (r.limB b hb), size := r.size, ex := ⟨hkeep, r.ex.defers.oth hoth, fun Y hY => (by rw [hgy] at hY; cases hY), ⟨fun t q h => ?_, fun t t' q q' h => ?_⟩, r.ex.fx, fun hy k o h1 h2 h3 => hoth k o (r.ex.oth hy k o h1 h2 h3) h2, r.ex.top⟩, gl := fun g c h => (ht2 g c h).mono hkeep, tmps := fun t x hx => ?_, boxes := fun k c hc => ?_, inj := fun k k' h h' => r.inj k k' (by rw [← hbx]; exact h) (by rw [← hbx]; exact h'), shs := fun b c hb => ?_, apart := fun b k h h' => ?_, tbs := fun k j g e h => (by cases h), own := fun g e h => absurd h (hnu g e), alone := fun g e g' e' h => absurd h (hnu g e) }⟩
  · rw [show (σ.kill ρ b0).tm = σ.tm.map fun p => (p.1, p.2.kill ρ) from rfl, look_map] at h
    obtain ⟨y, -, he⟩ := Option.map_eq_some_iff.1 h
    cases y <;> simp only [TV.kill] at he <;> first | cases he | (split at he <;> cases he)
  · rw [show (σ.kill ρ b0).tm = σ.tm.map fun p => (p.1, p.2.kill ρ) from rfl, look_map] at h
    obtain ⟨y, -, he⟩ := Option.map_eq_some_iff.1 h
    cases y <;> simp only [TV.kill] at he <;> first | cases he | (split at he <;> cases he)
  · rw [show (σ.kill ρ b0).tm = σ.tm.map fun p => (p.1, p.2.kill ρ) from rfl, look_map] at hx
    obtain ⟨y, hy, rfl⟩ := Option.map_eq_some_iff.1 hx
    have h1 := r.tmps t y hy
    cases y with
    | v z q =>
      simp only [TV.kill]
      split
      · rename_i ho; exact ⟨⟨hoff h1.1.1 ho, by simp⟩, by simp⟩
      · exact ⟨trivial, by simp⟩
    | lp k o => exact ⟨h1.1, fun k' o' he => by rw [hbx]; exact h1.2 k' o' he⟩
    | un => exact ⟨trivial, by simp [TV.kill]⟩
    | bld l ns => exact ⟨trivial, by simp [TV.kill]⟩
    | it q => exact ⟨trivial, by simp [TV.kill]⟩
    | cl f ks => exact ⟨trivial, by simp [TV.kill]⟩
  · rw [show (σ.kill ρ b0).bx = σ.bx.map fun p => (p.1, p.2.map (AV.kill ρ)) from rfl, look_map] at hc
    obtain ⟨c1, h1, rfl⟩ := Option.map_eq_some_iff.1 hc
    obtain ⟨k1, k2, cs, e, k3, k4⟩ := r.boxes k c1 h1
    have hne : gh.lim (gh.bl k) ≠ .reg ρ := by rw [k2]; intro h; cases h
    exact ⟨k1, (hl hne).trans k2, cs, e, (hsame _ (hlt k3) (r.apart b0 k h0 (by rw [h1]; rfl)) (fun h => hne h.2)).trans k3, hcells k4 (look_all hok.1 h1)⟩
  · obtain ⟨hne, c1, h1, rfl⟩ := hshl b c hb
    obtain ⟨k1, k2, cs, e, k3, k4⟩ := r.shs b c1 h1
    have hn2 : gh.lim b ≠ .reg ρ := by rw [k2]; intro h; cases h
    exact ⟨k1, (hl hn2).trans k2, cs, e, (hsame _ (hlt k3) hne (fun h => hn2 h.2)).trans k3, hcells k4 (look_all hok.2 h1)⟩
  · obtain ⟨c, hc⟩ := Option.isSome_iff_exists.1 h
    obtain ⟨-, c1, h1, -⟩ := hshl b c hc
    exact r.apart b k (by rw [h1]; rfl) (by rw [← hbx]; exact h')

def ValidW (P : Program) (f : FuncId) (args : List AV) (b0 ρ : Nat) (c : List AV) : Prop :=
  fnOk P f = true ∧ ∀ (lim : Lim) (w : World) (cargs : List Value), RepL lim w.heap cargs args → BoxAt lim w.heap b0 c →
    Calls P f cargs.toArray w fun e w' => ∃ v, e = .returned v ∧ (w'.os = w.os ∧ w'.tape = w.tape ∧ w'.output = w.output ∧ w.heap.size ≤ w'.heap.size) ∧ Oth w w' ∧ ∀ b, b < w.heap.size → b ≠ b0 → lim b ≠ .reg ρ → w'.heap[b]? = w.heap[b]?
def GT (g : Nat → Option (List AV)) : Gl := ⟨g, none, false, true⟩
@[simp] theorem GT_g (g : Nat → Option (List AV)) : (GT g).g = g := rfl
@[simp] theorem GT_y (g : Nat → Option (List AV)) : (GT g).y = none := rfl
@[simp] theorem GT_top (g : Nat → Option (List AV)) : (GT g).top = true := rfl
def ValidT (P : Program) (gl : Gl) (f : FuncId) (args : List AV) (r : AV) : Prop :=
  fnOk P f = true ∧ ∀ (lim : Lim) (w : World) (cargs : List Value), (∀ b r, lim b = .reg r → r = 0) → GlOk gl lim w.heap → RepL lim w.heap cargs args →
    Calls P f cargs.toArray w fun e w' => ∃ v lim', e = .returned v ∧ Frm w.heap.size (fun _ => False) w w' ∧ Rep lim' w'.heap v r
theorem validT_of {P : Program} {g : Nat → Option (List AV)} {f : FuncId} {fn : Func} {c : Code} {args : List AV} {r : AV} (hint : List (Nat × Nat)) (hf : P.funcs[f]? = some fn) (hb : fn.body = some c) (hok : fnOk P f = true)
    (h : AT P (GT g) c (entry fn args [] hint) (done P fn fun r' _ => r' = r)) : ValidT P (GT g) f args r := by
  refine ⟨hok, fun lim w cargs hlim hgl hargs => ?_⟩
  let cx : Cx := { P := P, B := w.heap.size, S := fun _ => False, lim := lim, w0 := w, df := [], gl := GT g, fx := fun _ => none }
  have hr := entry_rr (cx := cx) (fn := fn) (hint := hint) (sh := []) (ys := ([], true)) (Nat.le_refl _) (fun _ => ⟨Nat.le_refl _, hlim⟩) rfl hgl hargs (fun b cl hb => (by cases hb)) (fun _ => rfl) (fun Y hY => by cases hY)
  refine calls_of_AT (cx := cx) hf hb rfl hr h (fun _ _ _ => .inl ⟨rfl, rfl⟩) fun s r' gh a' w' v => ?_
  rintro rfl rr h2
  exact ⟨v, gh.lim, rfl, rr.frm, h2⟩
end Go.Pv
end

section
/- A function that changes strings in one object and in the blocks of one region: what lies there all the same. -/
namespace Go.Pv
open Go

def StrAl (k : Nat) (v v' : Value) : Prop := v' = v ∨ ∃ s s' : ByteArray, v = .string s ∧ v' = .string s' ∧ s'.size ≤ s.size + k
theorem StrAl.mono {k k' : Nat} (h : k ≤ k') {v v' : Value} (r : StrAl k v v') : StrAl k' v v' := by
  rcases r with r | ⟨s, s', h1, h2, h3⟩
  · exact .inl r
  · exact .inr ⟨s, s', h1, h2, by omega⟩
theorem StrAl.str {k : Nat} {s : ByteArray} {v' : Value} (r : StrAl k (.string s) v') : ∃ s', v' = .string s' ∧ s'.size ≤ s.size + k := by
  rcases r with r | ⟨a, s', h1, h2, h3⟩
  · exact ⟨s, r, by omega⟩
  · cases h1; exact ⟨s', h2, h3⟩
theorem StrAl.sl {k n cap : Nat} {p : Option Addr} {v' : Value} (r : StrAl k (.slice p n cap) v') : v' = .slice p n cap := by
  rcases r with r | ⟨a, s', h1, h2, h3⟩
  · exact r
  · cases h1

structure Altd (lim : Lim) (ρ b0 k : Nat) (h0 h : Array Obj) : Prop where
  size : h0.size ≤ h.size
  same : ∀ b : Nat, b < h0.size → b ≠ b0 → lim b ≠ .reg ρ → h[b]? = h0[b]?
  cells : ∀ (b : Nat) cs e g, h0[b]? = some (.cells cs e g) → ∃ cs', h[b]? = some (.cells cs' e g) ∧ ∀ (j : Nat) v, cs[j]? = some v → ∃ v', cs'[j]? = some v' ∧ StrAl k v v'
  oth : ∀ (b : Nat) (o : Obj), h0[b]? = some o → o.isCells = false → h[b]? = some o
theorem Altd.refl (lim : Lim) (ρ b0 k : Nat) (h : Array Obj) : Altd lim ρ b0 k h h :=
  ⟨Nat.le_refl _, fun _ _ _ _ => rfl, fun _ cs _ _ h => ⟨cs, h, fun _ v hv => ⟨v, hv, .inl rfl⟩⟩, fun _ _ h _ => h⟩
theorem Altd.mono {lim : Lim} {ρ b0 k k' : Nat} {h0 h : Array Obj} (hk : k ≤ k') (m : Altd lim ρ b0 k h0 h) : Altd lim ρ b0 k' h0 h :=
  ⟨m.size, m.same, fun b cs e g hb => by
    obtain ⟨cs', h1, h2⟩ := m.cells b cs e g hb
    exact ⟨cs', h1, fun j v hv => by obtain ⟨v', h3, h4⟩ := h2 j v hv; exact ⟨v', h3, h4.mono hk⟩⟩, m.oth⟩
theorem Altd.cell {lim : Lim} {ρ b0 k : Nat} {h0 h : Array Obj} (m : Altd lim ρ b0 k h0 h) {b j : Nat} {v : Value} (hv : cellAt h0 b j = some v) : ∃ v', cellAt h b j = some v' ∧ StrAl k v v' := by
  obtain ⟨cs, e, g, hb⟩ := cellAt_B hv
  obtain ⟨cs', h1, h2⟩ := m.cells b cs e g hb
  unfold cellAt at hv ⊢
  rw [hb] at hv
  rw [h1]
  exact h2 j v hv
theorem Altd.store {lim : Lim} {ρ b0 k k' : Nat} {h0 : Array Obj} {w : World} (m : Altd lim ρ b0 k h0 w.heap) (hk : k ≤ k') {b j : Nat} (hw : b = b0 ∨ lim b = .reg ρ) {s s' : ByteArray} (hv : cellAt h0 b j = some (.string s)) (hs : s'.size ≤ s.size + k') :
    Altd lim ρ b0 k' h0 (w.setCell ⟨b, j, none⟩ (.string s')).heap := by
  have m := m.mono hk
  obtain ⟨cs, e, g, hb⟩ := cellAt_B hv
  refine ⟨by simp only [World.setCell, Array.size_modify]; exact m.size, fun b' h1 h2 h3 => ?_, fun b' cs1 e1 g1 h1 => ?_, fun b' o h1 h2 => ?_⟩
  · have hne : b ≠ b' := by
      rintro rfl
      rcases hw with hw | hw
      · exact h2 hw
      · exact h3 hw
    simp only [World.setCell, Array.getElem?_modify, if_neg hne]
    exact m.same b' h1 h2 h3
  · obtain ⟨cs', h3, h4⟩ := m.cells b' cs1 e1 g1 h1
    by_cases hne : b = b'
    · subst hne
      simp only [World.setCell, Array.getElem?_modify, if_true, h3, Option.map_some, Option.isSome_none, Bool.false_eq_true, if_false]
      refine ⟨_, rfl, fun i v hi => ?_⟩
      obtain ⟨v', h5, h6⟩ := h4 i v hi
      by_cases hij : j = i
      · subst hij
        have hvs : v = .string s := by
          unfold cellAt at hv
          rw [h1] at hv
          simp only at hv
          rw [hi] at hv
          exact Option.some.inj hv
        subst hvs
        have hlt := (Array.getElem?_eq_some_iff.1 h5).1
        exact ⟨.string s', by rw [Array.getElem?_setIfInBounds]; simp [hlt], .inr ⟨s, s', rfl, rfl, hs⟩⟩
      · exact ⟨v', by rw [Array.getElem?_setIfInBounds, if_neg hij]; exact h5, h6⟩
    · exact ⟨cs', by simp only [World.setCell, Array.getElem?_modify, if_neg hne]; exact h3, h4⟩
  · have hne : b ≠ b' := by
      rintro rfl
      rw [hb] at h1; cases h1; cases h2
    simp only [World.setCell, Array.getElem?_modify, if_neg hne]
    exact m.oth b' o h1 h2
theorem Altd.new {lim : Lim} {ρ b0 k : Nat} {h0 : Array Obj} {w : World} (m : Altd lim ρ b0 k h0 w.heap) {a : Addr} (ha : h0.size ≤ a.block) (v : Value) : Altd lim ρ b0 k h0 (w.setCell a v).heap := by
  have hlt : ∀ {b : Nat} {o : Obj}, h0[b]? = some o → a.block ≠ b := fun h => by have := (Array.getElem?_eq_some_iff.1 h).1; omega
  refine ⟨by simp only [World.setCell, Array.size_modify]; exact m.size, fun b h1 h2 h3 => ?_, fun b cs e g h1 => ?_, fun b o h1 h2 => ?_⟩
  · simp only [World.setCell, Array.getElem?_modify, if_neg (show a.block ≠ b by omega)]
    exact m.same b h1 h2 h3
  · simp only [World.setCell, Array.getElem?_modify, if_neg (hlt h1)]
    exact m.cells b cs e g h1
  · simp only [World.setCell, Array.getElem?_modify, if_neg (hlt h1)]
    exact m.oth b o h1 h2
theorem Altd.alloc {lim : Lim} {ρ b0 k : Nat} {h0 : Array Obj} {w : World} (m : Altd lim ρ b0 k h0 w.heap) (o : Obj) : Altd lim ρ b0 k h0 (w.alloc o).heap := by
  have hs := m.size
  have hlt : ∀ {b : Nat} {o : Obj}, h0[b]? = some o → b < w.heap.size := fun h => by have := (Array.getElem?_eq_some_iff.1 h).1; omega
  refine ⟨by simp only [World.alloc, Array.size_push]; omega, fun b h1 h2 h3 => ?_, fun b cs e g h1 => ?_, fun b o h1 h2 => ?_⟩
  · simp only [World.alloc]
    rw [Array.getElem?_push, if_neg (by omega)]
    exact m.same b h1 h2 h3
  · simp only [World.alloc]
    rw [Array.getElem?_push, if_neg (by have := hlt h1; omega)]
    exact m.cells b cs e g h1
  · simp only [World.alloc]
    rw [Array.getElem?_push, if_neg (by have := hlt h1; omega)]
    exact m.oth b o h1 h2
theorem Altd.validW {lim : Lim} {ρ b0 k : Nat} {w w' : World} (m : Altd lim ρ b0 k w.heap w'.heap) : Oth w w' ∧ ∀ b, b < w.heap.size → b ≠ b0 → lim b ≠ .reg ρ → w'.heap[b]? = w.heap[b]? :=
  ⟨fun b o h1 h2 => m.oth b o h1 h2, fun b h1 h2 h3 => m.same b h1 h2 h3⟩

def NodeC (lim : Lim) (h : Array Obj) (b off : Nat) (l : List AV) : Prop :=
  (∃ cs e, h[b]? = some (.cells cs e (0, 0))) ∧ ∀ (j : Nat) (x : AV), l[j]? = some x → ∃ u, cellAt h b (off + j) = some u ∧ Rep lim h u x
theorem NodeC.of_box {lim : Lim} {h : Array Obj} {b : Nat} {l : List AV} (r : BoxAt lim h b l) : NodeC lim h b 0 l := by
  obtain ⟨-, cs, e, h1, h2⟩ := r
  refine ⟨⟨cs, e, h1⟩, fun j x hj => ?_⟩
  obtain ⟨u, h3, h4⟩ := h2.get hj
  refine ⟨u, ?_, h4⟩
  unfold cellAt
  rw [h1, Nat.zero_add]
  simpa using h3
theorem Rep.kid {lim : Lim} {h : Array Obj} {v : Value} {ρ e z i : Nat} {l : List (List AV)} {r : List AV} (hr : Rep lim h v (.fr ρ e z l)) (hrow : ∀ x ∈ l, x.length = z) (hi : l[i]? = some r) :
    ∃ b cap, v = .slice (some ⟨b, 0, none⟩) l.length cap ∧ l.length ≤ cap ∧ cap ≤ maxLen ∧ lim b = .reg ρ ∧ NodeC lim h b (i * z) r := by
  have hlt := (List.getElem?_eq_some_iff.1 hi).1
  have hmem := List.mem_of_getElem? hi
  cases hr with
  | fr _ _ _ _ _ hx hR =>
    rcases hR with h0 | ⟨b, cap, cur, rfl, h2, h3, h4, h5, h6⟩
    · omega
    · refine ⟨b, cap, rfl, h3, h4, h6, ⟨cur, e, h2⟩, fun j x hj => ?_⟩
      obtain ⟨b', off', vs, hp, hvl, hv, hcell⟩ := hx.slice_cells hrow (fun hn => by rw [hn] at hlt; simp at hlt)
      simp only [Option.some.injEq, Addr.mk.injEq, and_true] at hp
      obtain ⟨rfl, rfl⟩ := hp
      have hjz : j < z := by rw [← hrow r hmem]; exact (List.getElem?_eq_some_iff.1 hj).1
      have hfl : l.flatten[i * z + j]? = some x := by
        have key : ∀ (l : List (List AV)) (i : Nat), (∀ x ∈ l, x.length = z) → l[i]? = some r → l.flatten[i * z + j]? = some x := by
          intro l
          induction l with
          | nil => intro i _ hi; cases hi
          | cons a l ih =>
            intro i hl hi
            have ha := hl a (by simp)
            cases i with
            | zero =>
              simp only [List.getElem?_cons_zero, Option.some.injEq] at hi
              subst hi
              rw [List.flatten_cons, Nat.zero_mul, Nat.zero_add, List.getElem?_append_left (by omega)]
              exact hj
            | succ i =>
              rw [List.getElem?_cons_succ] at hi
              rw [List.flatten_cons, List.getElem?_append_right (by rw [ha, Nat.add_mul]; omega), ha, show (i + 1) * z + j - z = i * z + j by rw [Nat.add_mul]; omega]
              exact ih i (fun y hy => hl y (by simp [hy])) hi
        exact key l i hrow hi
      obtain ⟨u, h7, h8⟩ := hv.get hfl
      exact ⟨u, by have := (hcell _ _ h7).2; simpa using this, h8⟩
theorem NodeC.str {lim : Lim} {ρ b0 k : Nat} {h0 : Array Obj} {w : World} (m : Altd lim ρ b0 k h0 w.heap) {b off j : Nat} {l : List AV} {s : List UInt8} (n : NodeC lim h0 b off l) (hj : l[j]? = some (.str s)) :
    cellAt h0 b (off + j) = some (.string ⟨s.toArray⟩) ∧ ∃ s', w.cell? ⟨b, off + j, none⟩ = some (.string s') ∧ s'.size ≤ s.length + k := by
  obtain ⟨u, h1, h2⟩ := n.2 j _ hj
  cases h2
  obtain ⟨v', h3, h4⟩ := m.cell h1
  obtain ⟨s', rfl, h5⟩ := h4.str
  exact ⟨h1, s', by rw [cell?_eq]; exact h3, h5⟩
theorem NodeC.sl {lim : Lim} {ρ b0 k : Nat} {h0 : Array Obj} {w : World} (m : Altd lim ρ b0 k h0 w.heap) {b off j r e z : Nat} {l : List AV} {q : List (List AV)} (n : NodeC lim h0 b off l) (hj : l[j]? = some (.fr r e z q)) :
    ∃ p c, w.cell? ⟨b, off + j, none⟩ = some (.slice p q.length c) ∧ Rep lim h0 (.slice p q.length c) (.fr r e z q) := by
  obtain ⟨u, h1, h2⟩ := n.2 j _ hj
  obtain ⟨v', h3, h4⟩ := m.cell h1
  cases h2 with
  | fr _ _ _ _ _ hx hR =>
    obtain ⟨p, c, rfl, -⟩ := hx.slice_form
    rw [h4.sl] at h3
    exact ⟨p, c, by rw [cell?_eq]; exact h3, .fr _ _ _ _ _ hx hR⟩
theorem NodeC.slAt {lim : Lim} {ρ b0 k : Nat} {h0 : Array Obj} {w : World} (m : Altd lim ρ b0 k h0 w.heap) {b off j n c : Nat} {p : Option Addr} (h : cellAt h0 b (off + j) = some (.slice p n c)) : w.cell? ⟨b, off + j, none⟩ = some (.slice p n c) := by
  obtain ⟨v', h1, h2⟩ := m.cell h
  rw [h2.sl] at h1
  rw [cell?_eq]; exact h1
theorem NodeC.slOf {lim : Lim} {h0 : Array Obj} {b off j r e z : Nat} {l : List AV} {q : List (List AV)} (n : NodeC lim h0 b off l) (hj : l[j]? = some (.fr r e z q)) :
    ∃ p c, cellAt h0 b (off + j) = some (.slice p q.length c) ∧ Rep lim h0 (.slice p q.length c) (.fr r e z q) := by
  obtain ⟨u, h1, h2⟩ := n.2 j _ hj
  cases h2 with
  | fr _ _ _ _ _ hx hR =>
    obtain ⟨p, c, rfl, -⟩ := hx.slice_form
    exact ⟨p, c, h1, .fr _ _ _ _ _ hx hR⟩
theorem NodeC.thaw {lim : Lim} {ρ b0 k : Nat} {h0 : Array Obj} {w : World} (m : Altd lim ρ b0 k h0 w.heap) {b off : Nat} {l : List AV} (n : NodeC lim h0 b off l) (o : Nat) : w.frozen? ⟨b, o, none⟩ = false := by
  obtain ⟨⟨cs, e, h1⟩, -⟩ := n
  obtain ⟨cs', h2, -⟩ := m.cells b cs e (0, 0) h1
  simp [World.frozen?, h2]
end Go.Pv
end

section
/- From data to declarations and programs. -/
namespace Go.Pv
open Go

structure DTys (P : Program) where
  S : Nat
  I : Nat
  L : Nat
  T : Nat
  X : Nat
  E : Nat
  SL : Nat
  FL : Nat
  F : Nat
  QL : Nat
  Q : Nat
  GL : Nat
  G : Nat
  hS : P.underlying S = some .string
  hI : P.underlying I = some (.int .i64)
  hL : P.underlying L = some (.slice T)
  hF : ftypes P T = some [S, L, I]
  hb : 0 < P.bytesOf T
  hX : P.underlying X = some (.slice E)
  hE : ftypes P E = some [I, S, T, L, X, I]
  hbe : 0 < P.bytesOf E
  hSL : P.underlying SL = some (.slice S)
  hbs : 0 < P.bytesOf S
  hFL : P.underlying FL = some (.slice F)
  hFF : ftypes P F = some [S, T, I]
  hbf : 0 < P.bytesOf F
  hQL : P.underlying QL = some (.slice Q)
  hQQ : ftypes P Q = some [S, T, I]
  hbq : 0 < P.bytesOf Q
  hGL : P.underlying GL = some (.slice G)
  hGG : ftypes P G = some [S, FL, QL, T, I]
  hbg : 0 < P.bytesOf G

section
variable {H : Type} {P : Program}

theorem fm_of (c : DTys P) {F : Nat} (hFF : ftypes P F = some [c.S, c.T, c.I]) (n : Nat) (d : DataW H) (h : typed P n F d) (hw : (d.weights P F).all (· ≤ reachBytes) = true) : ∃ f : Fm, avOf d = encF f ∧ fitF f := by
  obtain ⟨m, ps, rfl, rfl, hps, hwe⟩ := typed_struct hFF h
  rw [hwe] at hw
  match ps, hps with
  | [s, t, p], ⟨hs, ht, hp, _⟩ =>
    obtain ⟨w1, hw⟩ := weightsEach_cons hw
    obtain ⟨w2, hw⟩ := weightsEach_cons hw
    obtain ⟨s, hs1, hs2⟩ := str_of c.hS hs w1
    obtain ⟨⟨tn, tas, tp⟩, ht1, ht2⟩ := ty_of c.hS c.hI c.hL c.hF c.hb m _ ht w2
    obtain ⟨p, rfl, -⟩ := typed_int c.hI hp
    exact ⟨⟨s, .mk tn tas tp, p⟩, by simp [avOf, avFlat, hs1, ht1, encF, encTy_mk], hs2, ht2⟩
theorem fms_of (c : DTys P) {F FL : Nat} (hFL : P.underlying FL = some (.slice F)) (hFF : ftypes P F = some [c.S, c.T, c.I]) (hbf : 0 < P.bytesOf F) (n : Nat) (d : DataW H) (h : typed P n FL d) (hw : (d.weights P FL).all (· ≤ reachBytes) = true) :
    ∃ l : List Fm, avOf d = [.slice (l.map encF)] ∧ fitFs l := by
  obtain ⟨q, rfl, hq⟩ := typed_slice hFL h
  rcases hq with rfl | ⟨es, sp, rfl, hq⟩
  · exact ⟨[], rfl, by simp, fun f hf => by cases hf⟩
  · obtain ⟨g1, g2⟩ := weights_slice hFL hbf hw
    obtain ⟨l, e1, e2, e3⟩ := rows_of (enc := encF) (good := fitF) es (fun x hx => fm_of c hFF q x (hq x hx) (g2 x hx))
    exact ⟨l, by simp [avOf, e1], by omega, e3⟩
theorem sg_of (c : DTys P) (n : Nat) (d : DataW H) (h : typed P n c.G d) (hw : (d.weights P c.G).all (· ≤ reachBytes) = true) : ∃ s : Sg, avOf d = encG s ∧ fitG s := by
  obtain ⟨m, ps, rfl, rfl, hps, hwe⟩ := typed_struct c.hGG h
  rw [hwe] at hw
  match ps, hps with
  | [s, f, q, t, p], ⟨hs, hf, hq, ht, hp, _⟩ =>
    obtain ⟨w1, hw⟩ := weightsEach_cons hw
    obtain ⟨w2, hw⟩ := weightsEach_cons hw
    obtain ⟨w3, hw⟩ := weightsEach_cons hw
    obtain ⟨w4, hw⟩ := weightsEach_cons hw
    obtain ⟨s, hs1, hs2⟩ := str_of c.hS hs w1
    obtain ⟨f, hf1, hf2⟩ := fms_of c c.hFL c.hFF c.hbf m _ hf w2
    obtain ⟨q, hq1, hq2⟩ := fms_of c c.hQL c.hQQ c.hbq m _ hq w3
    obtain ⟨⟨tn, tas, tp⟩, ht1, ht2⟩ := ty_of c.hS c.hI c.hL c.hF c.hb m _ ht w4
    obtain ⟨p, rfl, -⟩ := typed_int c.hI hp
    exact ⟨⟨s, f, q, .mk tn tas tp, p⟩, by simp [avOf, avFlat, hs1, hf1, hq1, ht1, encG, encTy_mk], hs2, hf2, hq2, ht2⟩
theorem sgs_of (c : DTys P) (n : Nat) (d : DataW H) (h : typed P n c.GL d) (hw : (d.weights P c.GL).all (· ≤ reachBytes) = true) : ∃ l : List Sg, avOf d = [.slice (l.map encG)] ∧ l.length ≤ 140737488355328 ∧ ∀ s ∈ l, fitG s := by
  obtain ⟨q, rfl, hq⟩ := typed_slice c.hGL h
  rcases hq with rfl | ⟨es, sp, rfl, hq⟩
  · exact ⟨[], rfl, by simp, fun f hf => by cases hf⟩
  · obtain ⟨g1, g2⟩ := weights_slice c.hGL c.hbg hw
    obtain ⟨l, e1, e2, e3⟩ := rows_of (enc := encG) (good := fitG) es (fun x hx => sg_of c q x (hq x hx) (g2 x hx))
    exact ⟨l, by simp [avOf, e1], by omega, e3⟩
theorem dc_of (c : DTys P) {D : Nat} (hD : ftypes P D = some [c.I, c.S, c.FL, c.QL, c.GL, c.S, c.SL, c.G, c.E, c.I]) (n : Nat) (d : DataW H) (h : typed P n D d) (hw : (d.weights P D).all (· ≤ reachBytes) = true) : ∃ x : Dc, avOf d = encD x ∧ fitD x := by
  obtain ⟨m, ps, rfl, rfl, hps, hwe⟩ := typed_struct hD h
  rw [hwe] at hw
  match ps, hps with
  | [k, s, f, q, g, r, v, sg, b, p], ⟨hk, hs, hf, hq, hg, hr, hv, hsg, hb, hp, _⟩ =>
    obtain ⟨w1, hw⟩ := weightsEach_cons hw
    obtain ⟨w2, hw⟩ := weightsEach_cons hw
    obtain ⟨w3, hw⟩ := weightsEach_cons hw
    obtain ⟨w4, hw⟩ := weightsEach_cons hw
    obtain ⟨w5, hw⟩ := weightsEach_cons hw
    obtain ⟨w6, hw⟩ := weightsEach_cons hw
    obtain ⟨w7, hw⟩ := weightsEach_cons hw
    obtain ⟨w8, hw⟩ := weightsEach_cons hw
    obtain ⟨w9, hw⟩ := weightsEach_cons hw
    obtain ⟨k, rfl, -⟩ := typed_int c.hI hk
    obtain ⟨s, hs1, hs2⟩ := str_of c.hS hs w2
    obtain ⟨f, hf1, hf2⟩ := fms_of c c.hFL c.hFF c.hbf m _ hf w3
    obtain ⟨q, hq1, hq2⟩ := fms_of c c.hQL c.hQQ c.hbq m _ hq w4
    obtain ⟨g, hg1, hg2⟩ := sgs_of c m _ hg w5
    obtain ⟨r, hr1, hr2⟩ := str_of c.hS hr w6
    obtain ⟨v, hv1, hv2⟩ := strs_of c.hS c.hSL c.hbs m _ hv w7
    obtain ⟨sg, hsg1, hsg2⟩ := sg_of c m _ hsg w8
    obtain ⟨b, hb1, hb2⟩ := exp_of c.hS c.hI c.hL c.hF c.hb c.hX c.hE c.hbe m _ hb w9
    obtain ⟨p, rfl, -⟩ := typed_int c.hI hp
    exact ⟨⟨k, s, f, q, g, r, v, sg, b, p⟩, by simp [avOf, avFlat, hs1, hf1, hq1, hg1, hr1, hv1, hsg1, hb1, encD, encG, encE_def], hs2, hf2, hq2, hg2, hr2, hv2, hsg2, hb2⟩
theorem pg_of (c : DTys P) {D DL Z : Nat} (hD : ftypes P D = some [c.I, c.S, c.FL, c.QL, c.GL, c.S, c.SL, c.G, c.E, c.I]) (hDL : P.underlying DL = some (.slice D)) (hbd : 0 < P.bytesOf D) (hZ : ftypes P Z = some [DL, c.E]) (n : Nat) (d : DataW H) (h : typed P n Z d) (hw : (d.weights P Z).all (· ≤ reachBytes) = true) : ∃ x : Pg, avOf d = encPg x ∧ fitPg x := by
  obtain ⟨m, ps, rfl, rfl, hps, hwe⟩ := typed_struct hZ h
  rw [hwe] at hw
  match ps, hps with
  | [ds, b], ⟨hds, hb, _⟩ =>
    obtain ⟨w1, hw⟩ := weightsEach_cons hw
    obtain ⟨w2, hw⟩ := weightsEach_cons hw
    obtain ⟨b, hb1, hb2⟩ := exp_of c.hS c.hI c.hL c.hF c.hb c.hX c.hE c.hbe m _ hb w2
    obtain ⟨q, rfl, hq⟩ := typed_slice hDL hds
    rcases hq with rfl | ⟨es, sp, rfl, hq⟩
    · exact ⟨⟨[], b⟩, by simp [avOf, avFlat, hb1, encPg, encE_def], ⟨by simp, fun f hf => by cases hf⟩, hb2⟩
    · obtain ⟨g1, g2⟩ := weights_slice hDL hbd w1
      obtain ⟨l, e1, e2, e3⟩ := rows_of (enc := encD) (good := fitD) es (fun x hx => dc_of c hD q x (hq x hx) (g2 x hx))
      exact ⟨⟨l, b⟩, by simp [avOf, avFlat, e1, hb1, encPg, encE_def], ⟨(show l.length ≤ 140737488355328 by omega), e3⟩, hb2⟩
end
end Go.Pv
end
