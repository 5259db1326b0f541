import Derived.Test.YtocmdbojefgpbaaGreatDoorPvOn
set_option linter.all false
section
/- Regions of a result, each under a new name. -/
namespace Go.Pv
open Go
mutual
def AV.rn (φ : Nat → Nat) : AV → AV
  | .slice l => .slice (AV.rnLL φ l)
  | .fr r e z l => .fr (φ r) e z (AV.rnLL φ l)
  | .sr r l => .sr (φ r) (AV.rnLL φ l)
  | .agg l => .agg (AV.rnL φ l)
  | .tup l => .tup (AV.rnL φ l)
  | x => x
def AV.rnL (φ : Nat → Nat) : List AV → List AV
  | [] => []
  | x :: r => AV.rn φ x :: AV.rnL φ r
def AV.rnLL (φ : Nat → Nat) : List (List AV) → List (List AV)
  | [] => []
  | x :: r => AV.rnL φ x :: AV.rnLL φ r
end
theorem rnL_map (φ : Nat → Nat) (l : List AV) : AV.rnL φ l = l.map (AV.rn φ) := by
  induction l with
  | nil => rfl
  | cons x r ih => simp [AV.rnL, ih]
theorem rnLL_map (φ : Nat → Nat) (l : List (List AV)) : AV.rnLL φ l = l.map (AV.rnL φ) := by
  induction l with
  | nil => rfl
  | cons x r ih => simp [AV.rnLL, ih]
theorem rnLL_len (φ : Nat → Nat) (l : List (List AV)) : (AV.rnLL φ l).length = l.length := by rw [rnLL_map, List.length_map]
theorem rnL_len (φ : Nat → Nat) (l : List AV) : (AV.rnL φ l).length = l.length := by rw [rnL_map, List.length_map]
theorem rnL_get {φ : Nat → Nat} {l : List AV} {j : Nat} {x : AV} (h : (AV.rnL φ l)[j]? = some x) : ∃ y, l[j]? = some y ∧ x = AV.rn φ y := by
  rw [rnL_map, List.getElem?_map] at h
  obtain ⟨y, h1, h2⟩ := Option.map_eq_some_iff.1 h
  exact ⟨y, h1, h2.symm⟩
theorem rnLL_get {φ : Nat → Nat} {l : List (List AV)} {j : Nat} {x : List AV} (h : (AV.rnLL φ l)[j]? = some x) : ∃ y, l[j]? = some y ∧ x = AV.rnL φ y := by
  rw [rnLL_map, List.getElem?_map] at h
  obtain ⟨y, h1, h2⟩ := Option.map_eq_some_iff.1 h
  exact ⟨y, h1, h2.symm⟩
theorem rnLL_flat {φ : Nat → Nat} : ∀ {l : List (List AV)}, l.flatten = [] → (AV.rnLL φ l).flatten = []
  | [], _ => rfl
  | a :: l, h => by
    simp only [List.flatten_cons, List.append_eq_nil_iff] at h
    simp only [AV.rnLL, List.flatten_cons, List.append_eq_nil_iff]
    refine ⟨?_, rnLL_flat h.2⟩
    rw [h.1]; rfl
theorem Rep.ren {lim lim' : Lim} {h : Array Obj} {n0 : Nat} {φ : Nat → Nat} (h0 : ∀ b, b < n0 → ∀ r, lim b ≠ .reg r) (h1 : ∀ b q, n0 ≤ b → lim b = .reg q → lim' b = .reg (φ q)) {v : Value} {x : AV} (r : Rep lim h v x) :
    (x.fresh = true → Rep lim' h v (x.rn φ)) ∧ ∀ l, x = .slice l → AV.freshLL l = true → (∀ b off n cap, v = .slice (some ⟨b, off, none⟩) n cap → l.flatten ≠ [] → ∃ q, lim' b = .reg q) → Rep lim' h v (.slice (AV.rnLL φ l)) := by
  have hall : ∀ {l : List AV} {j : Nat} {y : AV}, AV.freshL l = true → l[j]? = some y → y.fresh = true := fun {l j y} hf hj => by
    rw [freshL_all, List.all_eq_true] at hf
    exact hf y (List.mem_of_getElem? hj)
  induction r with
  | bool b => exact ⟨fun _ => .bool b, fun l he => by cases he⟩
  | int k n => exact ⟨fun _ => .int k n, fun l he => by cases he⟩
  | str l => exact ⟨fun _ => .str l, fun l he => by cases he⟩
  | slice0 p cap => exact ⟨fun _ => .slice0 p cap, fun l he _ _ => by cases he; exact .slice0 p cap⟩
  | slice b off cap sz l vs hcap hrow hc hr ih =>
    refine ⟨fun hf => ?_, fun l' he hf hb => ?_⟩
    · have hl : l = [] := by simpa [AV.fresh] using hf
      subst hl
      exact .slice0 _ _
    · injection he with he; subst he
      have hn : ∀ j, j < l.length * sz → ∃ q, lim' b = .reg q := fun j hj => hb b off _ _ rfl (flat_ne hrow hj)
      have e := rnLL_len φ l
      have := Rep.slice (lim := lim') (h := h) b off cap sz (AV.rnLL φ l) vs (by rw [e]; exact hcap) (fun i r hi => by obtain ⟨y, h1, rfl⟩ := rnLL_get hi; rw [rnL_len]; exact hrow i y h1)
        (by rw [e]; exact fun j hj => ⟨Lim.reg_ok (hn j hj).choose_spec _, (hc j hj).2⟩)
        (fun i j r x hi hj => by
          obtain ⟨y, h1, rfl⟩ := rnLL_get hi; obtain ⟨z, h2, rfl⟩ := rnL_get hj
          refine (ih i j y z h1 h2).1 (hall (l := y) ?_ h2)
          rw [freshLL_all, List.all_eq_true] at hf
          exact hf y (List.mem_of_getElem? h1))
      rw [e] at this
      exact this
  | agg cs l hl hr ih => exact ⟨fun hf => .agg cs _ (by rw [rnL_len]; exact hl) fun j x hj => by obtain ⟨y, h1, rfl⟩ := rnL_get hj; exact (ih j y h1).1 (hall hf h1), fun l he => by cases he⟩
  | tup cs l hl hr ih => exact ⟨fun hf => .tup cs _ (by rw [rnL_len]; exact hl) fun j x hj => by obtain ⟨y, h1, rfl⟩ := rnL_get hj; exact (ih j y h1).1 (hall hf h1), fun l he => by cases he⟩
  | func f cs l hl hr ih => exact ⟨fun hf => by simp [AV.fresh] at hf, fun l he => by cases he⟩
  | nilFunc => exact ⟨fun _ => .nilFunc, fun l he => by cases he⟩
  | yld l => exact ⟨fun hf => by simp [AV.fresh] at hf, fun l he => by cases he⟩
  | ro b off l vs hc hr ih => exact ⟨fun hf => by simp [AV.fresh] at hf, fun l he => by cases he⟩
  | nilPtr => exact ⟨fun _ => .nilPtr, fun l he => by cases he⟩
  | gp b off => exact ⟨fun hf => by simp [AV.fresh] at hf, fun l he => by cases he⟩
  | iface t v x hx ih => exact ⟨fun hf => by simp [AV.fresh] at hf, fun l he => by cases he⟩
  | nilIface => exact ⟨fun _ => .nilIface, fun l he => by cases he⟩
  | nilS => exact ⟨fun _ => .nilS, fun l he => by cases he⟩
  | bfn f cs l hl hr ih => exact ⟨fun hf => by simp [AV.fresh] at hf, fun l he => by cases he⟩
  | slX p l hx ih => exact ⟨fun hf => by simp [AV.fresh] at hf, fun l he => by cases he⟩
  | anyB b => exact ⟨fun _ => .anyB b, fun l he => by cases he⟩
  | fr r e z v l hx hr ih =>
    refine ⟨fun hf => ?_, fun l he => by cases he⟩
    have hb : ∀ b off n cap, v = .slice (some ⟨b, off, none⟩) n cap → l.length ≠ 0 → lim' b = .reg (φ r) := fun b off n cap hv hl => by
      rcases hr with h2 | ⟨b', cap', cur, h2, -, -, -, -, h3⟩
      · exact absurd h2 hl
      · rw [h2] at hv
        injection hv with hv; injection hv with hv; injection hv with hv
        subst hv
        rcases Nat.lt_or_ge b' n0 with h4 | h4
        · exact absurd h3 (h0 b' h4 r)
        · exact h1 b' r h4 h3
    refine .fr _ _ _ _ _ (ih.2 l rfl hf fun b off n cap hv hl => ⟨_, hb b off n cap hv fun h0 => hl (by rw [List.length_eq_zero_iff.1 h0]; rfl)⟩) ?_
    rw [rnLL_len]
    rcases hr with h2 | ⟨b', cap', cur, h2, h3, h4, h5, h6, h7⟩
    · exact .inl h2
    · by_cases h8 : l.length = 0
      · exact .inl h8
      · exact .inr ⟨b', cap', cur, h2, h3, h4, h5, h6, hb _ _ _ _ h2 h8⟩
  | sr r v l hx hr ih =>
    refine ⟨fun hf => ?_, fun l he => by cases he⟩
    have hb : ∀ b off n cap, v = .slice (some ⟨b, off, none⟩) n cap → l.flatten ≠ [] → CellsB h b ∧ lim' b = .reg (φ r) := fun b off n cap hv hl => by
      obtain ⟨h2, h3⟩ := hr b off n cap hv hl
      rcases Nat.lt_or_ge b n0 with h4 | h4
      · exact absurd h3 (h0 b h4 r)
      · exact ⟨h2, h1 b r h4 h3⟩
    refine .sr _ _ _ (ih.2 l rfl hf fun b off n cap hv hl => ⟨_, (hb b off n cap hv hl).2⟩) fun b off n cap hv hl => ?_
    obtain ⟨h2, h3⟩ := hb b off n cap hv (fun he => hl (rnLL_flat he))
    exact ⟨h2, h3⟩
  | any v hv => exact ⟨fun hf => by simp [AV.fresh] at hf, fun l he => by cases he⟩
  | gs b n cap => exact ⟨fun hf => by simp [AV.fresh] at hf, fun l he => by cases he⟩

theorem Valid.regions {P : Program} {gl gl' : Gl} {f : FuncId} {args : List AV} {r : AV} (hp : GlPlain gl) (hg : gl'.g = gl.g) (φ : Nat → Nat) (hf : r.fresh = true) (h : Valid P gl f (AV.rgL none args) r) : Valid P gl' f args (r.rn φ) := by
  refine ⟨h.1, fun lim w cargs hgl0 hargs _ => ?_⟩
  have hgl : GlOk gl lim w.heap := fun q c hc => hgl0 q c (by rw [hg]; exact hc)
  let lim2 : Lim := fun _ => .all
  have hok : ∀ b o, lim.ok b o → lim2.ok b o := fun b o _ n hn => by cases hn
  refine (h.2 lim2 w cargs (hgl.weak hp hok) (hargs.weak hok) (fun b c hb => by cases hb)).mono fun e w' => ?_
  rintro ⟨v, r', sh', lim', rfl, hfr, hl, hrep, -, ⟨rfl, rfl⟩, -, -⟩
  let lim3 : Lim := fun b => if b < w.heap.size then lim b else match lim' b with | .reg q => .reg (φ q) | x => x
  refine ⟨v, _, [], lim3, rfl, hfr, fun b hb => if_pos hb, ?_, fun b c hb => (by cases hb), ⟨rfl, rfl⟩, fun _ h => h, fun b h => (by cases h)⟩
  refine (Rep.ren (n0 := w.heap.size) (lim' := lim3) (φ := φ) (fun b hb q => ?_) (fun b q hb hq => ?_) hrep).1 hf
  · rw [hl b hb]
    exact fun h => by cases h
  · simp only [lim3, if_neg (Nat.not_lt.2 hb), hq]
end Go.Pv
end

section
/- A row of a region of its own, of which one cell of each element has been changed. -/
namespace Go.Pv
open Go
def recol (c : Nat) (l : List (List AV)) (xs : List AV) : List (List AV) := List.zipWith (fun r x => r.set c x) l xs
theorem recol_len {c : Nat} {l : List (List AV)} {xs : List AV} (h : xs.length = l.length) : (recol c l xs).length = l.length := by simp [recol, h]
theorem recol_get {c : Nat} {l : List (List AV)} {xs : List AV} {i : Nat} {r : List AV} (h : (recol c l xs)[i]? = some r) : ∃ q x, l[i]? = some q ∧ xs[i]? = some x ∧ r = q.set c x := by
  unfold recol at h
  rw [List.getElem?_zipWith] at h
  cases hq : l[i]? with
  | none => rw [hq] at h; simp at h
  | some q =>
    cases hx : xs[i]? with
    | none => rw [hq, hx] at h; simp at h
    | some x => rw [hq, hx] at h; simp at h; exact ⟨q, x, rfl, rfl, h.symm⟩
theorem Rep.redo {lim : Lim} {h h' : Array Obj} {v : Value} {ρ e z c : Nat} {l : List (List AV)} {xs : List AV} (hr : Rep lim h v (.fr ρ e z l)) (hrow : ∀ x ∈ l, x.length = z) (hxs : xs.length = l.length)
    (hk : ∀ b q, CellsB h b → q ≠ ρ → lim b = .reg q → lim b = .reg q ∧ h'[b]? = h[b]?) (hlo : ∀ r ∈ l, ∀ (j : Nat) x, j ≠ c → r[j]? = some x → x.off ρ = true)
    (hb : ∀ b n cap cur, v = .slice (some ⟨b, 0, none⟩) n cap → lim b = .reg ρ → h[b]? = some (.cells cur e (0, 0)) → ∃ cur', h'[b]? = some (.cells cur' e (0, 0)) ∧ cur'.size = cur.size ∧
      ∀ i, i < l.length → (∃ u x, cur'[i * z + c]? = some u ∧ xs[i]? = some x ∧ Rep lim h' u x) ∧ ∀ j, j < z → j ≠ c → cur'[i * z + j]? = cur[i * z + j]?) :
    Rep lim h' v (.fr ρ e z (recol c l xs)) := by
  have hr0 := hr
  cases hr with
  | fr _ _ _ _ _ hx hR =>
    rcases hR with h0 | ⟨b, cap, cur, rfl, h2, h3, h4, h5, h6⟩
    · have hl : l = [] := List.length_eq_zero_iff.1 h0
      subst hl
      obtain ⟨p, q, rfl, -⟩ := hx.slice_form
      have he : recol c [] xs = [] := rfl
      rw [he]
      exact .fr _ _ _ _ _ (.slice0 p q) (.inl rfl)
    · obtain ⟨cur', k1, k2, k3⟩ := hb b l.length cap cur rfl h6 h2
      have hlen := recol_len (c := c) hxs
      have hsz : l.length * z ≤ cur'.size := by rw [k2, h5]; exact Nat.mul_le_mul_right z h3
      have hS := Rep.slice (lim := lim) (h := h') b 0 cap z (recol c l xs) (fun j => cur'[j]?.getD undef) (by rw [hlen]; exact h3)
        (fun i r hi => by obtain ⟨q, x, e1, -, rfl⟩ := recol_get hi; rw [List.length_set]; exact hrow q (List.mem_of_getElem? e1))
        (by
          rw [hlen]
          intro j hj
          refine ⟨Lim.reg_ok h6 _, ?_⟩
          unfold cellAt
          rw [k1, Nat.zero_add]
          simp [Array.getElem?_eq_getElem (show j < cur'.size by omega)])
        (fun i j r x hi hj => by
          obtain ⟨q, y, e1, e2, rfl⟩ := recol_get hi
          have hil := (List.getElem?_eq_some_iff.1 e1).1
          have hql := hrow q (List.mem_of_getElem? e1)
          obtain ⟨⟨u, y', m1, m2, m3⟩, m4⟩ := k3 i hil
          rw [List.getElem?_set] at hj
          split at hj
          · rename_i hcj
            subst hcj
            split at hj
            · injection hj with hj
              subst hj
              rw [e2] at m2
              injection m2 with m2
              subst m2
              simp only [m1, Option.getD_some]
              exact m3
            · cases hj
          · rename_i hcj
            have hjz : j < z := by rw [← hql]; exact (List.getElem?_eq_some_iff.1 hj).1
            obtain ⟨b2, cap2, n1, -, -, -, n2⟩ := hr0.kid hrow e1
            injection n1 with n1
            injection n1 with n1
            injection n1 with n1
            subst n1
            obtain ⟨u2, n3, n4⟩ := n2.2 j x hj
            unfold cellAt at n3
            rw [h2] at n3
            simp only at n3
            rw [m4 j hjz (fun hh => hcj hh.symm), n3]
            exact (Rep.off hk n4).1 (hlo q (List.mem_of_getElem? e1) j x (fun hh => hcj hh.symm) hj))
      rw [hlen] at hS
      refine .fr _ _ _ _ _ hS (.inr ⟨b, cap, cur', ?_, k1, by rw [hlen]; exact h3, h4, by rw [k2]; exact h5, h6⟩)
      rw [hlen]
def AS.redo (σ : AS) (ρ k0 j0 e z : Nat) (l : List (List AV)) (c0 : List AV) : AS :=
  { σ with tm := σ.tm.map fun p => (p.1, p.2.kill ρ), bx := (k0, (c0.map (AV.kill ρ)).set j0 (.fr ρ e z l)) :: σ.bx.map fun p => (p.1, p.2.map (AV.kill ρ)), tb := [], sh := σ.sh.map fun p => (p.1, p.2.map (AV.kill ρ)) }
theorem RR.glOff {cx : Cx} {gh : Gh} {σ : AS} {a : Act} {w w' : World} {gl : Gl} (r : RR cx gh σ a w) (htop : cx.gl.top = true) {ρ : Nat} (hρ : ρ ≠ 0) (hg : cx.gl = gl) (hsame : ∀ b, b < w.heap.size → gh.lim b ≠ .reg ρ → w'.heap[b]? = w.heap[b]?) : GlOk gl gh.lim w'.heap := by
  obtain ⟨ht1, ht2, ht3⟩ := r.ex.top htop
  have hs2 : ∀ b, b < w.heap.size → b < cx.B → w'.heap[b]? = w.heap[b]? := fun b hb hB => hsame b hb fun hl => by
    rw [r.limB b hB] at hl; exact hρ (ht3 b ρ hl)
  have hlt : ∀ {b : Nat} {o : Obj}, w.heap[b]? = some o → b < w.heap.size := fun h => (Array.getElem?_eq_some_iff.1 h).1
  refine fun g c h => (ht2 g c (by rw [hg]; exact h)).mono ⟨fun b o hc ho => ?_, fun b q hc hq => ?_⟩
  · obtain ⟨cs, e, z, hcb⟩ := hc
    have hbB : b < cx.B := Nat.lt_of_lt_of_le (Array.getElem?_eq_some_iff.1 hcb).1 ht1
    obtain ⟨⟨cs1, e1, z1, k1⟩, k2, k3⟩ := r.ex.keep.1 b o ⟨cs, e, z, hcb⟩ ho
    have hs := hs2 b (hlt k1) hbB
    refine ⟨⟨cs1, e1, z1, hs.trans k1⟩, k2, ?_⟩
    rw [← k3]; unfold cellAt; rw [hs]
  · obtain ⟨cs, e, z, hcb⟩ := hc
    have hbB : b < cx.B := Nat.lt_of_lt_of_le (Array.getElem?_eq_some_iff.1 hcb).1 ht1
    obtain ⟨k1, k2⟩ := r.ex.keep.2 b q ⟨cs, e, z, hcb⟩ hq
    have hs := hs2 b (hlt (k2.trans hcb)) hbB
    exact ⟨k1, hs.trans k2⟩
theorem AT_redo {P : Program} {gl : Gl} {c : Code} {σ : AS} {Q : Exit → AS → Prop} (ts bs : List Nat) (ρ k0 j0 cc : Nat) {e z : Nat} {l : List (List AV)} {c0 : List AV} (xs : List AV) (hkp : lpOk (pick bs σ.bx) (pick ts σ.tm) = true) (hr : gl.rnd = false) (htop : gl.top = true) (hy : gl.y = none)
    (hk0 : look k0 (σ.keep ts bs).bx = some c0) (hj0 : c0[j0]? = some (.fr ρ e z l)) (hrow : ∀ x ∈ l, x.length = z) (hxs : xs.length = l.length) (hlo : ∀ r ∈ l, ∀ (j : Nat) x, j ≠ cc → r[j]? = some x → x.off ρ = true) (hok : (σ.keep ts bs).killOk ρ = true) (hmk : σ.mks = 0) (hfx : σ.fx = [])
    (hQ : Q .normal ((σ.keep ts bs).redo ρ k0 j0 e z (recol cc l xs) c0))
    (h : ∀ (lim : Lim) (bl : Nat → Nat) (a : Act) (w : World), a.tmps.size = σ.n → (∀ (t : Nat) (x : AV) q, look t σ.tm = some (.v x q) → Rep lim w.heap (a.tmps.getD t undef) x) → (∀ (t k o : Nat), look t σ.tm = some (.lp k o) → a.tmps.getD t undef = .pointer (some ⟨bl k, o, none⟩)) →
      (∀ k cells, look k σ.bx = some cells → BoxAt lim w.heap (bl k) cells) → (∀ w2 : World, (∀ b, b < w.heap.size → lim b ≠ .reg ρ → w2.heap[b]? = w.heap[b]?) → GlOk gl lim w2.heap) →
      c.wp P (fun e2 a' w' => e2 = .normal ∧ (w'.os = w.os ∧ w'.tape = w.tape ∧ w'.output = w.output ∧ w.heap.size ≤ w'.heap.size) ∧ Oth w w' ∧ (∀ b, b < w.heap.size → lim b ≠ .reg ρ → w'.heap[b]? = w.heap[b]?) ∧
        (∀ b n cap cur, cellAt w.heap (bl k0) j0 = some (.slice (some ⟨b, 0, none⟩) n cap) → lim b = .reg ρ → w.heap[b]? = some (.cells cur e (0, 0)) → ∃ cur', w'.heap[b]? = some (.cells cur' e (0, 0)) ∧ cur'.size = cur.size ∧
          ∀ i, i < l.length → (∃ u x, cur'[i * z + cc]? = some u ∧ xs[i]? = some x ∧ Rep lim w'.heap u x) ∧ ∀ j, j < z → j ≠ cc → cur'[i * z + j]? = cur[i * z + j]?) ∧
        a'.tmps.size = a.tmps.size ∧ a'.defers = a.defers ∧ ∀ t, (look t ((σ.keep ts bs).tm.map fun p => (p.1, p.2.kill ρ))).isSome = true → a'.tmps.getD t undef = a.tmps.getD t undef) a w)
    (hρ : ρ ≠ 0) : AT P gl c σ Q := by
  refine AT_hand hr fun cx gh a w hP hg r => ?_
  refine Code.wp_mono (fun e2 a' w' => ?_) (h gh.lim gh.bl a w r.size (fun t x q ht => (r.tmps t _ ht).1.1) (fun t k o ht => (r.tmps t _ ht).1) (fun k cells hk => (r.boxes k cells hk).2) (fun w2 h2 => r.glOff (by rw [hg]; exact htop) hρ hg h2))
  rintro ⟨rfl, ⟨h1, h2, h3, h4⟩, hoth, hsame, hnew, hs, hd, ht⟩
  have r1 := r.weak (AS.keep_le hkp)
  have htop' : cx.gl.top = true := by rw [hg]; exact htop
  obtain ⟨ht1, ht2, ht3⟩ := r.ex.top htop'
  have hsm : ∀ b, b < w.heap.size → ¬ (cx.B ≤ b ∧ gh.lim b = .reg ρ) → w'.heap[b]? = w.heap[b]? := fun b hb hn => hsame b hb fun hl => by
    rcases Nat.lt_or_ge b cx.B with hB | hB
    · rw [r.limB b hB] at hl; exact hρ (ht3 b ρ hl)
    · exact hn ⟨hB, hl⟩
  have hkk : ∀ b q, CellsB w.heap b → q ≠ ρ → gh.lim b = .reg q → gh.lim b = .reg q ∧ w'.heap[b]? = w.heap[b]? := fun b q ⟨cs, e1, g1, hcb⟩ hq hb =>
    ⟨hb, hsame b (Array.getElem?_eq_some_iff.1 hcb).1 (fun hl => hq (by rw [hb] at hl; injection hl))⟩
  refine ⟨_, hQ, gh, (r1.redo htop' (by rw [hg]; exact hy) ρ k0 j0 hk0 (List.getElem?_eq_some_iff.1 hj0).1 hok hmk h1 h2 h3 h4 hoth hsm (fun v hv => ?_)).act hs hd hfx ht⟩
  obtain ⟨-, -, cs, e1, hcs, hrep⟩ := r1.boxes k0 c0 hk0
  obtain ⟨v', e2, e3⟩ := hrep.get hj0
  have hvv : v' = v := by
    unfold cellAt at hv
    rw [hcs] at hv
    simp only at hv
    have e4 : cs[j0]? = some v' := by simpa using e2
    rw [e4] at hv
    exact Option.some.inj hv
  subst hvv
  exact e3.redo hrow hxs hkk hlo fun b n cap cur hvb hlb hcur => hnew b n cap cur (by rw [← hvb]; exact hv) hlb hcur
end Go.Pv
end

section
/- One cell of a row of a region of its own is changed. -/
namespace Go.Pv
open Go
structure St1 (w w' : World) (b o : Nat) (u : Value) : Prop where
  os : w'.os = w.os
  tape : w'.tape = w.tape
  output : w'.output = w.output
  size : w.heap.size ≤ w'.heap.size
  rest : ∀ k, k < w.heap.size → k ≠ b → w'.heap[k]? = w.heap[k]?
  row : ∀ cur e g, w.heap[b]? = some (.cells cur e g) → w'.heap[b]? = some (.cells (cur.setIfInBounds o u) e g)
theorem St1.of_set {w w1 w' : World} {b o : Nat} {u : Value} (h : Frm w.heap.size (fun _ => False) w w1) (hb : b < w.heap.size) (h1 : w'.heap = (w1.setCell ⟨b, o, none⟩ u).heap) (h2 : w'.os = w1.os) (h3 : w'.tape = w1.tape) (h4 : w'.output = w1.output) : St1 w w' b o u := by
  refine ⟨h2.trans h.os, h3.trans h.tape, h4.trans h.output, ?_, fun k hk hne => ?_, fun cur e g hc => ?_⟩
  · rw [h1]; simp only [World.setCell, Array.size_modify]; exact h.size
  · rw [h1, ← h.block k hk id]; simp only [World.setCell]
    rw [Array.getElem?_modify, if_neg (Ne.symm hne)]
  · rw [h1]
    have h5 := h.block b hb id
    rw [hc] at h5
    simp only [World.setCell]
    rw [Array.getElem?_modify, if_pos rfl, h5]
    simp
theorem pick_mem {α : Type} (l : List (Nat × α)) (k : Nat) : ∀ ks, (look k (pick ks l)).isSome = true → k ∈ ks
  | [], h => by cases h
  | j :: r, h => by
    unfold pick at h
    split at h
    · simp only [look] at h
      split at h
      · rename_i hh; subst hh; simp
      · exact List.mem_cons_of_mem _ (pick_mem l k r h)
    · exact List.mem_cons_of_mem _ (pick_mem l k r h)
theorem AT_redo1 {P : Program} {gl : Gl} {c : Code} {σ : AS} {Q : Exit → AS → Prop} (ts bs : List Nat) (ρ k0 j0 cc k : Nat) {e z : Nat} {l : List (List AV)} {c0 : List AV} (xs : List AV) (x : AV) (hkp : lpOk (pick bs σ.bx) (pick ts σ.tm) = true) (hr : gl.rnd = false) (htop : gl.top = true) (hy : gl.y = none)
    (hk0 : look k0 (σ.keep ts bs).bx = some c0) (hj0 : c0[j0]? = some (.fr ρ e z l)) (hcz : cc < z) (hk : k < l.length) (hrow : ∀ x ∈ l, x.length = z) (hxs : xs.length = l.length) (hxk : xs[k]? = some x) (hxo : ∀ (i : Nat) r, i ≠ k → l[i]? = some r → xs[i]? = r[cc]?)
    (hlo : ∀ r ∈ l, AV.offL ρ r = true) (hok : (σ.keep ts bs).killOk ρ = true) (hmk : σ.mks = 0) (hfx : σ.fx = [])
    (hQ : Q .normal ((σ.keep ts bs).redo ρ k0 j0 e z (recol cc l xs) c0))
    (h : ∀ (lim : Lim) (bl : Nat → Nat) (a : Act) (w : World) (b cap : Nat) (cur : Array Value), a.tmps.size = σ.n → (∀ (t : Nat) (x : AV) q, look t σ.tm = some (.v x q) → Rep lim w.heap (a.tmps.getD t undef) x) → (∀ (t k o : Nat), look t σ.tm = some (.lp k o) → a.tmps.getD t undef = .pointer (some ⟨bl k, o, none⟩)) →
      (∀ k cells, look k σ.bx = some cells → BoxAt lim w.heap (bl k) cells) → GlOk gl lim w.heap → cellAt w.heap (bl k0) j0 = some (.slice (some ⟨b, 0, none⟩) l.length cap) → w.heap[b]? = some (.cells cur e (0, 0)) → cur.size = cap * z → l.length ≤ cap → cap ≤ maxLen → lim b = .reg ρ → b ≠ bl k0 →
      c.wp P (fun e2 a' w' => e2 = .normal ∧ (∃ u, St1 w w' b (k * z + cc) u ∧ Rep lim w'.heap u x) ∧
        a'.tmps.size = a.tmps.size ∧ a'.defers = a.defers ∧ ∀ t ∈ ts, a'.tmps.getD t undef = a.tmps.getD t undef) a w)
    (hρ : ρ ≠ 0) : AT P gl c σ Q := by
  have hlo2 : ∀ r ∈ l, ∀ (j : Nat) x, r[j]? = some x → x.off ρ = true := fun r hr j x hx => by
    have := hlo r hr
    rw [offL_all, List.all_eq_true] at this
    exact this x (List.mem_of_getElem? hx)
  refine AT_redo ts bs ρ k0 j0 cc xs hkp hr htop hy hk0 hj0 hrow hxs (fun r hr j x _ hx => hlo2 r hr j x hx) hok hmk hfx hQ (fun lim bl a w hsz ht hlp hbx hgl => ?_) hρ
  have hk1 : look k0 σ.bx = some c0 := by
    have := (AS.keep_le hkp).bx k0 c0 hk0
    exact this
  obtain ⟨hlb, cs, ee, hcs, hrep⟩ := hbx k0 c0 hk1
  obtain ⟨v, hv, hrv⟩ := hrep.get hj0
  have hcell : cellAt w.heap (bl k0) j0 = some v := by
    unfold cellAt
    rw [hcs]
    simpa using hv
  have hR := hrv
  cases hrv with
  | fr _ _ _ _ _ hx hrr =>
  rcases hrr with h0 | ⟨b, cap, cur, rfl, h2, h3, h4, h5, h6⟩
  · omega
  have hbne : b ≠ bl k0 := fun hh => by rw [hh, hlb] at h6; cases h6
  refine Code.wp_mono (fun e2 a' w' => ?_) (h lim bl a w b cap cur hsz ht hlp hbx (hgl w (fun _ _ _ => rfl)) hcell h2 h5 h3 h4 h6 hbne)
  rintro ⟨rfl, ⟨u, hst, hu⟩, hs, hd, htt⟩
  have hbs : b < w.heap.size := (Array.getElem?_eq_some_iff.1 h2).1
  have hsame : ∀ b', b' < w.heap.size → lim b' ≠ .reg ρ → w'.heap[b']? = w.heap[b']? := fun b' hb' hne => hst.rest b' hb' fun hh => hne (by rw [hh]; exact h6)
  have hkk : ∀ b' q, CellsB w.heap b' → q ≠ ρ → lim b' = .reg q → lim b' = .reg q ∧ w'.heap[b']? = w.heap[b']? := fun b' q ⟨cs, e1, g1, hcb⟩ hq hb => ⟨hb, hsame b' (Array.getElem?_eq_some_iff.1 hcb).1 fun hl => hq (by rw [hb] at hl; injection hl)⟩
  refine ⟨rfl, ⟨hst.os, hst.tape, hst.output, hst.size⟩, fun k' o hk' ho => ?_, hsame, fun b' n' cap' cur' hc' hl' hcur' => ?_, hs, hd, fun t ht => htt t (pick_mem σ.tm t ts (by rw [look_map] at ht; simpa using ht))⟩
  · have hne : k' ≠ b := fun hh => by
      subst hh
      rw [h2] at hk'
      cases hk'
      cases ho
    rw [hst.rest k' (Array.getElem?_eq_some_iff.1 hk').1 hne]
    exact hk'
  · rw [hcell] at hc'
    injection hc' with hc'
    injection hc' with hc1 hc2 hc3
    injection hc1 with hc1
    injection hc1 with hc1
    subst hc1
    rw [h2] at hcur'
    injection hcur' with hcur'
    injection hcur' with hcur'
    subst hcur'
    refine ⟨_, hst.row cur e (0, 0) h2, by simp, fun i hi => ?_⟩
    have hmul : i * z + z ≤ l.length * z := by
      have : (i + 1) * z ≤ l.length * z := Nat.mul_le_mul_right z (by omega)
      rw [Nat.add_mul, Nat.one_mul] at this
      exact this
    have hsz2 : l.length * z ≤ cur.size := by rw [h5]; exact Nat.mul_le_mul_right z h3
    have hne : ∀ j, j < z → (i, j) ≠ (k, cc) → k * z + cc ≠ i * z + j := fun j hj hij he => by
      apply hij
      have e1 : (k * z + cc) / z = k := by rw [Nat.mul_comm, Nat.mul_add_div (by omega), Nat.div_eq_of_lt hcz, Nat.add_zero]
      have e2 : (i * z + j) / z = i := by rw [Nat.mul_comm, Nat.mul_add_div (by omega), Nat.div_eq_of_lt hj, Nat.add_zero]
      rw [he, e2] at e1
      subst e1
      have : cc = j := by omega
      rw [this]
    refine ⟨?_, fun j hj hjc => ?_⟩
    · by_cases hik : i = k
      · subst hik
        refine ⟨u, x, ?_, hxk, hu⟩
        rw [Array.getElem?_setIfInBounds, if_pos rfl, if_pos (by omega)]
      · obtain ⟨r, hr1⟩ : ∃ r, l[i]? = some r := ⟨l[i], List.getElem?_eq_getElem hi⟩
        have hrl := hrow r (List.mem_of_getElem? hr1)
        obtain ⟨y, hy1⟩ : ∃ y, r[cc]? = some y := ⟨r[cc]'(by omega), List.getElem?_eq_getElem (by omega)⟩
        obtain ⟨b2, cap2, n1, -, -, -, n2⟩ := hR.kid hrow hr1
        injection n1 with n1
        injection n1 with n1
        injection n1 with n1
        subst n1
        obtain ⟨u2, n3, n4⟩ := n2.2 cc y hy1
        unfold cellAt at n3
        rw [h2] at n3
        simp only at n3
        refine ⟨u2, y, ?_, by rw [hxo i r hik hr1]; exact hy1, (Rep.off hkk n4).1 (hlo2 r (List.mem_of_getElem? hr1) cc y hy1)⟩
        rw [Array.getElem?_setIfInBounds, if_neg (hne cc hcz fun hh => hik (congrArg Prod.fst hh))]
        exact n3
    · rw [Array.getElem?_setIfInBounds, if_neg (hne j hj fun hh => hjc (congrArg Prod.snd hh))]
end Go.Pv
end
