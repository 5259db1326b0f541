import Derived.Test.YtocmdbojefgpbaaGreatDoorPvC
set_option linter.all false
section
/- Appending in place; boxes that are frozen or handed out; forgetting. -/
namespace Go.Pv
open Go

theorem run_append_pv {P : Program} (w : World) (base : Nat) (t ty e : TypeId) (i : TypeInfo) (z : Value) (ht : P.underlying t = some (.slice e)) (hi : P.info? e = some i) (hz : i.zero = some z)
    (hzs : z.cells.size = i.size) (v : Value) (n : Nat) (xs : List Value) (hown : w.ownsRow base e i.size v n xs)
    (p : Option Addr) (m c : Nat) (news : List Value) (hl : news.length = m * i.size) (hp : p = none → m = 0) (hnews : ∀ a, p = some a → ∀ j u, news[j]? = some u → w.cell? (a.add j) = some u) (h1 : ∀ u ∈ news, u.oneCell' = true)
    (hbytes : (n + m) * i.bytes ≤ 140737488355328) (hlen63 : n + m ≤ maxLen) (hbase : base ≤ w.heap.size) :
    ∃ v' w', (Builtin.append_ #[t, t] ty #[v, .slice p m c]).run P w = .ok v' w' ∧ w'.ownsRow base e i.size v' (n + m) (xs ++ news) ∧
      Frm w.heap.size (fun b => v.ownBlock = some b) w w' ∧ (∀ b, v'.ownBlock = some b → v.ownBlock = some b ∨ w.heap.size ≤ b) ∧
      (∀ b o u, v.ownBlock = some b → o < n * i.size → cellAt w.heap b o = some u → cellAt w'.heap b o = some u) := by
  have hsmall : n + m ≤ 9223372036854775807 := by simp only [maxLen] at hlen63; omega
  have hlen : (xs ++ news).length = (n + m) * i.size := by rw [List.length_append, hown.1, hl, Nat.add_mul]
  cases p with
  | none =>
    have hm := hp rfl
    subst hm
    have hn : news = [] := List.eq_nil_of_length_eq_zero (by simpa using hl)
    subst hn
    have hrun : (Builtin.append_ #[t, t] ty #[v, .slice none 0 c]).run P w = .ok v w := by
      rcases hown.2 with ⟨rfl, rfl⟩ | ⟨g, cap, cur, rfl, _, _, hnc, _⟩
      · simp [Builtin.append_, run_underlying ht, sizeOf, typeInfo, hi, Builtin.lenOf, Builtin.firstCells]
      · simp [Builtin.append_, run_underlying ht, sizeOf, typeInfo, hi, Builtin.lenOf, Builtin.firstCells, hnc, storeCells]
    exact ⟨v, w, hrun, by simpa using hown, Frm.refl _ _ _, fun b hb => .inl hb, fun b o u _ _ h => h⟩
  | some a =>
    have hnews := hnews a rfl
    have grown : ∀ (old : Nat),
        (w.drew.alloc (.cells (xs.toArray ++ news.toArray ++ Builtin.zeroCells z.cells (grownCap w (n + m) old e - (n + m))) e)).ownsRow base e i.size
          (.slice (some ⟨w.heap.size, 0, none⟩) (n + m) (grownCap w (n + m) old e)) (n + m) (xs ++ news) := by
      intro old
      have hge := grownCap_ge w (n + m) old e
      have hcm : grownCap w (n + m) old e ≤ maxLen := grownCap_le_maxLen w (n + m) old e hlen63
      refine ⟨hlen, .inr ⟨w.heap.size, _, _, rfl, hbase, heap_alloc_new w.drew _, hge, hcm, ?_, ?_⟩⟩
      · simp only [Array.size_append, List.size_toArray, size_zeroCells, hzs, hown.1, hl, ← Nat.add_mul]
        congr 1
        omega
      · simp only [Array.toList_append, List.append_assoc]
        rw [← List.append_assoc, ← hlen]
        exact List.take_left
    have hfrm : ∀ o : Obj, Frm w.heap.size (fun b => v.ownBlock = some b) w (w.drew.alloc o) := fun o => ⟨rfl, rfl, rfl, by simp, fun k hk _ => heap_alloc_old w.drew o hk⟩
    have hold : ∀ (o : Obj) b o' u, cellAt w.heap b o' = some u → cellAt (w.drew.alloc o).heap b o' = some u := fun o b o' u h => by
      have hb := cellAt_lt h
      unfold cellAt at h ⊢
      rw [heap_alloc_old w.drew o hb]; exact h
    rcases hown.2 with ⟨rfl, rfl⟩ | ⟨g, cap, cur, rfl, hbg, hg, hnc, hcm, hcs, htake⟩
    · have hx : xs = [] := List.eq_nil_of_length_eq_zero (by simpa using hown.1)
      subst hx
      by_cases hm : m = 0
      · subst hm
        have hn : news = [] := List.eq_nil_of_length_eq_zero (by simpa using hl)
        subst hn
        refine ⟨.slice none 0 0, w, ?_, World.ownsRow_nil w base e i.size, Frm.refl _ _ _, fun b hb => .inl hb, fun b o u _ _ h => h⟩
        simp [Builtin.append_, run_underlying ht, sizeOf, typeInfo, hi, Builtin.lenOf, Builtin.firstCells, loadCells, loadCellsFrom]
      · have hr := run_append_nil (P := P) w t ty e i z ht hi hz a m c news hl hnews (by omega) (by omega) (by have hb := hbytes; simp only [Nat.zero_add] at hb; omega)
        have hgr := grown 0
        simp only [Nat.zero_add, List.nil_append, Array.empty_append] at hgr ⊢
        exact ⟨_, _, hr, hgr, hfrm _, fun b hb => .inr (by simp [Value.ownBlock] at hb; omega), fun b o u _ _ h => hold _ b o u h⟩
    · by_cases hroom : n + m ≤ cap
      · have hfit : n * i.size + news.length ≤ cur.size := by rw [hl, hcs, ← Nat.add_mul]; exact Nat.mul_le_mul_right _ hroom
        have hr := run_append_room (P := P) w t ty e i ht hi g n cap cur hg a m c news hl hnews h1 hroom hfit
        refine ⟨_, _, hr, ⟨hlen, .inr ⟨g, cap, _, rfl, hbg, setRow_heap w g cur _ e _ hg, hroom, hcm, ?_, ?_⟩⟩, ⟨rfl, rfl, rfl, by simp, fun k _ hk => setRow_other w g k _ (fun e => hk (by simp [Value.ownBlock, e]))⟩, fun b hb => .inl hb, ?_⟩
        · simp only [List.size_toArray, List.length_append, List.length_take, List.length_drop, Array.length_toList]
          omega
        · rw [htake, ← hlen]
          exact List.take_left
        · intro b o u hb ho h
          simp [Value.ownBlock] at hb
          subst hb
          unfold cellAt at h ⊢
          rw [hg] at h
          rw [setRow_heap w g cur _ e _ hg]
          simp only [] at h ⊢
          have hoc : o < cur.size := (Array.getElem?_eq_some_iff.1 h).1
          rw [List.getElem?_toArray, List.append_assoc, List.getElem?_append_left (by simp; omega), List.getElem?_take, if_pos ho]
          simpa using h
      · have holds : ∀ j u, xs[j]? = some u → w.cell? ((⟨g, 0, none⟩ : Addr).add j) = some u := hown.cells (g := g) rfl
        have hr := run_append_grow (P := P) w t ty e i z ht hi hz ⟨g, 0, none⟩ n cap xs hown.1 holds a m c news hl hnews (by omega) (by omega) (growslice_fits (by omega) hbytes)
        exact ⟨_, _, hr, grown cap, hfrm _, fun b hb => .inr (by simp [Value.ownBlock] at hb; omega), fun b o u _ _ h => hold _ b o u h⟩

def TV.untag (g : Nat) : TV → TV
  | .v x (some p) => if p.1 = g then .v x none else .v x (some p)
  | y => y
def AS.purge (σ : AS) (g : Nat) : AS := { σ with tm := σ.tm.map fun p => (p.1, p.2.untag g), tb := σ.tb.filter fun q => !(q.2.2.1 == g) }

theorem look_map {α β : Type} (f : α → β) (k : Nat) : ∀ l : List (Nat × α), look k (l.map fun p => (p.1, f p.2)) = (look k l).map f
  | [] => rfl
  | (j, x) :: r => by
    simp only [List.map_cons, look]
    split
    · rfl
    · exact look_map f k r

theorem AS.uses_purge {σ : AS} {g g' e : Nat} (h : (σ.purge g).uses g' e) : σ.uses g' e ∧ g' ≠ g := by
  rcases h with ⟨t, x, h⟩ | ⟨k, j, h⟩
  · simp only [AS.purge, look_map] at h
    cases h1 : look t σ.tm with
    | none => rw [h1] at h; cases h
    | some y =>
      rw [h1] at h
      simp only [Option.map_some, Option.some.injEq] at h
      cases y with
      | un => cases h
      | bld l ns => cases h
      | lp k o => cases h
      | it k9 => cases h
      | cl f ks => cases h
      | v y q =>
        cases q with
        | none => cases h
        | some q =>
          simp only [TV.untag] at h
          split at h
          · cases h
          · rename_i hne
            simp only [TV.v.injEq, Option.some.injEq] at h
            obtain ⟨rfl, rfl⟩ := h
            exact ⟨.inl ⟨t, _, h1⟩, hne⟩
  · simp only [AS.purge] at h
    obtain ⟨h1, h2⟩ := List.mem_filter.1 h
    exact ⟨.inr ⟨k, j, h1⟩, by simpa using h2⟩

theorem purge_it {σ : AS} {g t : Nat} {q : ItK} (h : look t (σ.purge g).tm = some (.it q)) : look t σ.tm = some (.it q) := by
  simp only [AS.purge, look_map] at h
  cases h1 : look t σ.tm with
  | none => rw [h1] at h; cases h
  | some y =>
    rw [h1] at h
    simp only [Option.map_some, Option.some.injEq] at h
    rw [← h]
    cases y with
    | v y q =>
      cases q with
      | none => rfl
      | some q => simp only [TV.untag] at h; split at h <;> cases h
    | un => rfl
    | bld l ns => rfl
    | lp k o => rfl
    | it k9 => rfl
    | cl f ks => rfl

theorem RR.purge {cx : Cx} {gh : Gh} {σ : AS} {a : Act} {w : World} (r : RR cx gh σ a w) (g : Nat) : RR cx gh (σ.purge g) a w := by
  refine { frm := r.frm, base := r.base, limB := r.limB, size := r.size, ex := r.ex.sub (fun _ _ h => purge_it h) rfl rfl, gl := r.gl, tmps := ?_, boxes := r.boxes, inj := r.inj, shs := r.shs, apart := r.apart, tbs := fun k j g' e h => r.tbs k j g' e (List.mem_filter.1 h).1, own := fun g' e h => r.own g' e (AS.uses_purge h).1, alone := fun g1 e1 g2 e2 h h' => r.alone g1 e1 g2 e2 (AS.uses_purge h).1 (AS.uses_purge h').1 }
  intro t x h
  simp only [AS.purge, look_map] at h
  cases h1 : look t σ.tm with
  | none => rw [h1] at h; cases h
  | some y =>
    rw [h1] at h
    simp only [Option.map_some, Option.some.injEq] at h
    have h2 := r.tmps t y h1
    subst h
    cases y with
    | un => exact ⟨trivial, by simp [TV.untag]⟩
    | bld l ns => exact ⟨h2.1, by simp [TV.untag]⟩
    | lp k o => exact h2
    | it k9 => exact ⟨trivial, by simp [TV.untag]⟩
    | cl f ks => exact ⟨h2.1, by simp [TV.untag]⟩
    | v y q =>
      cases q with
      | none => exact ⟨h2.1, by simp [TV.untag]⟩
      | some q =>
        simp only [TV.untag]
        split
        · exact ⟨⟨h2.1.1, by simp⟩, by simp⟩
        · exact ⟨h2.1, by simp⟩

theorem RR.uses_lt {cx : Cx} {gh : Gh} {σ : AS} {a : Act} {w : World} (r : RR cx gh σ a w) {g e : Nat} (h : σ.uses g e) {b : Nat} (hb : (gh.gv g).ownBlock = some b) : b < w.heap.size := (r.lt_own h hb).1

theorem RR.append {cx : Cx} {gh : Gh} {σ : AS} {a : Act} {w w' : World} (r : RR cx gh σ a w) (hy : cx.gl.y = none) (g e : Nat) (hu : σ.uses g e) (v' : Value) (m : Nat) (xs' : List Value)
    (_hown : w'.ownsRow cx.B e (esz cx.P e) v' m xs') (hf : Frm w.heap.size (fun b => (gh.gv g).ownBlock = some b) w w') (hb : ∀ b, v'.ownBlock = some b → (gh.gv g).ownBlock = some b ∨ w.heap.size ≤ b)
    (hk : ∀ n xs, w.ownsRow cx.B e (esz cx.P e) (gh.gv g) n xs → n ≤ m ∧ ∀ b o u, (gh.gv g).ownBlock = some b → o < n * esz cx.P e → cellAt w.heap b o = some u → cellAt w'.heap b o = some u) :
    ∃ gh', RR cx gh' (σ.purge g) a w' ∧ gh'.gv g = v' ∧ Keep gh.lim w.heap gh'.lim w'.heap ∧ (∀ b, v'.ownBlock = some b → gh'.lim b = .upto (m * esz cx.P e)) ∧
      (∀ b, v'.ownBlock = some b → (∀ k, (look k σ.bx).isSome = true → gh'.bl k ≠ b) ∧ look b σ.sh = none) ∧
      (∀ g' e', (σ.purge g).uses g' e' → ∀ b, v'.ownBlock = some b → (gh'.gv g').ownBlock ≠ some b) := by
  obtain ⟨⟨n, xs, ho1, ho2⟩, ho3⟩ := r.own g e hu
  obtain ⟨hnm, hcell⟩ := hk n xs ho1
  let lim' : Lim := fun b => if v'.ownBlock = some b then .upto (m * esz cx.P e) else gh.lim b
  have hlim_old : ∀ b, v'.ownBlock ≠ some b → lim' b = gh.lim b := fun b h => by simp [lim', h]
  have hkeep : Keep gh.lim w.heap lim' w'.heap := by
    refine ⟨?_, fun b r ⟨cs0, e0, z0, hcb⟩ hr => by
      by_cases hv : v'.ownBlock = some b
      · rcases hb b hv with h | h
        · rw [ho2 b h] at hr; cases hr
        · have := (Array.getElem?_eq_some_iff.1 hcb).1; omega
      · refine ⟨(hlim_old b hv).trans hr, hf.block b (Array.getElem?_eq_some_iff.1 hcb).1 (fun h => ?_)⟩
        rw [ho2 b h] at hr; cases hr⟩
    rintro b o ⟨cs0, e0, z0, hcb⟩ hok
    have hbl := (Array.getElem?_eq_some_iff.1 hcb).1
    by_cases hbo : (gh.gv g).ownBlock = some b
    · have hlb := ho2 b hbo
      have ho : o < n * esz cx.P e := hok _ hlb
      obtain ⟨u, hc⟩ : ∃ u, cellAt w.heap b o = some u := by
        rcases ho1.2 with ⟨hn, -⟩ | ⟨g', cap, cur, hv, -, hg', hncap, -, hcsz, -⟩
        · rw [hn] at hbo; cases hbo
        · rw [hv] at hbo
          simp only [Value.ownBlock, Option.some.injEq] at hbo
          subst hbo
          have hlt : o < cur.size := by rw [hcsz]; exact Nat.lt_of_lt_of_le ho (Nat.mul_le_mul_right _ hncap)
          exact ⟨cur[o], by unfold cellAt; rw [hg']; simp [hlt]⟩
      have hcc := hcell b o u hbo ho hc
      refine ⟨cellAt_B hcc, ?_, hcc.trans hc.symm⟩
      by_cases hv : v'.ownBlock = some b
      · intro q hq
        simp only [lim', hv, if_true, LV.upto.injEq] at hq
        subst hq
        exact Nat.lt_of_lt_of_le ho (Nat.mul_le_mul_right _ hnm)
      · rw [show Lim.ok lim' b o = Lim.ok gh.lim b o by unfold Lim.ok; rw [hlim_old b hv]]; exact hok
    · have hv : v'.ownBlock ≠ some b := fun he => by
        rcases hb b he with h | h
        · exact hbo h
        · omega
      refine ⟨⟨cs0, e0, z0, (hf.block b hbl hbo).trans hcb⟩, by rw [show Lim.ok lim' b o = Lim.ok gh.lim b o by unfold Lim.ok; rw [hlim_old b hv]]; exact hok, ?_⟩
      unfold cellAt
      rw [hf.block b hbl hbo]
  have hpart : ∀ b, b < w.heap.size → (gh.gv g).ownBlock ≠ some b → v'.ownBlock ≠ some b := fun b hlt hne he => by
    rcases hb b he with h | h
    · exact hne h
    · omega
  have hsame : ∀ b, b < w.heap.size → (gh.gv g).ownBlock ≠ some b → w'.heap[b]? = w.heap[b]? := fun b hlt hne => hf.block b hlt hne
  have rp := r.purge g
  have hoth : Oth w w' := Oth.of_cells hf fun b hb => by
    rcases ho1.2 with ⟨hn, -⟩ | ⟨g', cap, cur, hv, -, hg', -⟩
    · rw [hn] at hb; cases hb
    · rw [hv] at hb
      simp only [Value.ownBlock, Option.some.injEq] at hb
      subst hb
      exact ⟨_, _, _, hg'⟩
  have hnB : ∀ b, (gh.gv g).ownBlock = some b → cx.B ≤ b := fun b h => (r.lt_own hu h).2
  have hother : ∀ g' e', (σ.purge g).uses g' e' → ∀ b, (gh.gv g').ownBlock = some b → (gh.gv g).ownBlock ≠ some b := fun g' e' h b hb' =>
    r.alone g' e' g e (AS.uses_purge h).1 hu (AS.uses_purge h).2 b hb'
  refine ⟨{ lim := lim', bl := gh.bl, gv := upd gh.gv g v' }, ?_, by simp, hkeep, fun b h => by simp [lim', h], ?_, ?_⟩
  · refine { frm := r.frm.trans (hf.mono r.base (fun k hk h => absurd (hnB k h) (by omega))), base := Nat.le_trans r.base hf.size, limB := ?_, size := r.size, ex := (r.ex.step hkeep hoth (.inl hy)).sub (fun _ _ h => purge_it h) rfl rfl, gl := fun q c h => (r.gl q c h).mono hkeep, tmps := ?_, boxes := ?_, inj := r.inj, shs := ?_, apart := r.apart, tbs := ?_, own := ?_, alone := ?_ }
    · intro b hbB
      have hlt := Nat.lt_of_lt_of_le hbB r.base
      exact (hlim_old b (hpart b hlt (fun h => absurd (hnB b h) (by omega)))).trans (r.limB b hbB)
    · intro t x h
      have h1 := rp.tmps t x h
      refine ⟨?_, h1.2⟩
      cases x with
      | un => trivial
      | bld l ns => exact ⟨h1.1.1.mono hkeep, h1.1.2⟩
      | lp k o => exact h1.1
      | it k9 => trivial
      | cl f ks => exact h1.1
      | v y q =>
        refine ⟨h1.1.1.mono hkeep, fun p hp => ?_⟩
        subst hp
        have hne := (AS.uses_purge (σ := σ) (g := g) (g' := p.1) (e := p.2) (.inl ⟨t, y, h⟩)).2
        rw [h1.1.2 p rfl]
        exact (upd_ne gh.gv v' hne).symm
    · intro k cells h
      obtain ⟨h1, h2, cs, e', h3, h4⟩ := r.boxes k cells h
      have hlt := (Array.getElem?_eq_some_iff.1 h3).1
      have hne : (gh.gv g).ownBlock ≠ some (gh.bl k) := fun he => (ho3 _ he).1 k (by simp [show look k σ.bx = some cells from h]) rfl
      exact ⟨h1, (hlim_old _ (hpart _ hlt hne)).trans h2, cs, e', (hsame _ hlt hne).trans h3, h4.mono hkeep⟩
    · intro b cells h
      obtain ⟨h1, h2, cs, e', h3, h4⟩ := r.shs b cells h
      have hlt := (Array.getElem?_eq_some_iff.1 h3).1
      have hne : (gh.gv g).ownBlock ≠ some b := fun he => by have := (ho3 _ he).2; rw [show look b σ.sh = some cells from h] at this; cases this
      exact ⟨h1, (hlim_old _ (hpart _ hlt hne)).trans h2, cs, e', (hsame _ hlt hne).trans h3, h4.mono hkeep⟩
    · intro k j g' e' h
      have h0 := rp.tbs k j g' e' h
      have hne := (AS.uses_purge (σ := σ) (g := g) (g' := g') (e := e') (.inr ⟨k, j, h⟩)).2
      refine ⟨h0.1, ?_⟩
      have hlt := r.lt_box h0.1
      have hneb : (gh.gv g).ownBlock ≠ some (gh.bl k) := fun he => (ho3 _ he).1 k h0.1 rfl
      dsimp only
      rw [upd_ne gh.gv v' hne]
      have := h0.2
      unfold cellAt at this ⊢
      rw [hsame _ hlt hneb]; exact this
    · intro g' e' h
      obtain ⟨hu', hne⟩ := AS.uses_purge h
      dsimp only
      rw [upd_ne gh.gv v' hne]
      obtain ⟨⟨n', xs', h1, h2⟩, h3⟩ := r.own g' e' hu'
      refine ⟨⟨n', xs', ⟨h1.1, ?_⟩, fun b hb' => ?_⟩, h3⟩
      · rcases h1.2 with hn | ⟨g'', cap, cur, hv, hbg, hg', rest⟩
        · exact .inl hn
        · exact .inr ⟨g'', cap, cur, hv, hbg, by rw [hsame g'' (Array.getElem?_eq_some_iff.1 hg').1 (hother g' e' h g'' (by rw [hv]; rfl))]; exact hg', rest⟩
      · exact (hlim_old b (hpart b (h1.lt b hb').2 (hother g' e' h b hb'))).trans (h2 b hb')
    · intro g1 e1 g2 e2 h h' hne b hb'
      dsimp only at hb' ⊢
      rw [upd_ne gh.gv v' (AS.uses_purge h).2] at hb'
      rw [upd_ne gh.gv v' (AS.uses_purge h').2]
      exact r.alone g1 e1 g2 e2 (AS.uses_purge h).1 (AS.uses_purge h').1 hne b hb'
  · intro b h
    rcases hb b h with h | h
    · exact ho3 b h
    · refine ⟨fun k hk => ?_, ?_⟩
      · have := r.lt_box hk
        dsimp only
        omega
      · cases hs : look b σ.sh with
        | none => rfl
        | some c => have := r.lt_sh (b := b) (by simp [hs]); omega
  · intro g' e' h b hb'
    dsimp only
    rw [upd_ne gh.gv v' (AS.uses_purge h).2]
    intro he
    rcases hb b hb' with h1 | h1
    · exact hother g' e' h b he h1
    · have := r.uses_lt (AS.uses_purge h).1 he
      omega

structure OwnOk (cx : Cx) (gh : Gh) (σ : AS) (w : World) (g e : Nat) (V : Value) : Prop where
  own : ∃ m xs, w.ownsRow cx.B e (esz cx.P e) V m xs ∧ ∀ b, V.ownBlock = some b → gh.lim b = .upto (m * esz cx.P e)
  apart : ∀ b, V.ownBlock = some b → (∀ k, (look k σ.bx).isSome = true → gh.bl k ≠ b) ∧ look b σ.sh = none
  alone : ∀ g' e', σ.uses g' e' → g' ≠ g → ∀ b, V.ownBlock = some b → (gh.gv g').ownBlock ≠ some b

theorem RR.regroup {cx : Cx} {gh : Gh} {σ : AS} {a : Act} {w : World} (r : RR cx gh σ a w) (g : Nat) (hun : ∀ e, ¬ σ.uses g e) (V : Value) : RR cx { gh with gv := upd gh.gv g V } σ a w := by
  have hne : ∀ {g' e'}, σ.uses g' e' → g' ≠ g := fun h he => by subst he; exact hun _ h
  refine { frm := r.frm, base := r.base, limB := r.limB, size := r.size, ex := r.ex, gl := r.gl, tmps := ?_, boxes := r.boxes, inj := r.inj, shs := r.shs, apart := r.apart, tbs := ?_, own := ?_, alone := ?_ }
  · intro t x h
    have h1 := r.tmps t x h
    refine ⟨?_, h1.2⟩
    cases x with
    | un => trivial
    | bld l ns => exact h1.1
    | lp k o => exact h1.1
    | it k9 => trivial
    | cl f ks => exact h1.1
    | v y q =>
      refine ⟨h1.1.1, fun p hp => ?_⟩
      subst hp
      rw [h1.1.2 p rfl]
      exact (upd_ne gh.gv V (hne (e' := p.2) (.inl ⟨t, y, h⟩))).symm
  · intro k j g' e h
    have h1 := r.tbs k j g' e h
    refine ⟨h1.1, ?_⟩
    dsimp only
    rw [upd_ne gh.gv V (hne (e' := e) (.inr ⟨k, j, h⟩))]
    exact h1.2
  · intro g' e h
    dsimp only
    rw [upd_ne gh.gv V (hne h)]
    exact r.own g' e h
  · intro g1 e1 g2 e2 h h' hne' b hb
    dsimp only at hb ⊢
    rw [upd_ne gh.gv V (hne h)] at hb
    rw [upd_ne gh.gv V (hne h')]
    exact r.alone g1 e1 g2 e2 h h' hne' b hb

theorem RR.putTag {cx : Cx} {gh : Gh} {σ : AS} {a : Act} {w : World} (r : RR cx gh σ a w) (d : Option Nat) (hd : ∀ t, d = some t → t < σ.n ∧ t ∉ σ.fx) (g e : Nat) {x : AV} (hx : Rep gh.lim w.heap (gh.gv g) x)
    (ho : OwnOk cx gh σ w g e (gh.gv g)) (hu : ∀ e', σ.uses g e' → e' = e) : RR cx gh (σ.put d (.v x (some (g, e)))) (a.put d (gh.gv g)) w := by
  cases d with
  | none => exact r
  | some t =>
    have ht := (hd t rfl).1
    have huses : ∀ g' e', (σ.put (some t) (.v x (some (g, e)))).uses g' e' → (g' = g ∧ e' = e) ∨ σ.uses g' e' := by
      intro g' e' h
      rcases h with ⟨s, y, h⟩ | h
      · simp only [AS.put, look] at h
        split at h
        · simp only [Option.some.injEq, TV.v.injEq, Prod.mk.injEq] at h
          exact .inl ⟨h.2.1.symm, h.2.2.symm⟩
        · exact .inr (.inl ⟨s, y, h⟩)
      · exact .inr (.inr h)
    refine { frm := r.frm, base := r.base, limB := r.limB, size := by rw [Act.put_size]; exact r.size, ex := r.ex.put (some t) hd _ rfl _, gl := r.gl, tmps := ?_, boxes := r.boxes, inj := r.inj, shs := r.shs, apart := r.apart, tbs := r.tbs, own := ?_, alone := ?_ }
    · intro s y h
      simp only [AS.put, look] at h
      have hsz := r.size
      by_cases hts : t = s
      · subst hts
        simp only [if_true] at h
        injection h with h; subst h
        refine ⟨?_, by simp⟩
        simp only [Act.put, Array.getD_eq_getD_getElem?]
        rw [Array.getElem?_setIfInBounds_self_of_lt (by rw [hsz]; exact ht)]
        exact ⟨hx, fun p hp => by simp at hp; rw [← hp]; rfl⟩
      · simp only [hts, if_false] at h
        have := r.tmps s y h
        simpa [Act.put, AS.put, Array.getElem?_setIfInBounds_ne hts] using this
    · intro g' e' h
      rcases huses g' e' h with ⟨rfl, rfl⟩ | h
      · exact ⟨ho.own, ho.apart⟩
      · exact r.own g' e' h
    · intro g1 e1 g2 e2 h h' hne b hb
      rcases huses g1 e1 h with ⟨q1, q2⟩ | q <;> rcases huses g2 e2 h' with ⟨q3, q4⟩ | q'
      · exact absurd (q1.trans q3.symm) hne
      · subst q1; exact ho.alone g2 e2 q' (fun he => hne he.symm) b hb
      · subst q3; exact fun hb' => ho.alone g1 e1 q hne b hb' hb
      · exact r.alone g1 e1 g2 e2 q q' hne b hb

theorem RR.tagCell {cx : Cx} {gh : Gh} {σ : AS} {a : Act} {w : World} (r : RR cx gh σ a w) (k j g e : Nat) (hk : (look k σ.bx).isSome = true) (hc : cellAt w.heap (gh.bl k) j = some (gh.gv g))
    (ho : OwnOk cx gh σ w g e (gh.gv g)) : RR cx gh { σ with tb := (k, j, g, e) :: σ.tb } a w := by
  have huses : ∀ g' e', AS.uses { σ with tb := (k, j, g, e) :: σ.tb } g' e' → (g' = g ∧ e' = e) ∨ σ.uses g' e' := by
    intro g' e' h
    rcases h with h | ⟨k', j', h⟩
    · exact .inr (.inl h)
    · simp only [List.mem_cons, Prod.mk.injEq] at h
      rcases h with ⟨-, -, rfl, rfl⟩ | h
      · exact .inl ⟨rfl, rfl⟩
      · exact .inr (.inr ⟨k', j', h⟩)
  refine { frm := r.frm, base := r.base, limB := r.limB, size := r.size, ex := r.ex.sub (fun _ _ h => h) rfl rfl, gl := r.gl, tmps := r.tmps, boxes := r.boxes, inj := r.inj, shs := r.shs, apart := r.apart, tbs := ?_, own := ?_, alone := ?_ }
  · intro k' j' g' e' h
    simp only [List.mem_cons, Prod.mk.injEq] at h
    rcases h with ⟨rfl, rfl, rfl, rfl⟩ | h
    · exact ⟨hk, hc⟩
    · exact r.tbs k' j' g' e' h
  · intro g' e' h
    rcases huses g' e' h with ⟨rfl, rfl⟩ | h
    · exact ⟨ho.own, ho.apart⟩
    · exact r.own g' e' h
  · intro g1 e1 g2 e2 h h' hne b hb
    rcases huses g1 e1 h with ⟨q1, q2⟩ | q <;> rcases huses g2 e2 h' with ⟨q3, q4⟩ | q'
    · exact absurd (q1.trans q3.symm) hne
    · subst q1; exact ho.alone g2 e2 q' (fun he => hne he.symm) b hb
    · subst q3; exact fun hb' => ho.alone g1 e1 q hne b hb' hb
    · exact r.alone g1 e1 g2 e2 q q' hne b hb

theorem OwnOk.nil {cx : Cx} {gh : Gh} {σ : AS} {w : World} (g e : Nat) : OwnOk cx gh σ w g e (.slice none 0 0) :=
  ⟨⟨0, [], World.ownsRow_nil w _ _ _, fun b h => (by cases h)⟩, fun b h => (by cases h), fun _ _ _ _ b h => (by cases h)⟩

structure AS.le (σ' σ : AS) : Prop where
  n : σ'.n = σ.n
  tm : ∀ t x, look t σ'.tm = some x → look t σ.tm = some x ∧ ∀ k o, x = .lp k o → (look k σ'.bx).isSome = true
  bx : ∀ k c, look k σ'.bx = some c → look k σ.bx = some c
  tb : ∀ q, q ∈ σ'.tb → q ∈ σ.tb ∧ (look q.1 σ'.bx).isSome = true
  sh : ∀ b c, look b σ'.sh = some c → look b σ.sh = some c
  ys : σ'.ys = σ.ys
  fx : σ'.fx = σ.fx
  mks : σ'.mks = σ.mks

theorem RR.weak {cx : Cx} {gh : Gh} {σ σ' : AS} {a : Act} {w : World} (r : RR cx gh σ a w) (h : σ'.le σ) : RR cx gh σ' a w := by
  have hs : ∀ {k}, (look k σ'.bx).isSome = true → (look k σ.bx).isSome = true := fun hk => by
    obtain ⟨c, hc⟩ := Option.isSome_iff_exists.1 hk
    simp [h.bx _ c hc]
  have hu : ∀ {g e}, σ'.uses g e → σ.uses g e := by
    rintro g e (⟨t, x, hx⟩ | ⟨k, j, hx⟩)
    · exact .inl ⟨t, x, (h.tm t _ hx).1⟩
    · exact .inr ⟨k, j, (h.tb _ hx).1⟩
  refine { frm := r.frm, base := r.base, limB := r.limB, size := r.size.trans h.n.symm, ex := r.ex.sub (fun t q hx => (h.tm t _ hx).1) h.ys h.fx h.mks, gl := r.gl, tmps := fun t x hx => ⟨(r.tmps t x (h.tm t x hx).1).1, (h.tm t x hx).2⟩, boxes := fun k c hk => r.boxes k c (h.bx k c hk), inj := fun k k' h1 h2 => r.inj k k' (hs h1) (hs h2), shs := fun b c hb => r.shs b c (h.sh b c hb), apart := fun b k h1 h2 => ?_, tbs := fun k j g e hq => ⟨(h.tb _ hq).2, (r.tbs k j g e (h.tb _ hq).1).2⟩, own := fun g e hg => ?_, alone := fun g e g' e' h1 h2 => r.alone g e g' e' (hu h1) (hu h2) }
  · obtain ⟨c, hc⟩ := Option.isSome_iff_exists.1 h1
    exact r.apart b k (by simp [h.sh b c hc]) (hs h2)
  · obtain ⟨h1, h2⟩ := r.own g e (hu hg)
    refine ⟨h1, fun b hb => ⟨fun k hk => (h2 b hb).1 k (hs hk), ?_⟩⟩
    cases hq : look b σ'.sh with
    | none => rfl
    | some c => exact absurd (h2 b hb).2 (by simp [h.sh b c hq])

def pick {α : Type} (ks : List Nat) (l : List (Nat × α)) : List (Nat × α) :=
  match ks with
  | [] => []
  | k :: r => match look k l with
    | some x => (k, x) :: pick r l
    | none => pick r l

theorem look_pick {α : Type} (l : List (Nat × α)) (k : Nat) (x : α) : ∀ ks, look k (pick ks l) = some x → look k l = some x
  | [], h => by cases h
  | j :: r, h => by
    unfold pick at h
    split at h
    · rename_i y hy
      simp only [look] at h
      split at h
      · rename_i he; subst he; rw [hy]; exact h
      · exact look_pick l k x r h
    · exact look_pick l k x r h

def lpOk (bx : List (Nat × List AV)) : List (Nat × TV) → Bool
  | [] => true
  | (_, .lp k _) :: r => (look k bx).isSome && lpOk bx r
  | (_, .un) :: r | (_, .v _ _) :: r | (_, .bld _ _) :: r | (_, .it _) :: r | (_, .cl _ _) :: r => lpOk bx r

theorem lpOk_spec {bx : List (Nat × List AV)} : ∀ {tm : List (Nat × TV)}, lpOk bx tm = true → ∀ t k o, look t tm = some (.lp k o) → (look k bx).isSome = true
  | [], _, t, k, o, h => by cases h
  | (j, x) :: r, hl, t, k, o, h => by
    simp only [look] at h
    cases x <;> simp only [lpOk, Bool.and_eq_true] at hl
    case lp k' o' =>
      split at h
      · injection h with h; injection h with h1 h2; subst h1; exact hl.1
      · exact lpOk_spec hl.2 t k o h
    all_goals
      split at h
      · injection h with h; cases h
      · exact lpOk_spec hl t k o h

def AS.keep (σ : AS) (ts bs : List Nat) : AS := { σ with tm := pick ts σ.tm, bx := pick bs σ.bx, tb := σ.tb.filter fun q => (look q.1 (pick bs σ.bx)).isSome }

theorem AS.keep_le {σ : AS} {ts bs : List Nat} (h : lpOk (pick bs σ.bx) (pick ts σ.tm) = true) : (σ.keep ts bs).le σ where
  n := rfl
  tm := fun t x hx => ⟨look_pick σ.tm t x ts hx, fun k o he => by subst he; exact lpOk_spec h t k o hx⟩
  bx := fun k c hc => look_pick σ.bx k c bs hc
  tb := fun q hq => by have := List.mem_filter.1 hq; exact ⟨this.1, this.2⟩
  sh := fun b c hc => hc
  ys := rfl
  fx := rfl
  mks := rfl

end Go.Pv
end

section
/- The operations, over values without memory. -/
namespace Go.Pv
open Go

def aggO (P : Program) (t : Nat) : Option Bool :=
  (P.underlying t).map fun d => match d with | .struct _ | .array _ _ => true | _ => false
def elemT (P : Program) (t : Nat) : Option Nat :=
  match P.underlying t with
  | some (.slice e) => if (P.info? e).isSome then some e else none
  | _ => none
def Rows (sz : Nat) (l : List (List AV)) : Prop := ∀ r ∈ l, r.length = sz ∧ r.all AV.one = true
def foff (P : Program) (t f : Nat) : Option Nat :=
  match P.underlying t with
  | some (.struct fs) => (fs[f]?).bind fun x => if esz P x.type = 0 then none else some x.offset
  | _ => none
def ftyp (P : Program) (t f : Nat) : Nat :=
  match P.underlying t with
  | some (.struct fs) => ((fs[f]?).map (·.type)).getD 0
  | _ => 0
def ikind (P : Program) (t : Nat) : Option IntKind :=
  match P.underlying t with
  | some (.int k) => some k
  | _ => none
def ebytes (P : Program) (e : Nat) : Nat := ((P.info? e).map (·.bytes)).getD 0

def cvA (v : Value) : AV := match cv v with | .v x _ => x | _ => .tup []
def azero (P : Program) (t : Nat) : Option (List AV) :=
  ((P.info? t).bind (·.zero)).bind fun z => if z.cells.toList.all (fun v => match cv v with | .v _ _ => true | _ => false) && z.cells.size == esz P t then some (z.cells.toList.map cvA) else none
def nilPos (P : Program) (t : Nat) : List Nat :=
  match (P.info? t).bind (·.zero) with
  | some z => (List.range z.cells.size).filter fun j => match z.cells[j]? with | some (.slice none 0 0) => true | _ => false
  | none => []

inductive OR where
  | stuck
  | val (c : Prop) (x : TV)
  | eff (c : Prop) (σ : AS)
  | call (f : FuncId) (args : List AV)
  | callB (f : FuncId) (args : List AV) (ks : List Nat)      -- a function with boxes
  | yld (l : Nat) (x : AV)

def TV.av : TV → Option AV
  | .v x _ => some x
  | .bld l _ => some (.agg l)
  | _ => none

theorem av_rep {gh : Gh} {h : Array Obj} {v : Value} {x : TV} {y : AV} (r : TRep gh h v x) (e : x.av = some y) : Rep gh.lim h v y := by
  cases x with
  | un => cases e
  | v z g => injection e with e; subst e; exact r.1
  | bld l ns => injection e with e; subst e; exact r.1
  | lp k o => cases e
  | it k9 => cases e
  | cl f ks => cases e

def inR (k : IntKind) (n : Int) : Prop := k.wrap n = n

def strOp (op : BinOp) (a b : List UInt8) : OR :=
  match op with
  | .add => .val (a.length + b.length ≤ 9223372036854775807) (.v (.str (a ++ b)) none)
  | .eql => .val True (.v (.bool (a == b)) none)
  | .neq => .val True (.v (.bool (!(a == b))) none)
  | .lss => .val True (.v (.bool (Op.bytesLess a b)) none)
  | .gtr => .val True (.v (.bool (!(Op.bytesLess a b || a == b))) none)
  | _ => .stuck

def intOp (op : BinOp) (k : IntKind) (a b : Int) : OR :=
  match op with
  | .add => .val (inR k (a + b)) (.v (.int k (a + b)) none)
  | .sub => .val (inR k (a - b)) (.v (.int k (a - b)) none)
  | .mul => .val (inR k (a * b)) (.v (.int k (a * b)) none)
  | .quo => .val (b ≠ 0 ∧ inR k (a.tdiv b)) (.v (.int k (a.tdiv b)) none)
  | .rem => .val (b ≠ 0) (.v (.int k (a.tmod b)) none)
  | .eql => .val True (.v (.bool (a == b)) none)
  | .neq => .val True (.v (.bool (a != b)) none)
  | .lss => .val True (.v (.bool (decide (a < b))) none)
  | .leq => .val True (.v (.bool (decide (a ≤ b))) none)
  | .gtr => .val True (.v (.bool (decide (b < a))) none)
  | .geq => .val True (.v (.bool (decide (b ≤ a))) none)
  | _ => .stuck

def binR (op : BinOp) : Option AV → Option AV → OR
  | some (.int k a), some (.int k' b) => if k = k' then intOp op k a b else .stuck
  | some (.str a), some (.str b) => strOp op a b
  | _, _ => .stuck

def boolT (P : Program) (t : Nat) : Bool := P.underlying t matches some .bool
def funcT (P : Program) (t : Nat) : Bool := P.underlying t matches some (.func _ _ _)
def ptrT (P : Program) (t : Nat) : Bool := P.underlying t matches some (.pointer _)
def ifaceT (P : Program) (t : Nat) : Bool := P.underlying t matches some (.interface _)
def isC : Operand → Bool | .const _ => true | _ => false
def strB (P : Program) (t : Nat) : Bool := P.underlying t matches some .string
def flatFs (P : Program) : List Field → Nat → Option (List Nat)
  | [], _ => some []
  | f :: r, i => if f.name != "_" && f.offset == i && (boolT P f.type || strB P f.type || (ikind P f.type).isSome) then (flatFs P r (i + 1)).map (f.type :: ·) else none
def flatS (P : Program) (t : Nat) : Option (List Nat) :=
  match P.underlying t with
  | some (.struct fs) => if P.stoodInHeld t || P.eqGuardType P.depth t then none else flatFs P fs.toList 0
  | _ => none
def eqK (P : Program) (t : Nat) : AV → AV → Option Bool
  | .bool a, .bool b => if boolT P t then some (a == b) else none
  | .int k a, .int k' b => if k = k' ∧ (ikind P t).isSome = true then some (a == b) else none
  | .str a, .str b => if strB P t then some (a == b) else none
  | _, _ => none
def eqCells (P : Program) : List Nat → List AV → List AV → Option Bool
  | [], [], [] => some true
  | t :: ts, x :: xs, y :: ys => match eqK P t x y, eqCells P ts xs ys with
    | some b, some c => some (b && c)
    | _, _ => none
  | _, _, _ => none
def eqV (P : Program) (t : Nat) (k : Bool) : AV → AV → Option Bool
  | .bool a, .bool b => if boolT P t then some (a == b) else none
  | .nilFunc, .nilFunc => if funcT P t then some true else none
  | .func _ _, .nilFunc => if funcT P t then some false else none
  | .yld _, .nilFunc => if funcT P t then some false else none
  | .nilIface, .nilIface => if ifaceT P t && k then some true else none
  | .iface _ _, .nilIface => if ifaceT P t then some false else none
  | .nilIface, .iface _ _ => if ifaceT P t then some false else none
  | .agg a, .agg b => (flatS P t).bind fun ts => eqCells P ts a b
  | .gp _ _, .nilPtr => if ptrT P t then some false else none
  | _, _ => none
def eqR (P : Program) (op : BinOp) (t : Nat) (k : Bool) : Option AV → Option AV → OR
  | some x, some y =>
    match eqV P t k x y, op with
    | some b, .eql => .val True (.v (.bool b) none)
    | some b, .neq => .val True (.v (.bool (!b)) none)
    | _, _ => .stuck
  | _, _ => .stuck
def isNilS : Operand → Bool | .const (.slice none 0 0) => true | _ => false
def nilSR (P : Program) (op : BinOp) (t : Nat) (k : Bool) : Option AV → OR
  | some (.slice l) => if k = true ∧ (elemT P t).isSome = true then
      match op, l with
      | .eql, [] => .val True (.v .anyB none)
      | .neq, [] => .val True (.v .anyB none)
      | .eql, _ :: _ => .val True (.v (.bool false) none)
      | .neq, _ :: _ => .val True (.v (.bool true) none)
      | _, _ => .stuck
    else .stuck
  | some .nilS => if k = true ∧ (elemT P t).isSome = true then
      match op with
      | .eql => .val True (.v (.bool true) none)
      | .neq => .val True (.v (.bool false) none)
      | _ => .stuck
    else .stuck
  | _ => .stuck
def arrT (P : Program) (t : Nat) : Option (Nat × Nat) :=
  match P.underlying t with
  | some (.array n e) => if (P.info? e).isSome then some (n, e) else none
  | _ => none

def pickR : Option AV → Option AV → Option AV → OR
  | some (.bool c), some x, some y => .val True (.v (if c then x else y) none)
  | _, _, _ => .stuck

def unR (op : UnOp) : Option AV → OR
  | some (.bool b) => match op with | .not => .val True (.v (.bool (!b)) none) | _ => .stuck
  | some (.int k n) => match op with | .neg => .val (inR k (0 - n)) (.v (.int k (0 - n)) none) | _ => .stuck
  | _ => .stuck

def flat : AV → List AV
  | .agg l => l
  | x => [x]

def avs (e : Operand → TV) : List Operand → Option (List AV)
  | [] => some []
  | x :: r => match (e x).av, avs e r with
    | some y, some l => some (y :: l)
    | _, _ => none

def fillA (P : Program) (t : Nat) (e : Operand → TV) : List (Nat × Operand) → List AV → Option (List AV × Prop)
  | [], cells => some (cells, True)
  | (i, x) :: r, cells =>
    match foff P t i, (e x).av with
    | some o, some y => (fillA P t e r (splice cells o (flat y))).map fun p => (p.1, ((flat y).length = esz P (ftyp P t i) ∧ o + (flat y).length ≤ cells.length) ∧ p.2)
    | _, _ => none

def nilsLeft (P : Program) (t : Nat) : List (Nat × Operand) → List Nat → List Nat
  | [], ns => ns
  | (i, _) :: r, ns => nilsLeft P t r (ns.filter fun j => match foff P t i with | some o => !(decide (o ≤ j) && decide (j < o + esz P (ftyp P t i))) | none => false)

def loadR (P : Program) (t : Nat) (cells : List AV) : OR :=
  match aggO P t with
  | some true => .val (esz P t ≤ cells.length) (.v (.agg (cells.take (esz P t))) none)
  | some false => match cells[0]? with
    | some x => .val True (.v x none)
    | none => .stuck
  | none => .stuck

def sub16 (l : List (List AV)) (lo hi : Int) : List (List AV) := (l.take hi.toNat).drop lo.toNat

def sliceR (P : Program) (t : Nat) (x : Option AV) (lo hi : Option (Option AV)) : OR :=
  match x with
  | some (.str s) =>
    if (P.underlying t matches some .string) then
      match lo, hi with
      | none, none => .val True (.v (.str s) none)
      | none, some (some (.int _ h)) => .val (0 ≤ h ∧ h ≤ s.length) (.v (.str (s.take h.toNat)) none)
      | some (some (.int _ l)), none => .val (0 ≤ l ∧ l ≤ s.length) (.v (.str (s.drop l.toNat)) none)
      | some (some (.int _ l)), some (some (.int _ h)) => .val (0 ≤ l ∧ l ≤ h ∧ h ≤ s.length) (.v (.str ((s.take h.toNat).drop l.toNat)) none)
      | _, _ => .stuck
    else .stuck
  | some (.slice s) =>
    match elemT P t with
    | some e =>
      match lo, hi with
      | none, none => .val (Rows (esz P e) s) (.v (.slice s) none)
      | none, some (some (.int _ h)) => .val ((0 ≤ h ∧ h ≤ s.length) ∧ Rows (esz P e) s) (.v (.slice (s.take h.toNat)) none)
      | some (some (.int _ l)), none => .val ((0 ≤ l ∧ l ≤ s.length) ∧ Rows (esz P e) s) (.v (.slice (s.drop l.toNat)) none)
      | some (some (.int _ l)), some (some (.int _ h)) => .val ((0 ≤ l ∧ l ≤ h ∧ h ≤ s.length) ∧ Rows (esz P e) s) (.v (.slice ((s.take h.toNat).drop l.toNat)) none)
      | _, _ => .stuck
    | none => .stuck
  | some (.ro l) =>
    match arrT P t, lo, hi with
    | some (n, e), none, none => if esz P e = 1 then .val (n ≤ l.length) (.v (.slice ((l.take n).map fun x => [x])) none) else .stuck
    | _, _, _ => .stuck
  | _ => .stuck

def lenR (P : Program) (t : Nat) : Option AV → OR
  | some (.str s) => if (P.underlying t matches some .string) then .val True (.v (.int .i64 s.length) none) else .stuck
  | some (.slice l) => if (elemT P t).isSome then .val True (.v (.int .i64 l.length) none) else .stuck
  | some (.gs _ n _) => if (elemT P t).isSome then .val True (.v (.int .i64 n) none) else .stuck
  | some (.fr _ _ _ l) => if (elemT P t).isSome then .val True (.v (.int .i64 l.length) none) else .stuck
  | _ => .stuck

def mxR (isMax : Bool) : Option AV → Option AV → OR
  | some (.int k x), some (.int _ y) => .val True (.v (.int k (if isMax then (if y > x then y else x) else (if y < x then y else x))) none)
  | _, _ => .stuck

def AS.usesB (σ : AS) (g : Nat) : Bool :=
  σ.tm.any (fun p => match p.2 with | .v _ (some q) => q.1 == g | _ => false) || σ.tb.any (fun q => q.2.2.1 == g)

theorem AS.not_uses {σ : AS} {g : Nat} (h : σ.usesB g = false) (e : Nat) : ¬ σ.uses g e := by
  simp only [AS.usesB, Bool.or_eq_false_iff, List.any_eq_false] at h
  rintro (⟨t, x, hx⟩ | ⟨k, j, hx⟩)
  · have mem : ∀ (l : List (Nat × TV)), look t l = some (.v x (some (g, e))) → (t, TV.v x (some (g, e))) ∈ l := by
      intro l
      induction l with
      | nil => intro h; cases h
      | cons p r ih =>
        intro h
        obtain ⟨j, y⟩ := p
        simp only [look] at h
        split at h
        · rename_i he; subst he; injection h with h; subst h; exact List.mem_cons_self ..
        · exact List.mem_cons_of_mem _ (ih h)
    have := h.1 _ (mem σ.tm hx)
    simp at this
  · have := h.2 _ hx
    simp at this

def gid (k j : Nat) : Nat := 100000 + 1000 * k + j

def AS.openB (σ : AS) (k : Nat) (hint : List (Nat × Nat)) : List Nat → AS
  | [] => σ
  | j :: r => match look (gid k j) hint with
    | some e => if σ.usesB (gid k j) then AS.openB σ k hint r else AS.openB { σ with tb := (k, j, gid k j, e) :: σ.tb } k hint r
    | none => AS.openB σ k hint r

end Go.Pv
end

section
/- The operations over values without memory are right. -/
namespace Go.Pv
open Go

theorem rep_int {lim : Lim} {h : Array Obj} {v : Value} {k : IntKind} {n : Int} (r : Rep lim h v (.int k n)) : v = .int k n := by cases r; rfl
theorem rep_bool {lim : Lim} {h : Array Obj} {v : Value} {b : Bool} (r : Rep lim h v (.bool b)) : v = .bool b := by cases r; rfl
theorem rep_yld {lim : Lim} {h : Array Obj} {v : Value} {l : Nat} (r : Rep lim h v (.yld l)) : v = .func (.yield l) #[] #[] := by cases r; rfl
theorem rep_str {lim : Lim} {h : Array Obj} {v : Value} {l : List UInt8} (r : Rep lim h v (.str l)) : v = .string ⟨l.toArray⟩ := by cases r; rfl

theorem trep_int (gh : Gh) (h : Array Obj) (k : IntKind) (n : Int) : TRep gh h (.int k n) (.v (.int k n) none) := ⟨.int k n, by simp⟩
theorem trep_bool (gh : Gh) (h : Array Obj) (b : Bool) : TRep gh h (.bool b) (.v (.bool b) none) := ⟨.bool b, by simp⟩
theorem trep_str (gh : Gh) (h : Array Obj) (l : List UInt8) : TRep gh h (.string ⟨l.toArray⟩) (.v (.str l) none) := ⟨.str l, by simp⟩
theorem trep_v {gh : Gh} {h : Array Obj} {v : Value} {x : AV} (r : Rep gh.lim h v x) : TRep gh h v (.v x none) := ⟨r, by simp⟩

theorem ba_append (a b : List UInt8) : (⟨a.toArray⟩ : ByteArray) ++ ⟨b.toArray⟩ = ⟨(a ++ b).toArray⟩ := by
  apply ByteArray.ext
  rw [ByteArray.data_append]
  simp
theorem ba_size (l : List UInt8) : (⟨l.toArray⟩ : ByteArray).size = l.length := by simp [ByteArray.size]

def Yl (P : Program) (gh : Gh) (w : World) (s : Sem Value) (x : TV) : Prop := ∃ v, s.run P w = .ok v w ∧ TRep gh w.heap v x

theorem intOp_sound {P : Program} {gh : Gh} {w : World} {op : BinOp} {k : IntKind} {a b : Int} {t : TypeId} {xo yo : Operand} {c : Prop} {z : TV}
    (h : intOp op k a b = .val c z) (hc : c) : Yl P gh w (do eqGuard op t xo yo (.int k a) (.int k b); binOp op t (.int k a) (.int k b)) z := by
  rw [eqGuard_at_int]
  cases op <;> simp only [intOp, OR.val.injEq, reduceCtorEq] at h <;> obtain ⟨h1, rfl⟩ := h <;> subst h1
  · exact ⟨.int k (a + b), by simp [binOp, Op.intArith, show k.wrap (a + b) = a + b from hc], trep_int _ _ _ _⟩
  · exact ⟨.int k (a - b), by simp [binOp, Op.intArith, show k.wrap (a - b) = a - b from hc], trep_int _ _ _ _⟩
  · exact ⟨.int k (a * b), by simp [binOp, Op.intArith, show k.wrap (a * b) = a * b from hc], trep_int _ _ _ _⟩
  · exact ⟨.int k (a.tdiv b), by simp [binOp, Op.intDiv, hc.1, show k.wrap (a.tdiv b) = a.tdiv b from hc.2], trep_int _ _ _ _⟩
  · exact ⟨.int k (a.tmod b), by simp [binOp, Op.intDiv, hc], trep_int _ _ _ _⟩
  all_goals exact ⟨.bool _, by simp [binOp, Op.intCmp], trep_bool _ _ _⟩

theorem strOp_sound {P : Program} {gh : Gh} {w : World} {op : BinOp} {a b : List UInt8} {t : TypeId} {xo yo : Operand} {c : Prop} {z : TV}
    (h : strOp op a b = .val c z) (hc : c) : Yl P gh w (do eqGuard op t xo yo (.string ⟨a.toArray⟩) (.string ⟨b.toArray⟩); binOp op t (.string ⟨a.toArray⟩) (.string ⟨b.toArray⟩)) z := by
  rw [eqGuard_at_string]
  cases op <;> simp only [strOp, OR.val.injEq, reduceCtorEq] at h <;> obtain ⟨h1, rfl⟩ := h <;> subst h1
  case add =>
    refine ⟨_, ?_, trep_str _ _ _⟩
    have h2 : ¬ (9223372036854775807 : Int) < (((⟨a.toArray⟩ : ByteArray).size + (⟨b.toArray⟩ : ByteArray).size : Nat) : Int) := by rw [ba_size, ba_size]; omega
    simp only [binOp, Op.stringOp, Sem.run_bind, Sem.run_pure, Result.andThen_ok, IntKind.max_i64, gt_iff_lt, h2, if_false, ba_append]
  all_goals exact ⟨.bool _, by simp [binOp, Op.stringOp, ByteArray.toList_mk], trep_bool _ _ _⟩

theorem binR_sound {P : Program} {gh : Gh} {w : World} {op : BinOp} {x y : Option AV} {vx vy : Value} {t : TypeId} {xo yo : Operand} {c : Prop} {z : TV}
    (hx : ∀ a, x = some a → Rep gh.lim w.heap vx a) (hy : ∀ a, y = some a → Rep gh.lim w.heap vy a) (h : binR op x y = .val c z) (hc : c) :
    Yl P gh w (do eqGuard op t xo yo vx vy; binOp op t vx vy) z := by
  unfold binR at h
  split at h
  · rename_i k a k' b
    split at h
    · rename_i hk; subst hk
      obtain rfl := rep_int (hx _ rfl)
      obtain rfl := rep_int (hy _ rfl)
      exact intOp_sound h hc
    · cases h
  · obtain rfl := rep_str (hx _ rfl)
    obtain rfl := rep_str (hy _ rfl)
    exact strOp_sound h hc
  · cases h

theorem run_eqB {P : Program} {op : BinOp} {t : TypeId} {u v : Value} {b : Bool} {w : World} (hs : (binOp .eql t u v = do pure (.bool (← Op.equal t u v))) ∧ (binOp .neq t u v = do pure (.bool (!(← Op.equal t u v)))))
    (h : (Op.equal t u v).run P w = .ok b w) (ho : op = .eql ∨ op = .neq) : (binOp op t u v).run P w = .ok (.bool (if op = .eql then b else !b)) w := by
  rcases ho with rfl | rfl
  · rw [hs.1]; simp [h]
  · rw [hs.2]; simp [h]

theorem boolT_spec {P : Program} {t : TypeId} (h : boolT P t = true) : P.underlying t = some .bool := by unfold boolT at h; split at h <;> first | assumption | cases h
theorem funcT_spec {P : Program} {t : TypeId} (h : funcT P t = true) : ∃ a b c, P.underlying t = some (.func a b c) := by unfold funcT at h; split at h <;> first | exact ⟨_, _, _, by assumption⟩ | cases h
theorem ifaceT_spec {P : Program} {t : TypeId} (h : ifaceT P t = true) : ∃ a, P.underlying t = some (.interface a) := by unfold ifaceT at h; split at h <;> first | exact ⟨_, by assumption⟩ | cases h

theorem ptrT_spec {P : Program} {t : TypeId} (h : ptrT P t = true) : ∃ a, P.underlying t = some (.pointer a) := by unfold ptrT at h; split at h <;> first | exact ⟨_, by assumption⟩ | cases h

theorem depth_succ : ∃ d, Op.maxDepth = d + 1 := ⟨_, rfl⟩

theorem strB_spec {P : Program} {t : TypeId} (h : strB P t = true) : P.underlying t = some .string := by unfold strB at h; split at h <;> first | assumption | cases h
theorem ikind_some {P : Program} {t : TypeId} (h : (ikind P t).isSome = true) : ∃ k, P.underlying t = some (.int k) := by
  unfold ikind at h
  split at h
  · exact ⟨_, by assumption⟩
  · cases h
theorem run_part_one {P : Program} {t : TypeId} {cs : Array Value} {i : Nat} {v : Value} {w : World} (h : P.underlying t = some .bool ∨ P.underlying t = some .string ∨ ∃ k, P.underlying t = some (.int k)) (hv : cs[i]? = some v) : (part t cs i).run P w = .ok v w := by
  rcases h with h | h | ⟨k, h⟩ <;> simp [part, isAgg, run_underlying h, hv]
theorem eqK_sound {P : Program} {lim : Lim} {w : World} {x y : AV} {vx vy : Value} {t : TypeId} {b : Bool} {d : Nat}
    (hx : Rep lim w.heap vx x) (hy : Rep lim w.heap vy y) (h : eqK P t x y = some b) : (Op.equalIn (d + 1) t vx vy).run P w = .ok b w := by
  unfold eqK at h
  split at h
  · obtain rfl := rep_bool hx
    obtain rfl := rep_bool hy
    split at h
    · rename_i hu
      obtain rfl := Option.some.inj h
      exact run_equalIn_bool w d t _ _ (boolT_spec hu)
    · cases h
  · obtain rfl := rep_int hx
    obtain rfl := rep_int hy
    split at h
    · rename_i hu
      obtain ⟨rfl, hu⟩ := hu
      obtain ⟨k', hu⟩ := ikind_some hu
      obtain rfl := Option.some.inj h
      exact run_equalIn_int w d t _ k' _ _ hu
    · cases h
  · obtain rfl := rep_str hx
    obtain rfl := rep_str hy
    split at h
    · rename_i hu
      obtain rfl := Option.some.inj h
      rw [run_equalIn_string w d t _ _ (strB_spec hu)]
      simp [ByteArray.toList_mk]
    · cases h
  · cases h
theorem eqFields_sound {P : Program} {lim : Lim} {w : World} {xs ys : Array Value} {d : Nat} : ∀ (fs : List Field) (i : Nat) (ts : List Nat) (la lb : List AV) (b : Bool), flatFs P fs i = some ts → RepL lim w.heap (xs.toList.drop i) la → RepL lim w.heap (ys.toList.drop i) lb →
    eqCells P ts la lb = some b → (Op.eqFields (d + 1) xs ys fs).run P w = .ok b w
  | [], i, ts, la, lb, b, hf, ha, hb, h => by
    simp only [flatFs, Option.some.injEq] at hf
    subst hf
    cases la with
    | nil =>
      cases lb with
      | nil => simp only [eqCells, Option.some.injEq] at h; subst h; rfl
      | cons y ys => simp [eqCells] at h
    | cons x xs => simp [eqCells] at h
  | f :: fs, i, ts, la, lb, b, hf, ha, hb, h => by
    simp only [flatFs] at hf
    split at hf
    · rename_i hc
      simp only [Bool.and_eq_true, bne_iff_ne, ne_eq, beq_iff_eq, Bool.or_eq_true] at hc
      obtain ⟨⟨h1, h2⟩, h3⟩ := hc
      obtain ⟨ts', hts, rfl⟩ := Option.map_eq_some_iff.1 hf
      cases la with
      | nil => simp [eqCells] at h
      | cons x xs' =>
       cases lb with
       | nil => simp [eqCells] at h
       | cons y ys' =>
        simp only [eqCells] at h
        split at h
        · rename_i c1 c2 e1 e2
          injection h with h; subst h
          have hun : P.underlying f.type = some .bool ∨ P.underlying f.type = some .string ∨ ∃ k, P.underlying f.type = some (.int k) := by
            rcases h3 with (h3 | h3) | h3
            · exact .inl (boolT_spec h3)
            · exact .inr (.inl (strB_spec h3))
            · exact .inr (.inr (ikind_some h3))
          obtain ⟨va, hva, hra⟩ := ha.get (j := 0) rfl
          obtain ⟨vb, hvb, hrb⟩ := hb.get (j := 0) rfl
          rw [List.getElem?_drop] at hva hvb
          have ih := eqFields_sound (d := d) fs (i + 1) ts' xs' ys' c2 hts (by
            have := ha.drop 1
            rwa [List.drop_drop] at this) (by
            have := hb.drop 1
            rwa [List.drop_drop] at this) e2
          have hpa := run_part_one (P := P) (w := w) hun (cs := xs) (i := f.offset) (v := va) (by rw [h2]; simpa using hva)
          have hpb := run_part_one (P := P) (w := w) hun (cs := ys) (i := f.offset) (v := vb) (by rw [h2]; simpa using hvb)
          have he := eqK_sound (d := d) hra hrb e1
          rw [Op.eqFields, if_pos h1]
          simp only [Sem.run_bind, hpa, hpb, he, Result.andThen_ok]
          cases c1
          · simp
          · simpa using ih
        · cases h
    · cases hf

theorem eqV_sound {P : Program} {gh : Gh} {w : World} {op : BinOp} {x y : AV} {vx vy : Value} {t : TypeId} {xo yo : Operand} {b : Bool}
    (hx : Rep gh.lim w.heap vx x) (hy : Rep gh.lim w.heap vy y) (h : eqV P t (isC xo || isC yo) x y = some b) (ho : op = .eql ∨ op = .neq) :
    (do eqGuard op t xo yo vx vy; binOp op t vx vy).run P w = .ok (.bool (if op = .eql then b else !b)) w := by
  obtain ⟨d, hd⟩ := depth_succ
  have key : ∀ (u v : Value) (b : Bool), ((binOp .eql t u v = do pure (.bool (← Op.equal t u v))) ∧ (binOp .neq t u v = do pure (.bool (!(← Op.equal t u v))))) → (Op.equal t u v).run P w = .ok b w →
      (eqGuard op t xo yo u v).run P w = .ok () w → (do eqGuard op t xo yo u v; binOp op t u v).run P w = .ok (.bool (if op = .eql then b else !b)) w := by
    intro u v b h1 h2 h3
    simp only [Sem.run_bind, h3, Result.andThen_ok]
    exact run_eqB h1 h2 ho
  unfold eqV at h
  split at h
  · obtain rfl := rep_bool hx
    obtain rfl := rep_bool hy
    split at h
    · rename_i hu
      obtain rfl := Option.some.inj h
      refine key _ _ _ ⟨rfl, rfl⟩ ?_ (by rw [eqGuard_at_bool]; rfl)
      unfold Op.equal; rw [hd]; unfold Op.equalIn; simp [run_underlying (boolT_spec hu)]
    · cases h
  · split at h
    · rename_i hu
      obtain ⟨a1, a2, a3, hu⟩ := funcT_spec hu
      obtain rfl := Option.some.inj h
      cases hx; cases hy
      refine key _ _ _ ⟨rfl, rfl⟩ ?_ (by rcases ho with rfl | rfl <;> rfl)
      unfold Op.equal; rw [hd]; unfold Op.equalIn; simp [run_underlying hu]
    · cases h
  · split at h
    · rename_i hu
      obtain ⟨a1, a2, a3, hu⟩ := funcT_spec hu
      obtain rfl := Option.some.inj h
      cases hx; cases hy
      refine key _ _ _ ⟨rfl, rfl⟩ ?_ (by rcases ho with rfl | rfl <;> rfl)
      unfold Op.equal; rw [hd]; unfold Op.equalIn; simp [run_underlying hu]
    · cases h
  · split at h
    · rename_i hu
      obtain ⟨a1, a2, a3, hu⟩ := funcT_spec hu
      obtain rfl := Option.some.inj h
      cases hx; cases hy
      refine key _ _ _ ⟨rfl, rfl⟩ ?_ (by rcases ho with rfl | rfl <;> rfl)
      unfold Op.equal; rw [hd]; unfold Op.equalIn; simp [run_underlying hu]
    · cases h
  · split at h
    · rename_i hu
      rw [Bool.and_eq_true] at hu
      obtain ⟨hu, hk⟩ := hu
      obtain ⟨a1, hu⟩ := ifaceT_spec hu
      obtain rfl := Option.some.inj h
      cases hx; cases hy
      refine key _ _ _ ⟨rfl, rfl⟩ ?_ ?_
      · unfold Op.equal; rw [hd]; unfold Op.equalIn; simp [run_underlying hu]
      · clear key h
        rcases ho with rfl | rfl <;> cases xo <;> cases yo <;> first | rfl | (simp [isC] at hk)
    · cases h
  · split at h
    · rename_i hu
      obtain ⟨a1, hu⟩ := ifaceT_spec hu
      obtain rfl := Option.some.inj h
      cases hx; cases hy
      refine key _ _ _ ⟨rfl, rfl⟩ ?_ (by rcases ho with rfl | rfl <;> rfl)
      unfold Op.equal; rw [hd]; unfold Op.equalIn; simp [run_underlying hu]
    · cases h
  · split at h
    · rename_i hu
      obtain ⟨a1, hu⟩ := ifaceT_spec hu
      obtain rfl := Option.some.inj h
      cases hx; cases hy
      refine key _ _ _ ⟨rfl, rfl⟩ ?_ (by rcases ho with rfl | rfl <;> rfl)
      unfold Op.equal; rw [hd]; unfold Op.equalIn; simp [run_underlying hu]
    · cases h
  · obtain ⟨ts, h1, h2⟩ := Option.bind_eq_some_iff.1 h
    obtain ⟨xs, rfl, hxs⟩ := Rep.agg_iff.1 hx
    obtain ⟨ys, rfl, hys⟩ := Rep.agg_iff.1 hy
    unfold flatS at h1
    split at h1
    · rename_i fs hu
      split at h1
      · cases h1
      · rename_i hg
        simp only [Bool.or_eq_true, not_or, Bool.not_eq_true] at hg
        have hfo : P.fieldsOf t = fs := by unfold Program.fieldsOf; rw [hu]
        have hrun : (Op.equal t (.agg xs) (.agg ys)).run P w = .ok b w := by
          unfold Op.equal
          rw [show Op.maxDepth = 9998 + 1 + 1 from rfl, run_equalIn_agg w _ t xs ys (by rw [hfo]; exact hu) hg.1, hfo]
          exact eqFields_sound fs.toList 0 ts _ _ b h1 (by simpa using hxs) (by simpa using hys) h2
        refine key _ _ _ ⟨rfl, rfl⟩ hrun (run_eqGuard_agg w op t xo yo xs ys hg.2)
    · cases h1
  · split at h
    · rename_i hu
      obtain ⟨a1, hu⟩ := ptrT_spec hu
      obtain rfl := Option.some.inj h
      cases hx; cases hy
      refine key _ _ _ ⟨rfl, rfl⟩ ?_ (by rcases ho with rfl | rfl <;> rfl)
      unfold Op.equal; rw [hd]; unfold Op.equalIn; simp [run_underlying hu]
    · cases h
  · cases h

theorem eqR_sound {P : Program} {gh : Gh} {w : World} {op : BinOp} {x y : Option AV} {vx vy : Value} {t : TypeId} {xo yo : Operand} {c : Prop} {z : TV}
    (hx : ∀ a, x = some a → Rep gh.lim w.heap vx a) (hy : ∀ a, y = some a → Rep gh.lim w.heap vy a) (h : eqR P op t (isC xo || isC yo) x y = .val c z) (hc : c) :
    Yl P gh w (do eqGuard op t xo yo vx vy; binOp op t vx vy) z := by
  unfold eqR at h
  split at h
  · split at h
    · rename_i hb
      simp only [OR.val.injEq] at h
      obtain ⟨h1, rfl⟩ := h
      exact ⟨.bool _, eqV_sound (op := .eql) (hx _ rfl) (hy _ rfl) hb (.inl rfl), trep_bool _ _ _⟩
    · rename_i hb
      simp only [OR.val.injEq] at h
      obtain ⟨h1, rfl⟩ := h
      exact ⟨.bool _, eqV_sound (op := .neq) (hx _ rfl) (hy _ rfl) hb (.inr rfl), trep_bool _ _ _⟩
    · cases h
  · cases h

theorem elemT_spec {P : Program} {t e : Nat} (h : elemT P t = some e) : P.underlying t = some (.slice e) ∧ (P.info? e).isSome = true := by
  unfold elemT at h
  split at h
  · rename_i e' hu
    split at h
    · rename_i hi; injection h with h; subst h; exact ⟨hu, hi⟩
    · cases h
  · cases h

theorem isNilS_spec {y : Operand} (h : isNilS y = true) : y = .const (.slice none 0 0) := by
  unfold isNilS at h
  split at h
  · rfl
  · cases h
theorem nilSR_sound {P : Program} {gh : Gh} {w : World} {op : BinOp} {x : Option AV} {vx : Value} {t : TypeId} {xo yo : Operand} {c : Prop} {z : TV}
    (hx : ∀ a, x = some a → Rep gh.lim w.heap vx a) (h : nilSR P op t (isNilS yo) x = .val c z) (_ : c) :
    Yl P gh w (do eqGuard op t xo yo vx (.slice none 0 0); binOp op t vx (.slice none 0 0)) z := by
  have eqs : ∀ (a : Option Addr) (n cp : Nat) (e : Nat), P.underlying t = some (.slice e) → (Op.equal t (.slice a n cp) (.slice none 0 0)).run P w = .ok a.isNone w := fun a n cp e hu => by
    obtain ⟨d, hd⟩ := depth_succ
    unfold Op.equal; rw [hd]; unfold Op.equalIn; cases a <;> simp [run_underlying hu]
  have key : ∀ (op : BinOp) (a : Option Addr) (n cp : Nat) (e : Nat), P.underlying t = some (.slice e) → (op = .eql ∨ op = .neq) →
      (do eqGuard op t xo yo (.slice a n cp) (.slice none 0 0); binOp op t (.slice a n cp) (.slice none 0 0)).run P w = .ok (.bool (if op = .eql then a.isNone else !a.isNone)) w := fun op a n cp e hu ho => by
    have h3 : (eqGuard op t xo yo (.slice a n cp) (.slice none 0 0)).run P w = .ok () w := by rcases ho with rfl | rfl <;> rfl
    simp only [Sem.run_bind, h3, Result.andThen_ok]
    exact run_eqB ⟨rfl, rfl⟩ (eqs a n cp e hu) ho
  unfold nilSR at h
  split at h
  · rename_i l
    split at h
    · rename_i hk
      obtain ⟨e, he⟩ := Option.isSome_iff_exists.1 hk.2
      obtain ⟨hu, -⟩ := elemT_spec he
      have hr := hx _ rfl
      obtain ⟨p, cap, hv, -⟩ := hr.slice_form
      subst hv
      have kk := fun (op : BinOp) => key op p l.length cap e hu
      have hc : ∀ r q, l = r :: q → p.isNone = false := fun r q hl => by
        subst hl
        obtain ⟨b, off, hp, -⟩ := hr.row (i := 0) (x := r) rfl
        subst hp; rfl
      split at h
      · cases h; exact ⟨_, kk .eql (.inl rfl), .anyB _, by simp⟩
      · cases h; exact ⟨_, kk .neq (.inr rfl), .anyB _, by simp⟩
      · cases h
        have := kk .eql (.inl rfl)
        rw [hc _ _ rfl] at this
        exact ⟨_, this, trep_bool _ _ _⟩
      · cases h
        have := kk .neq (.inr rfl)
        rw [hc _ _ rfl] at this
        exact ⟨_, this, trep_bool _ _ _⟩
      · cases h
    · cases h
  · split at h
    · rename_i hk
      obtain ⟨e, he⟩ := Option.isSome_iff_exists.1 hk.2
      obtain ⟨hu, -⟩ := elemT_spec he
      have hr := hx _ rfl
      cases hr
      split at h
      · cases h; exact ⟨_, key .eql none 0 0 e hu (.inl rfl), trep_bool _ _ _⟩
      · cases h; exact ⟨_, key .neq none 0 0 e hu (.inr rfl), trep_bool _ _ _⟩
      · cases h
    · cases h
  · cases h

theorem unR_sound {P : Program} {gh : Gh} {w : World} {op : UnOp} {x : Option AV} {vx : Value} {c : Prop} {z : TV}
    (hx : ∀ a, x = some a → Rep gh.lim w.heap vx a) (h : unR op x = .val c z) (hc : c) : Yl P gh w (Op.unary op vx) z := by
  unfold unR at h
  split at h
  · obtain rfl := rep_bool (hx _ rfl)
    split at h
    · simp only [OR.val.injEq] at h
      obtain ⟨h1, rfl⟩ := h
      exact ⟨.bool _, by simp [Op.unary], trep_bool _ _ _⟩
    · cases h
  · obtain rfl := rep_int (hx _ rfl)
    split at h
    · simp only [OR.val.injEq] at h
      obtain ⟨h1, rfl⟩ := h
      subst h1
      exact ⟨.int _ _, by simp only [Op.unary, Op.intArith, Sem.run_pure]; rw [show IntKind.wrap _ _ = _ from hc], trep_int _ _ _ _⟩
    · cases h
  · cases h

theorem pickR_sound {gh : Gh} {w : World} {x y z : Option AV} {vx vy vz : Value} {c : Prop} {u : TV} {P : Program}
    (hx : ∀ a, x = some a → Rep gh.lim w.heap vx a) (hy : ∀ a, y = some a → Rep gh.lim w.heap vy a) (hz : ∀ a, z = some a → Rep gh.lim w.heap vz a)
    (h : pickR x y z = .val c u) (_ : c) : Yl P gh w (do pure (if ← asBool vx then vy else vz)) u := by
  unfold pickR at h
  split at h
  · rename_i b p q
    obtain rfl := rep_bool (hx _ rfl)
    simp only [OR.val.injEq] at h
    obtain ⟨h1, rfl⟩ := h
    refine ⟨if b then vy else vz, by simp [asBool], trep_v ?_⟩
    cases b
    · exact hz _ rfl
    · exact hy _ rfl
  · cases h

theorem lenR_sound {P : Program} {gh : Gh} {w : World} {x : Option AV} {vx : Value} {t ty : TypeId} {c : Prop} {z : TV} {ts : Array TypeId}
    (hx : ∀ a, x = some a → Rep gh.lim w.heap vx a) (h : lenR P t x = .val c z) (_ : c) (ht : ts[0]? = some t) : Yl P gh w (Builtin.len_ ts ty #[vx]) z := by
  unfold lenR at h
  split at h
  · obtain rfl := rep_str (hx _ rfl)
    split at h
    · rename_i hu
      simp only [OR.val.injEq] at h
      obtain ⟨h1, rfl⟩ := h
      have hu' : P.underlying t = some .string := by
        revert hu
        cases P.underlying t with
        | none => intro h; cases h
        | some d => cases d <;> intro h <;> first | rfl | cases h
      exact ⟨.int .i64 _, by simp [Builtin.len_, ht, run_underlying hu', goInt, ba_size], trep_int _ _ _ _⟩
    · cases h
  · obtain ⟨p, cap, rfl, -⟩ := (hx _ rfl).slice_form
    split at h
    · rename_i l he
      simp only [OR.val.injEq] at h
      obtain ⟨h1, rfl⟩ := h
      obtain ⟨e, he⟩ := Option.isSome_iff_exists.1 he
      have hu := (elemT_spec he).1
      exact ⟨.int .i64 _, by simp [Builtin.len_, ht, run_underlying hu, goInt], trep_int _ _ _ _⟩
    · cases h
  · rename_i b m q
    obtain ⟨p, rfl⟩ : ∃ p, vx = .slice p m q := by
      have h1 := hx _ rfl
      cases h1
      exact ⟨_, rfl⟩
    split at h
    · rename_i he
      simp only [OR.val.injEq] at h
      obtain ⟨h1, rfl⟩ := h
      obtain ⟨e, he⟩ := Option.isSome_iff_exists.1 he
      have hu := (elemT_spec he).1
      exact ⟨.int .i64 _, by simp [Builtin.len_, ht, run_underlying hu, goInt], trep_int _ _ _ _⟩
    · cases h
  · rename_i l
    obtain ⟨p, cap, rfl, -⟩ : ∃ p cap, vx = .slice p l.length cap ∧ l.length ≤ cap := by
      have h1 := hx _ rfl
      cases h1 with
      | fr _ _ _ _ _ h2 _ => exact h2.slice_form
    split at h
    · rename_i he
      simp only [OR.val.injEq] at h
      obtain ⟨h1, rfl⟩ := h
      obtain ⟨e, he⟩ := Option.isSome_iff_exists.1 he
      have hu := (elemT_spec he).1
      exact ⟨.int .i64 _, by simp [Builtin.len_, ht, run_underlying hu, goInt], trep_int _ _ _ _⟩
    · cases h
  · cases h

theorem mxR_sound {P : Program} {gh : Gh} {w : World} {x y : Option AV} {vx vy : Value} {ty : TypeId} {c : Prop} {z : TV} {ts : Array TypeId}
    (hx : ∀ a, x = some a → Rep gh.lim w.heap vx a) (hy : ∀ a, y = some a → Rep gh.lim w.heap vy a) :
    (mxR true x y = .val c z → c → Yl P gh w (Builtin.max_ ts ty #[vx, vy]) z) ∧ (mxR false x y = .val c z → c → Yl P gh w (Builtin.min_ ts ty #[vx, vy]) z) := by
  constructor
  · intro h hc
    unfold mxR at h
    split at h
    · obtain rfl := rep_int (hx _ rfl)
      obtain rfl := rep_int (hy _ rfl)
      simp only [OR.val.injEq] at h
      obtain ⟨h1, rfl⟩ := h
      exact ⟨.int _ _, by simp [Builtin.max_, Builtin.max2], trep_int _ _ _ _⟩
    · cases h
  · intro h hc
    unfold mxR at h
    split at h
    · obtain rfl := rep_int (hx _ rfl)
      obtain rfl := rep_int (hy _ rfl)
      simp only [OR.val.injEq] at h
      obtain ⟨h1, rfl⟩ := h
      exact ⟨.int _ _, by simp [Builtin.min_, Builtin.min2], trep_int _ _ _ _⟩
    · cases h

theorem run_isAgg {P : Program} {t : TypeId} {b : Bool} (h : aggO P t = some b) (w : World) : (isAgg t).run P w = .ok b w := by
  unfold aggO at h
  cases hd : P.underlying t with
  | none => rw [hd] at h; cases h
  | some d =>
    rw [hd] at h
    unfold isAgg
    cases d <;> simp_all [run_underlying hd]

theorem aggO_some {P : Program} {t : TypeId} {b : Bool} (h : aggO P t = some b) : (P.underlying t).isSome = true := by
  unfold aggO at h
  cases hd : P.underlying t with
  | none => rw [hd] at h; cases h
  | some d => rfl

theorem run_sizeOf {P : Program} {t : TypeId} (h : (P.info? t).isSome = true) (w : World) : (sizeOf t).run P w = .ok (esz P t) w := by
  obtain ⟨i, hi⟩ := Option.isSome_iff_exists.1 h
  simp [sizeOf, typeInfo, esz, hi]

theorem info_of_underlying {P : Program} {t : TypeId} (h : (P.underlying t).isSome = true) : (P.info? t).isSome = true := by
  unfold Program.underlying at h
  cases hi : P.info? t with
  | none => rw [hi] at h; cases h
  | some i => rfl

theorem loadR_sound {P : Program} {gh : Gh} {w : World} {t : TypeId} {cells : List AV} {c : Prop} {z : TV} (b off : Nat) (vs : List Value)
    (hr : RepL gh.lim w.heap vs cells) (hv : ∀ j u, vs[j]? = some u → cellAt w.heap b (off + j) = some u) (h : loadR P t cells = .val c z) (hc : c) : Yl P gh w (loadVar t ⟨b, off, none⟩) z := by
  unfold loadR at h
  unfold loadVar
  have hcell : ∀ j u, vs[j]? = some u → w.cell? (Addr.add ⟨b, off, none⟩ j) = some u := fun j u hu => by
    rw [Addr.add_lit, cell?_eq]; exact hv j u hu
  split at h
  · rename_i hagg
    simp only [OR.val.injEq] at h
    obtain ⟨h1, rfl⟩ := h
    subst h1
    have hl : (vs.take (esz P t)).length = esz P t := by rw [List.length_take, hr.1]; omega
    refine ⟨.agg (vs.take (esz P t)).toArray, ?_, trep_v (Rep.agg_iff.2 ⟨_, rfl, by simpa using hr.take _⟩)⟩
    have := run_loadCells_list (P := P) w ⟨b, off, none⟩ (vs.take (esz P t)) (fun j u hu => hcell j u (by
      rw [List.getElem?_take] at hu
      split at hu
      · exact hu
      · cases hu))
    rw [hl] at this
    simp [run_isAgg hagg, run_sizeOf (info_of_underlying (aggO_some hagg)), this]
  · rename_i hagg
    split at h
    · rename_i x hx0
      simp only [OR.val.injEq] at h
      obtain ⟨h1, rfl⟩ := h
      obtain ⟨v, hv0, hrv⟩ := hr.get hx0
      have h0 := hcell 0 v hv0
      rw [Addr.add_zero'] at h0
      refine ⟨v, ?_, trep_v hrv⟩
      simp [run_isAgg hagg, h0]
    · cases h
  · cases h

theorem foff_spec {P : Program} {t f o : Nat} (h : foff P t f = some o) : ∃ fs x, P.underlying t = some (.struct fs) ∧ fs[f]? = some x ∧ esz P x.type ≠ 0 ∧ x.offset = o ∧ ftyp P t f = x.type := by
  unfold foff at h
  split at h
  · rename_i fs hu
    cases hx : fs[f]? with
    | none => rw [hx] at h; cases h
    | some x =>
      rw [hx] at h
      simp only [Option.bind_some] at h
      split at h
      · cases h
      · rename_i hne
        injection h with h
        exact ⟨fs, x, hu, hx, hne, h, by simp [ftyp, hu, hx]⟩
  · cases h

theorem run_fieldAt {P : Program} {t f o b off : Nat} (h : foff P t f = some o) (w : World) : (Instr.fieldAt t (.pointer (some ⟨b, off, none⟩)) f).run P w = .ok (.pointer (some ⟨b, off + o, none⟩)) w := by
  obtain ⟨fs, x, hu, hx, hne, ho, -⟩ := foff_spec h
  have hi : (P.info? x.type).isSome = true := by
    cases hq : P.info? x.type with
    | none => exact absurd (by simp [esz, hq]) hne
    | some i => rfl
  unfold Instr.fieldAt
  simp [run_underlying hu, hx, Instr.sureAddr, fieldPlace, run_sizeOf hi, hne, Addr.add_lit, ho]

theorem run_indexAt {P : Program} {t e : Nat} (he : elemT P t = some e) {b off n cap : Nat} {k : IntKind} {i : Int} (h0 : 0 ≤ i) (h1 : i < n) (w : World) :
    (Instr.indexAt t (.slice (some ⟨b, off, none⟩) n cap) (.int k i)).run P w = .ok (.pointer (some ⟨b, off + i.toNat * esz P e, none⟩)) w := by
  obtain ⟨hu, hi⟩ := elemT_spec he
  unfold Instr.indexAt
  simp [asIntOf, run_underlying hu, h0, h1, run_sizeOf hi, Addr.add_lit]

theorem extract_str (l : List UInt8) (lo hi : Nat) (h : lo ≤ hi) (h2 : hi ≤ l.length) : (⟨l.toArray⟩ : ByteArray).extract lo hi = ⟨((l.take hi).drop lo).toArray⟩ := by
  apply ByteArray.ext
  rw [ByteArray.data_extract]
  simp [List.extract_eq_take_drop, List.drop_take]

end Go.Pv
end
