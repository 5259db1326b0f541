import Derived.Test.YtocmdbojefgpbaaGreatDoorPvOc
set_option linter.all false
section
/- append(out, x) whose new element is put in behind it: the last four operations of a region that draws its order. -/
namespace Go.Pv
open Go

section
variable {cx : Cx} {gh : Gh} {σ : AS} {a : Act} {w : World}

theorem RR.pushed (r : RR cx gh σ a w) (hgy : cx.gl.y = none) (g e : Nat) {l ys : List (List AV)} (huse : σ.uses g e) (hsv : Rep gh.lim w.heap (gh.gv g) (.slice l)) (hrowsl : Rows (esz cx.P e) l) (hrows : Rows (esz cx.P e) ys)
    {xs news : List Value} {v' : Value} {w' : World} (hnr : RepL gh.lim w.heap news ys.flatten) (hown : w.ownsRow cx.B e (esz cx.P e) (gh.gv g) l.length xs) (hown' : w'.ownsRow cx.B e (esz cx.P e) v' (l.length + ys.length) (xs ++ news))
    (hf : Frm w.heap.size (fun b => (gh.gv g).ownBlock = some b) w w') (hb : ∀ b, v'.ownBlock = some b → (gh.gv g).ownBlock = some b ∨ w.heap.size ≤ b)
    (hk : ∀ b o u, (gh.gv g).ownBlock = some b → o < l.length * esz cx.P e → cellAt w.heap b o = some u → cellAt w'.heap b o = some u) (d : Option Nat) (hd : ∀ t, d = some t → t < σ.n ∧ t ∉ σ.fx) :
    ∃ gh', RR cx gh' ((σ.purge g).put d (.v (.slice (l ++ ys)) (some (g, e)))) (a.put d v') w' ∧ gh'.gv g = v' := by
  obtain ⟨gh', r2, hg', hkeep, hlim', hap', hal'⟩ := r.append hgy g e huse v' (l.length + ys.length) (xs ++ news) hown' hf hb (fun n xs' hn => by
    have hnl' : n = l.length := ownsRow_congr hn hown
    subst hnl'
    exact ⟨by omega, hk⟩)
  have hrep : Rep gh'.lim w'.heap v' (.slice (l ++ ys)) := by
    have hxs : RepL gh'.lim w'.heap xs l.flatten := by
      by_cases hl0 : l = []
      · subst hl0
        have : xs = [] := List.eq_nil_of_length_eq_zero (by rw [hown.1]; simp)
        subst this
        exact RepL.nil _ _
      · have hsr := hsv
        rcases hown.2 with ⟨h0, h1⟩ | ⟨g', cap', cur, h0, _, hg, _, _, hcs, htake⟩
        · exact absurd (List.eq_nil_of_length_eq_zero h1) hl0
        · rw [h0] at hsr
          obtain ⟨b, off, vs, hp, hvl, hvr, hvc⟩ := hsr.slice_cells (sz := esz cx.P e) (fun y hy => (hrowsl y hy).1) hl0
          simp only [Option.some.injEq, Addr.mk.injEq, and_true] at hp
          obtain ⟨rfl, rfl⟩ := hp
          have hvx : vs = xs := by
            apply List.ext_getElem?
            intro j
            rcases Nat.lt_or_ge j vs.length with hj | hj
            · have h1 := (hvc j vs[j] (by simp [hj])).2
              unfold cellAt at h1
              rw [hg, Nat.zero_add] at h1
              rw [← htake, List.getElem?_take, if_pos (by rw [hvl] at hj; exact hj)]
              simp only [] at h1
              rw [List.getElem?_eq_getElem hj]
              simpa using h1.symm
            · rw [List.getElem?_eq_none hj, List.getElem?_eq_none (by rw [hown.1, ← hvl]; exact hj)]
          subst hvx
          exact hvr.mono hkeep
    have hall : RepL gh'.lim w'.heap (xs ++ news) (l ++ ys).flatten := by
      rw [List.flatten_append]
      exact hxs.append (hnr.mono hkeep)
    rcases hown'.2 with ⟨h0, h1⟩ | ⟨g', cap', cur, h0, _, hg, hnc, _, hcs, htake⟩
    · have hl0 : l = [] := List.eq_nil_of_length_eq_zero (by omega)
      have hy0 : ys = [] := List.eq_nil_of_length_eq_zero (by omega)
      subst hl0; subst hy0
      rw [h0]
      exact .slice0 _ _
    · have hlimg := hlim' g' (by rw [h0]; rfl)
      rw [h0]
      have := Rep.slice_mk (lim := gh'.lim) (h := w'.heap) (b := g') (off := 0) (cap := cap') (sz := esz cx.P e) (l := l ++ ys) (vs := xs ++ news) (by simp; omega) (fun y hy => by
        rcases List.mem_append.1 hy with hy | hy
        · exact (hrowsl y hy).1
        · exact (hrows y hy).1) hall (fun j u hu => by
        have hj : j < (l.length + ys.length) * esz cx.P e := by rw [← hown'.1]; exact (List.getElem?_eq_some_iff.1 hu).1
        refine ⟨fun n hn => ?_, ?_⟩
        · rw [hlimg] at hn
          injection hn with hn
          rw [Nat.zero_add, ← hn]; exact hj
        · unfold cellAt
          rw [hg, Nat.zero_add]
          simp only []
          rw [← htake, List.getElem?_take, if_pos hj] at hu
          simpa using hu)
      rwa [List.length_append] at this
  have hu0 : ∀ e', ¬ (σ.purge g).uses g e' := fun e' h => (AS.uses_purge h).2 rfl
  have r3 := r2.putTag d (fun t ht => hd t ht) g e (x := .slice (l ++ ys)) (by rw [hg']; exact hrep) (by
    rw [hg']
    exact ⟨⟨l.length + ys.length, xs ++ news, hown', hlim'⟩, fun b hb => hap' b hb, fun g2 e2 h2 _ b hb => hal' g2 e2 h2 b hb⟩) (fun e' h => absurd h (hu0 e'))
  rw [hg'] at r3
  exact ⟨gh', r3, hg'⟩
end

section
variable {P : Program} {ops : Array Oper} {Q : Exit → Act → World → Prop} {ro : Option Nat} {n : Nat}

end

structure PushOps (ops : Array Oper) (listed : Array Bool) (iA iI iS iB T e s y j x q d p : Nat) : Prop where
  A : ∃ o, ops[iA]? = some o ∧ o.guard = none ∧ o.dst = some d ∧ o.op = .call { callee := .builtin .append, args := #[.tmp s, .tmp y], argTypes := #[T, T] }
  I : ∃ o, ops[iI]? = some o ∧ o.guard = none ∧ o.dst = some p ∧ o.op = .indexAddr T (.tmp d) (.tmp j)
  S : ∃ o, ops[iS]? = some o ∧ o.guard = none ∧ o.dst = none ∧ o.op = .store e (.tmp p) (.tmp x)
  B : ∃ o, ops[iB]? = some o ∧ o.guard = none ∧ o.dst = none ∧ o.op = .store T (.tmp q) (.tmp d)
  r0 : Region.ready .any ops listed = [iA]
  r1 : Region.ready .any ops (listed.setIfInBounds iA true) = [iI, iB]
  r2 : Region.ready .any ops ((listed.setIfInBounds iA true).setIfInBounds iI true) = [iS, iB]
  r3 : Region.ready .any ops (((listed.setIfInBounds iA true).setIfInBounds iI true).setIfInBounds iS true) = [iB]
  r4 : Region.ready .any ops ((((listed.setIfInBounds iA true).setIfInBounds iI true).setIfInBounds iS true).setIfInBounds iB true) = []
  r5 : Region.ready .any ops (((listed.setIfInBounds iA true).setIfInBounds iI true).setIfInBounds iB true) = [iS]
  r6 : Region.ready .any ops ((((listed.setIfInBounds iA true).setIfInBounds iI true).setIfInBounds iB true).setIfInBounds iS true) = []
  r7 : Region.ready .any ops ((listed.setIfInBounds iA true).setIfInBounds iB true) = [iI]
  r8 : Region.ready .any ops (((listed.setIfInBounds iA true).setIfInBounds iB true).setIfInBounds iI true) = [iS]
  r9 : Region.ready .any ops ((((listed.setIfInBounds iA true).setIfInBounds iB true).setIfInBounds iI true).setIfInBounds iS true) = []
  ne : d ≠ p ∧ j ≠ d ∧ x ≠ d ∧ q ≠ d ∧ x ≠ p ∧ q ≠ p

def pushed (σ : AS) (g e d p k : Nat) (l : List (List AV)) (x : List AV) (cells : List AV) : AS :=
  { ((σ.purge g).put (some d) (.v (.slice (l ++ [x])) (some (g, e)))).put (some p) .un with bx := (k, splice cells 0 [.slice (l ++ [x])]) :: σ.bx, tb := tbOf k 0 (some (g, e)) ++ clr (σ.purge g).tb k 0 1 }

attribute [simp] pushed

theorem ANY_one {P : Program} {gl : Gl} {ops : Array Oper} {Q : Exit → AS → Prop} {fuel : Nat} {listed : Array Bool} {σ : AS} (i : Nat) {o : Oper} (hr : Region.ready .any ops listed = [i]) (ho : ops[i]? = some o) (h : ∀ K : AS → Prop, (∀ s, ANY P gl ops Q fuel (listed.setIfInBounds i true) s → K s) → RV P gl ops [o] σ K) :
    ANY P gl ops Q (fuel + 1) listed σ := ANY_ready [i] hr (by simp) (AnyAll.cons ho h AnyAll.nil)
end Go.Pv
end

section
/- A box that nobody will write any more is frozen: who holds its place may be handed out. -/
namespace Go.Pv
open Go

def TV.frz (k : Nat) (cells : List AV) : TV → TV
  | .lp k' o => if k' = k then .v (.ro (cells.drop o)) none else .lp k' o
  | x => x
def AS.frz (σ : AS) (k : Nat) (cells : List AV) : AS := { σ with tm := σ.tm.map fun p => (p.1, p.2.frz k cells), bx := σ.bx.filter fun p => !(p.1 == k) }

theorem look_map_frz {k t : Nat} {cells : List AV} : ∀ (tm : List (Nat × TV)), look t (tm.map fun p => (p.1, p.2.frz k cells)) = (look t tm).map (·.frz k cells)
  | [] => rfl
  | (j, x) :: r => by
    simp only [List.map_cons, look]
    split
    · rfl
    · exact look_map_frz r

theorem RR.frz {cx : Cx} {gh : Gh} {σ : AS} {a : Act} {w : World} (r : RR cx gh σ a w) (hgy : cx.gl.y = none) {k : Nat} {cells : List AV} (hk : look k σ.bx = some cells) (htb : (σ.tb.all fun q => !(q.1 == k)) = true) (hcl : noClP k σ.tm) :
    ∃ gh', RR cx gh' (σ.frz k cells) a w := by
  obtain ⟨hB, hlk, cs, e, hcs, hrep⟩ := r.boxes k cells hk
  have hks : (look k σ.bx).isSome = true := by simp [hk]
  let lim' : Lim := fun b => if b = gh.bl k then .all else gh.lim b
  have hl : ∀ {b}, b ≠ gh.bl k → lim' b = gh.lim b := fun h => if_neg h
  have hkeep : Keep gh.lim w.heap lim' w.heap := by
    refine ⟨?_, fun b r _ hr => by
      by_cases he : b = gh.bl k
      · subst he; rw [hlk] at hr; cases hr
      · rw [hl he]; exact ⟨hr, rfl⟩⟩
    rintro b o hb ho
    refine ⟨hb, ?_, rfl⟩
    intro n hn
    by_cases he : b = gh.bl k
    · simp only [lim', if_pos he] at hn; cases hn
    · rw [hl he] at hn; exact ho n hn
  have hbx : ∀ k', look k' (σ.frz k cells).bx = if k' = k then none else look k' σ.bx := fun k' => by
    by_cases he : k' = k
    · subst he; rw [if_pos rfl]; exact look_filter_eq _
    · rw [if_neg he]; exact look_filter_ne he _
  have hne : ∀ {k'}, (look k' (σ.frz k cells).bx).isSome = true → k' ≠ k ∧ (look k' σ.bx).isSome = true := by
    intro k' h
    rw [hbx] at h
    split at h
    · cases h
    · rename_i he; exact ⟨he, h⟩
  have hblk : ∀ {k'}, k' ≠ k → (look k' σ.bx).isSome = true → gh.bl k' ≠ gh.bl k := fun he h hh => he (r.inj _ _ h hks hh)
  have hu : ∀ {g e}, AS.uses (σ.frz k cells) g e → σ.uses g e := by
    rintro g e (⟨t, x, h⟩ | h)
    · rw [show (σ.frz k cells).tm = σ.tm.map fun p => (p.1, p.2.frz k cells) from rfl, look_map_frz] at h
      obtain ⟨y, hy, he⟩ := Option.map_eq_some_iff.1 h
      cases y with
      | lp k' o => simp only [TV.frz] at he; split at he <;> simp at he
      | v z g' => simp only [TV.frz] at he; rw [he] at hy; exact .inl ⟨t, x, hy⟩
      | un => cases he
      | bld l ns => cases he
      | it k9 => cases he
      | cl f ks => cases he
    · exact .inr h
  refine ⟨{ gh with lim := lim' }, { frm := r.frm, base := r.base, limB := fun b hb => ?_, size := r.size, ex := (r.ex.step hkeep (Oth.refl w) (.inl hgy)).sub (fun t q hq => ?_) rfl rfl, gl := fun g c h => (r.gl g c h).mono hkeep, tmps := fun t x hx => ?_, boxes := fun k' c hc => ?_, inj := fun k1 k2 h1 h2 => r.inj k1 k2 (hne h1).2 (hne h2).2, shs := fun b c hb => ?_, apart := fun b k' h1 h2 => r.apart b k' h1 (hne h2).2, tbs := fun k' j g e hq => ?_, own := fun g e h => ?_, alone := fun g e g' e' h h' => r.alone g e g' e' (hu h) (hu h') }⟩
  · exact (hl (by omega)).trans (r.limB b hb)
  · rw [show (σ.frz k cells).tm = σ.tm.map fun p => (p.1, p.2.frz k cells) from rfl, look_map_frz] at hq
    obtain ⟨y, hy, he⟩ := Option.map_eq_some_iff.1 hq
    cases y with
    | lp k' o => simp only [TV.frz] at he; split at he <;> cases he
    | it k9 => simp only [TV.frz] at he; rw [he] at hy; exact hy
    | v z g' => cases he
    | un => cases he
    | bld l ns => cases he
    | cl f ks => cases he
  · rw [show (σ.frz k cells).tm = σ.tm.map fun p => (p.1, p.2.frz k cells) from rfl, look_map_frz] at hx
    obtain ⟨y, hy, rfl⟩ := Option.map_eq_some_iff.1 hx
    have h1 := r.tmps t y hy
    cases y with
    | lp k' o =>
      simp only [TV.frz]
      by_cases he : k' = k
      · subst he
        rw [if_pos rfl]
        have h2 : a.tmps.getD t undef = .pointer (some ⟨gh.bl k', o, none⟩) := h1.1
        refine ⟨⟨?_, by simp⟩, fun k2 off h => by cases h⟩
        rw [h2]
        have hrep' := hrep.mono hkeep
        refine .ro _ _ _ (fun j => cs.toList.getD (o + j) undef) (fun j hj => ⟨fun n hn => ?_, ?_⟩) (fun j x hj => ?_)
        · simp [lim'] at hn
        · have hlt : o + j < cs.size := by
            have h5 := hrep.1
            rw [Array.length_toList] at h5
            rw [List.length_drop] at hj
            omega
          unfold cellAt
          rw [hcs]
          simp [hlt]
        · rw [List.getElem?_drop] at hj
          exact hrep'.2 (o + j) x hj
      · rw [if_neg he]
        refine ⟨h1.1, fun k2 off h => ?_⟩
        injection h with e1 e2; subst e1
        rw [hbx, if_neg he]; exact h1.2 k' o rfl
    | v z g' => exact ⟨⟨h1.1.1.mono hkeep, h1.1.2⟩, fun k2 off h => by cases h⟩
    | un => exact ⟨h1.1, fun k2 off h => by cases h⟩
    | bld l ns => exact ⟨⟨h1.1.1.mono hkeep, h1.1.2⟩, fun k2 off h => by cases h⟩
    | it k9 => exact ⟨h1.1, fun k2 off h => by cases h⟩
    | cl f ks => exact ⟨h1.1, fun k2 off h => by cases h⟩
  · have hn := hne (k' := k') (by rw [hc]; rfl)
    rw [hbx, if_neg hn.1] at hc
    obtain ⟨h1, h2, cs', e', h3, h4⟩ := r.boxes k' c hc
    exact ⟨h1, (hl (hblk hn.1 hn.2)).trans h2, cs', e', h3, h4.mono hkeep⟩
  · obtain ⟨h1, h2, cs', e', h3, h4⟩ := r.shs b c hb
    have hbn : b ≠ gh.bl k := fun he => r.apart b k (by rw [show look b σ.sh = some c from hb]; rfl) hks he.symm
    exact ⟨h1, (hl hbn).trans h2, cs', e', h3, h4.mono hkeep⟩
  · have hq' : (k', j, g, e) ∈ σ.tb := hq
    have h1 := r.tbs k' j g e hq'
    have hkk : k' ≠ k := by
      have := List.all_eq_true.1 htb _ hq'
      simpa using this
    exact ⟨by rw [hbx, if_neg hkk]; exact h1.1, h1.2⟩
  · obtain ⟨⟨m, xs, h1, h2⟩, h3⟩ := r.own g e (hu h)
    refine ⟨⟨m, xs, h1, fun b hb => (hl (fun he => (h3 b hb).1 k hks he.symm)).trans (h2 b hb)⟩, fun b hb => ⟨fun k' hk' => (h3 b hb).1 k' (hne hk').2, (h3 b hb).2⟩⟩

attribute [simp] TV.frz AS.frz
end Go.Pv
end

section
/- The walk by simp: what is evaluated, in which form. -/
namespace Go.Pv
open Go

def RVn (P : Program) (gl : Gl) (ops : Array Oper) (d : Bool) (g : Option Bool) (r : OR) (o : Oper) (rest : List Oper) (σ : AS) (K : AS → Prop) : Prop :=
  d = true ∧ match g with
    | some true => orV P gl o σ (fun s => RV P gl ops rest s K) r
    | some false => RV P gl ops rest (σ.put o.dst (.v (.tup []) none)) K
    | none => False

def RVdn (P : Program) (gl : Gl) (ops : Array Oper) (d : Bool) (g : Option Bool) (r : OR) (o : Oper) (rest : List Oper) (σ : AS) (K : AS → Prop) : Prop :=
  d = true ∧ match g with
    | some true => orVd P gl o σ (fun s => RVd P gl ops rest s K) r
    | some false => RVd P gl ops rest (σ.put o.dst (.v (.tup []) none)) K
    | none => False

section
variable {P : Program} {gl : Gl} {ops : Array Oper} {o : Oper} {rest : List Oper} {σ : AS} {K : AS → Prop}

theorem RV_nil : RV P gl ops [] σ K = K σ := rfl
theorem RV_cons : RV P gl ops (o :: rest) σ K = RVn P gl ops (dstOk P o σ) (guardB ops o σ) (opR P gl σ o) o rest σ K := rfl
theorem RVd_nil : RVd P gl ops [] σ K = K σ := rfl
theorem RVd_cons : RVd P gl ops (o :: rest) σ K = RVdn P gl ops (dstOk P o σ) (guardB ops o σ) (opR P gl σ o) o rest σ K := rfl

theorem RVn_val (c : Prop) (x : TV) : RVn P gl ops true (some true) (.val c x) o rest σ K = (c ∧ RV P gl ops rest (σ.put o.dst x) K) := by simp [RVn, orV]
theorem RVn_eff (c : Prop) (s : AS) : RVn P gl ops true (some true) (.eff c s) o rest σ K = (c ∧ gl.y = none ∧ RV P gl ops rest s K) := by simp [RVn, orV]
theorem RVn_skip (r : OR) : RVn P gl ops true (some false) r o rest σ K = RV P gl ops rest (σ.put o.dst (.v (.tup []) none)) K := by simp [RVn]
theorem RVn_call {f : FuncId} {args : List AV} {r : AV} (h : Valid P gl f args r) (k : RV P gl ops rest (σ.put o.dst (.v r none)) K) (hy : gl.y = none := by rfl) : RVn P gl ops true (some true) (.call f args) o rest σ K := by
  unfold RVn
  simp only [orV, true_and]
  exact callV_pure hy r h k
theorem RVdn_val (c : Prop) (x : TV) : RVdn P gl ops true (some true) (.val c x) o rest σ K = (c ∧ RVd P gl ops rest (σ.put o.dst x) K) := by simp [RVdn, orVd]
theorem RVdn_eff (c : Prop) (s : AS) : RVdn P gl ops true (some true) (.eff c s) o rest σ K = (quietOp o = false ∧ (c ∧ gl.y = none) ∧ RVd P gl ops rest s K) := by simp [RVdn, orVd]
theorem RVdn_skip (r : OR) : RVdn P gl ops true (some false) r o rest σ K = RVd P gl ops rest (σ.put o.dst (.v (.tup []) none)) K := by simp [RVdn]
theorem RVdn_call {f : FuncId} {args : List AV} {r : AV} (h : Valid P gl f args r) (k : RVd P gl ops rest (σ.put o.dst (.v r none)) K) (hy : gl.y = none := by rfl) : RVdn P gl ops true (some true) (.call f args) o rest σ K := ⟨rfl, r, ⟨hy, h⟩, k⟩
end

attribute [simp] RV_nil RV_cons RVd_nil RVd_cons RVn_val RVn_eff RVn_skip RVdn_val RVdn_eff RVdn_skip
attribute [simp] dstOk guardB opR ev AS.get AS.put look cv cv1 cvL nilSR isNilS TV.av isNil assignR fieldAddrR indexAddrR loadOpR indexR nilCheckR convertR buildR makeFuncR makeIfaceR extractR fieldR boxR allocR evN ownRes tagOf nsOf storeR rowsOf buildSliceR appendR callR orR
attribute [simp] TV.strip TV.nit froz frozR rangeR nextR TV.bareT AS.bare
theorem noClP_true {k : Nat} {tm : List (Nat × TV)} (h : noCl k tm = true) : noClP k tm ↔ True := ⟨fun _ => trivial, fun _ => noClP_of h⟩
section
variable (k t : Nat) (r : List (Nat × TV))
theorem noCl_nil : noCl k [] = true ↔ True := by constructor <;> intro _ <;> first | trivial | rfl
theorem noCl_un : noCl k ((t, .un) :: r) = true ↔ noCl k r = true := by constructor <;> intro h <;> exact h
theorem noCl_v (x : AV) (g : Option (Nat × Nat)) : noCl k ((t, .v x g) :: r) = true ↔ noCl k r = true := by constructor <;> intro h <;> exact h
theorem noCl_bld (x : List AV) (g : List Nat) : noCl k ((t, .bld x g) :: r) = true ↔ noCl k r = true := by constructor <;> intro h <;> exact h
theorem noCl_it (x : ItK) : noCl k ((t, .it x) :: r) = true ↔ noCl k r = true := by constructor <;> intro h <;> exact h
theorem noCl_lp (x g : Nat) : noCl k ((t, .lp x g) :: r) = true ↔ noCl k r = true := by constructor <;> intro h <;> exact h
theorem noCl_cl (f : FuncId) (ks : List Nat) : noCl k ((t, .cl f ks) :: r) = true ↔ ks.contains k = false ∧ noCl k r = true := by simp only [noCl, Bool.and_eq_true, Bool.not_eq_true']
end
attribute [simp] noGotoA entryB mkTmB fxs keepB stayB stayAll TV.stay
attribute [simp] noCl_nil noCl_un noCl_v noCl_bld noCl_it noCl_lp noCl_cl lps makeClR noClP_true
attribute [simp] rowNums strOp intOp binR eqR eqV eqK eqCells isC pickR unR flat avs fillA nilsLeft loadR sliceR lenR mxR AS.usesB gid AS.openB retag tagAt clr tbOf AS.purge TV.untag splice quietOp AS.keep pick lpOk entry mkTm thenA inBlockA done resOk resOne resAll

theorem inR_i64 (n : Int) : inR .i64 n ↔ -9223372036854775808 ≤ n ∧ n ≤ 9223372036854775807 := by unfold inR; rw [IntKind.wrap_i64]; omega
theorem inR_i32 (n : Int) : inR .i32 n ↔ -2147483648 ≤ n ∧ n ≤ 2147483647 := by unfold inR; rw [IntKind.wrap_i32]; omega
theorem inR_u8 (n : Int) : inR .u8 n ↔ 0 ≤ n ∧ n ≤ 255 := by unfold inR; rw [IntKind.wrap_u8]; omega
attribute [simp] inR_i64 inR_i32 inR_u8

theorem Rows_nil (sz : Nat) : Rows sz [] := fun r h => by cases h
theorem Rows_cons (sz : Nat) (r : List AV) (l : List (List AV)) : Rows sz (r :: l) ↔ (r.length = sz ∧ r.all AV.one = true) ∧ Rows sz l := by simp [Rows]
theorem Rows_append (sz : Nat) (a b : List (List AV)) : Rows sz (a ++ b) ↔ Rows sz a ∧ Rows sz b := by simp only [Rows, List.mem_append]; exact ⟨fun h => ⟨fun r hr => h r (.inl hr), fun r hr => h r (.inr hr)⟩, fun h r hr => hr.elim (h.1 r) (h.2 r)⟩
theorem Rows_map {α : Type} (sz : Nat) (f : α → List AV) (h : ∀ x, (f x).length = sz ∧ (f x).all AV.one = true) (l : List α) : Rows sz (l.map f) := fun r hr => by
  obtain ⟨x, _, rfl⟩ := List.mem_map.1 hr; exact h x
attribute [simp] Rows_nil Rows_cons Rows_append
attribute [simp] AV.one

theorem row_map {α : Type} (f : α → List AV) (l : List α) (i : Nat) (h : i < l.length) : row (l.map f) i = f l[i] := by simp [row, h]

attribute [irreducible] RVn RVdn
end Go.Pv
end
