import Derived.Test.YtdifpfehijnmiaaGreatDoorPvOc
set_option linter.all false
section
/- append(out, x) whose new element is put in behind it: the last four operations of a region that draws its order. -/
namespace Go.Pv
open Go

theorem setRow_comm (w : World) {g k : Nat} (h : g ≠ k) (a b : Array Value) : (w.setRow g a).setRow k b = (w.setRow k b).setRow g a := by
  unfold World.setRow
  congr 1
  apply Array.ext_getElem?
  intro j
  simp only [Array.getElem?_modify]
  by_cases h1 : g = j
  · subst h1
    simp [Ne.symm h]
  · simp [h1]

section
variable {cx : Cx} {gh : Gh} {σ : AS} {a : Act} {w : World}

theorem RR.pushed (r : RR cx gh σ a w) (hgy : cx.gl.y = none) (g e : Nat) {l ys : List (List AV)} (huse : σ.uses g e) (hsv : Rep gh.lim w.heap (gh.gv g) (.slice l)) (hrowsl : Rows (esz cx.P e) l) (hrows : Rows (esz cx.P e) ys)
    {xs news : List Value} {v' : Value} {w' : World} (hnr : RepL gh.lim w.heap news ys.flatten) (hown : w.ownsRow cx.B e (esz cx.P e) (gh.gv g) l.length xs) (hown' : w'.ownsRow cx.B e (esz cx.P e) v' (l.length + ys.length) (xs ++ news))
    (hf : Frm w.heap.size (fun b => (gh.gv g).ownBlock = some b) w w') (hb : ∀ b, v'.ownBlock = some b → (gh.gv g).ownBlock = some b ∨ w.heap.size ≤ b)
    (hk : ∀ b o u, (gh.gv g).ownBlock = some b → o < l.length * esz cx.P e → cellAt w.heap b o = some u → cellAt w'.heap b o = some u) (d : Option Nat) (hd : ∀ t, d = some t → t < σ.n ∧ t ∉ σ.fx) :
    ∃ gh', RR cx gh' ((σ.purge g).put d (.v (.slice (l ++ ys)) (some (g, e)))) (a.put d v') w' ∧ gh'.gv g = v' := by
  obtain ⟨gh', r2, hg', hkeep, hlim', hap', hal'⟩ := r.append hgy g e huse v' (l.length + ys.length) (xs ++ news) hown' hf hb (fun n xs' hn => by
    have hnl' : n = l.length := ownsRow_congr hn hown
    subst hnl'
    exact ⟨by omega, hk⟩)
  have hrep : Rep gh'.lim w'.heap v' (.slice (l ++ ys)) := by
    have hxs : RepL gh'.lim w'.heap xs l.flatten := by
      by_cases hl0 : l = []
      · subst hl0
        have : xs = [] := List.eq_nil_of_length_eq_zero (by rw [hown.1]; simp)
        subst this
        exact RepL.nil _ _
      · have hsr := hsv
        rcases hown.2 with ⟨h0, h1⟩ | ⟨g', cap', cur, h0, _, hg, _, _, hcs, htake⟩
        · exact absurd (List.eq_nil_of_length_eq_zero h1) hl0
        · rw [h0] at hsr
          obtain ⟨b, off, vs, hp, hvl, hvr, hvc⟩ := hsr.slice_cells (sz := esz cx.P e) (fun y hy => (hrowsl y hy).1) hl0
          simp only [Option.some.injEq, Addr.mk.injEq, and_true] at hp
          obtain ⟨rfl, rfl⟩ := hp
          have hvx : vs = xs := by
            apply List.ext_getElem?
            intro j
            rcases Nat.lt_or_ge j vs.length with hj | hj
            · have h1 := (hvc j vs[j] (by simp [hj])).2
              unfold cellAt at h1
              rw [hg, Nat.zero_add] at h1
              rw [← htake, List.getElem?_take, if_pos (by rw [hvl] at hj; exact hj)]
              simp only [] at h1
              rw [List.getElem?_eq_getElem hj]
              simpa using h1.symm
            · rw [List.getElem?_eq_none hj, List.getElem?_eq_none (by rw [hown.1, ← hvl]; exact hj)]
          subst hvx
          exact hvr.mono hkeep
    have hall : RepL gh'.lim w'.heap (xs ++ news) (l ++ ys).flatten := by
      rw [List.flatten_append]
      exact hxs.append (hnr.mono hkeep)
    rcases hown'.2 with ⟨h0, h1⟩ | ⟨g', cap', cur, h0, _, hg, hnc, _, hcs, htake⟩
    · have hl0 : l = [] := List.eq_nil_of_length_eq_zero (by omega)
      have hy0 : ys = [] := List.eq_nil_of_length_eq_zero (by omega)
      subst hl0; subst hy0
      rw [h0]
      exact .slice0 _ _
    · have hlimg := hlim' g' (by rw [h0]; rfl)
      rw [h0]
      have := Rep.slice_mk (lim := gh'.lim) (h := w'.heap) (b := g') (off := 0) (cap := cap') (sz := esz cx.P e) (l := l ++ ys) (vs := xs ++ news) (by simp; omega) (fun y hy => by
        rcases List.mem_append.1 hy with hy | hy
        · exact (hrowsl y hy).1
        · exact (hrows y hy).1) hall (fun j u hu => by
        have hj : j < (l.length + ys.length) * esz cx.P e := by rw [← hown'.1]; exact (List.getElem?_eq_some_iff.1 hu).1
        refine ⟨fun n hn => ?_, ?_⟩
        · rw [hlimg] at hn
          injection hn with hn
          rw [Nat.zero_add, ← hn]; exact hj
        · unfold cellAt
          rw [hg, Nat.zero_add]
          simp only []
          rw [← htake, List.getElem?_take, if_pos hj] at hu
          simpa using hu)
      rwa [List.length_append] at this
  have hu0 : ∀ e', ¬ (σ.purge g).uses g e' := fun e' h => (AS.uses_purge h).2 rfl
  have r3 := r2.putTag d (fun t ht => hd t ht) g e (x := .slice (l ++ ys)) (by rw [hg']; exact hrep) (by
    rw [hg']
    exact ⟨⟨l.length + ys.length, xs ++ news, hown', hlim'⟩, fun b hb => hap' b hb, fun g2 e2 h2 _ b hb => hal' g2 e2 h2 b hb⟩) (fun e' h => absurd h (hu0 e'))
  rw [hg'] at r3
  exact ⟨gh', r3, hg'⟩
end

section
variable {P : Program} {ops : Array Oper} {Q : Exit → Act → World → Prop} {ro : Option Nat} {n : Nat}

theorem wpOpIn_run {i : Nat} {o : Oper} {K : Act → World → Prop} {a : Act} {w w' : World} {v : Value} (ho : ops[i]? = some o) (hg : o.guard = none) (hnd : ∀ c, o.op ≠ .defer c) (hrun : (execOp a.eval o).run P w = .ok (.value v) w') (hk : K (a.put o.dst v) w') :
    wpOpIn (Fw ro) n P ops Q i K a w := by
  unfold wpOpIn
  simp only [ho]
  have hw : Region.wanted o (yielded ops a.tmps) = true := by simp [Region.wanted, hg]
  rw [hw]
  simp only [if_true]
  refine ⟨fun _ _ => trivial, ?_⟩
  rw [Oper.semAt_eq _ _ _ hnd, hrun]
  exact hk
theorem wpOpIn_skip {i : Nat} {o : Oper} {K : Act → World → Prop} {a : Act} {w w' : World} (ho : ops[i]? = some o) (hg : o.guard = none) (hnd : ∀ c, o.op ≠ .defer c) (hrun : (execOp a.eval o).run P w = .ok .skip w') (hk : K (a.put o.dst undef) w') :
    wpOpIn (Fw ro) n P ops Q i K a w := by
  unfold wpOpIn
  simp only [ho]
  have hw : Region.wanted o (yielded ops a.tmps) = true := by simp [Region.wanted, hg]
  rw [hw]
  simp only [if_true]
  refine ⟨fun _ _ => trivial, ?_⟩
  rw [Oper.semAt_eq _ _ _ hnd, hrun]
  exact hk
end

structure PushOps (ops : Array Oper) (listed : Array Bool) (iA iI iS iB T e s y j x q d p : Nat) : Prop where
  A : ∃ o, ops[iA]? = some o ∧ o.guard = none ∧ o.dst = some d ∧ o.op = .call { callee := .builtin .append, args := #[.tmp s, .tmp y], argTypes := #[T, T] }
  I : ∃ o, ops[iI]? = some o ∧ o.guard = none ∧ o.dst = some p ∧ o.op = .indexAddr T (.tmp d) (.tmp j)
  S : ∃ o, ops[iS]? = some o ∧ o.guard = none ∧ o.dst = none ∧ o.op = .store e (.tmp p) (.tmp x)
  B : ∃ o, ops[iB]? = some o ∧ o.guard = none ∧ o.dst = none ∧ o.op = .store T (.tmp q) (.tmp d)
  r0 : Region.ready .any ops listed = [iA]
  r1 : Region.ready .any ops (listed.setIfInBounds iA true) = [iI, iB]
  r2 : Region.ready .any ops ((listed.setIfInBounds iA true).setIfInBounds iI true) = [iS, iB]
  r3 : Region.ready .any ops (((listed.setIfInBounds iA true).setIfInBounds iI true).setIfInBounds iS true) = [iB]
  r4 : Region.ready .any ops ((((listed.setIfInBounds iA true).setIfInBounds iI true).setIfInBounds iS true).setIfInBounds iB true) = []
  r5 : Region.ready .any ops (((listed.setIfInBounds iA true).setIfInBounds iI true).setIfInBounds iB true) = [iS]
  r6 : Region.ready .any ops ((((listed.setIfInBounds iA true).setIfInBounds iI true).setIfInBounds iB true).setIfInBounds iS true) = []
  r7 : Region.ready .any ops ((listed.setIfInBounds iA true).setIfInBounds iB true) = [iI]
  r8 : Region.ready .any ops (((listed.setIfInBounds iA true).setIfInBounds iB true).setIfInBounds iI true) = [iS]
  r9 : Region.ready .any ops ((((listed.setIfInBounds iA true).setIfInBounds iB true).setIfInBounds iI true).setIfInBounds iS true) = []
  ne : d ≠ p ∧ j ≠ d ∧ x ≠ d ∧ q ≠ d ∧ x ≠ p ∧ q ≠ p

def pushed (σ : AS) (g e d p k : Nat) (l : List (List AV)) (x : List AV) (cells : List AV) : AS :=
  { ((σ.purge g).put (some d) (.v (.slice (l ++ [x])) (some (g, e)))).put (some p) .un with bx := (k, splice cells 0 [.slice (l ++ [x])]) :: σ.bx, tb := tbOf k 0 (some (g, e)) ++ clr (σ.purge g).tb k 0 1 }

theorem purge_get {σ : AS} {g t : Nat} (h : ∀ y q, σ.get t ≠ .v y (some q)) : (σ.purge g).get t = σ.get t := by
  unfold AS.get AS.purge at *
  rw [look_map]
  cases h1 : look t σ.tm with
  | none => rfl
  | some x =>
    rw [h1] at h
    cases x with
    | v y q =>
      cases q with
      | none => rfl
      | some q => exact absurd rfl (h y q)
    | _ => rfl

theorem ANY_push {P : Program} {gl : Gl} {ops : Array Oper} {Q : Exit → AS → Prop} {σ : AS} {listed : Array Bool} (iA iI iS iB T e s y j x q d p g k : Nat) (l : List (List AV)) (z : List AV) (xv : AV) (cells : List AV)
    (ho : PushOps ops listed iA iI iS iB T e s y j x q d p) (hgy : gl.y = none) (hs : σ.get s = .v (.slice l) (some (g, e))) (hT : elemT P T = some e) (hap : appOk P e = true) (hy : (σ.get y).av = some (.slice [z])) (hz : Rows (esz P e) [z]) (hl : Rows (esz P e) l)
    (hj : ∃ gj, σ.get j = .v (.int .i64 l.length) gj) (hx : (σ.get x).av = some xv) (hxl : (flat xv).length = esz P e) (hx1 : (flat xv).all AV.one = true) (hq : σ.get q = .lp k 0) (hbx : look k σ.bx = some cells) (hT1 : esz P T = 1 ∧ (P.info? T).isSome = true) (hcl : 1 ≤ cells.length)
    (hbytes : (l.length + 1) * ebytes P e ≤ 140737488355328) (hd : d < σ.n ∧ d ∉ σ.fx) (hp : p < σ.n ∧ p ∉ σ.fx)
    (hk : Q .normal (pushed σ g e d p k l (flat xv) cells)) : ANY P gl ops Q 4 listed σ := by
  intro cx ro n a w hP hgl hro r
  subst hP; subst hgl
  obtain ⟨gh, r⟩ := r
  obtain ⟨oA, hA, hAg, hAd, hAo⟩ := ho.A
  obtain ⟨oI, hI, hIg, hId, hIo⟩ := ho.I
  obtain ⟨oS, hS, hSg, hSd, hSo⟩ := ho.S
  obtain ⟨oB, hB, hBg, hBd, hBo⟩ := ho.B
  obtain ⟨hdp, hjd, hxd, hqd, hxp, hqp⟩ := ho.ne
  -- the append
  obtain ⟨hu, hie⟩ := elemT_spec hT
  obtain ⟨i, hi⟩ := Option.isSome_iff_exists.1 hie
  have hes : esz cx.P e = i.size := by simp [esz, hi]
  have heb : ebytes cx.P e = i.bytes := by simp [ebytes, hi]
  unfold appOk at hap
  rw [hi] at hap
  simp only at hap
  obtain ⟨zv, hzv⟩ : ∃ zv, i.zero = some zv := by
    cases hz0 : i.zero with
    | none => rw [hz0] at hap; cases hap
    | some zv => exact ⟨zv, rfl⟩
  rw [hzv] at hap
  simp only [Bool.and_eq_true, beq_iff_eq, bne_iff_ne, ne_eq] at hap
  have huse : σ.uses g e := r.ev_uses (.tmp s) (by simpa [Pv.ev] using hs)
  have hsv := r.ev (.tmp s)
  rw [show Pv.ev cx.gl σ (.tmp s) = _ from hs] at hsv
  have hv : a.eval (.tmp s) = gh.gv g := hsv.2 _ rfl
  obtain ⟨⟨m, xs, hown, hlim⟩, hapart⟩ := r.own g e huse
  have hyr := r.av (.tmp y) _ hy
  obtain ⟨py, cap, hyv, hcap⟩ := hyr.slice_form
  rw [hyv] at hyr
  obtain ⟨qs, qcap, hsform, -⟩ := hsv.1.slice_form
  have hm : m = l.length := by
    rw [hv] at hsform
    rcases hown.2 with ⟨h0, h1⟩ | ⟨g', cap', cur, h0, _⟩
    · rw [h0] at hsform; injection hsform with _ h2 _; omega
    · rw [h0] at hsform; injection hsform with _ h2 _
  subst hm
  have hbytes' : (l.length + 1) * i.bytes ≤ 140737488355328 := by rw [← heb]; exact hbytes
  have hmax : l.length + 1 ≤ maxLen := by
    have : l.length + 1 ≤ (l.length + 1) * i.bytes := Nat.le_mul_of_pos_right _ (by omega)
    simp only [maxLen]; omega
  obtain ⟨b0, off0, vs, hp0, hvl, hvr, hvc⟩ := hyr.slice_cells (sz := esz cx.P e) (fun y hy => (hz y hy).1) (by simp)
  subst hp0
  have hone : ∀ u ∈ vs, u.oneCell' = true := by
    refine ones_of hvr ?_
    simp only [List.flatten_cons, List.flatten_nil, List.append_nil]
    exact (hz z (by simp)).2
  rw [hes] at hown
  obtain ⟨v', w1, hrunA, hown1, hf1, hb1, hk1⟩ := run_append_pv (P := cx.P) w cx.B T oA.type e i zv hu hi hzv hap.1 (gh.gv g) l.length xs hown (some ⟨b0, off0, none⟩) 1 cap vs (by rw [hvl, hes]; simp) (by simp)
    (fun ad had j u hu => by
      injection had with had
      subst had
      rw [Addr.add_lit, cell?_eq]
      exact (hvc j u hu).2) hone hbytes' hmax r.base
  have hexA : (execOp a.eval oA).run cx.P w = .ok (.value v') w1 := by
    simp only [execOp, hAo, resolve, invoke, builtin, Sem.run_bind, Sem.run_pure, Result.andThen_ok, List.map_toArray, List.map_cons, List.map_nil, hv, hyv, List.length_cons, List.length_nil, Nat.zero_add, hrunA]
  obtain ⟨g', cap', cur, hv', hbB, hg1, hnc, hcm, hcs, htake⟩ : ∃ g' cap' cur, v' = .slice (some ⟨g', 0, none⟩) (l.length + 1) cap' ∧ cx.B ≤ g' ∧ w1.heap[g']? = some (.cells cur e (0, 0)) ∧ l.length + 1 ≤ cap' ∧ cap' ≤ maxLen ∧ cur.size = cap' * i.size ∧ cur.toList.take ((l.length + 1) * i.size) = xs ++ vs := by
    rcases hown1.2 with ⟨-, h0⟩ | h0
    · omega
    · exact h0
  have hv'b : v'.ownBlock = some g' := by rw [hv']; rfl
  -- the element
  have hxr := r.av (.tmp x) _ hx
  have hxf := flat_len hxr
  have hxrep := flatRep hxr
  have hxone := ones_of hxrep hx1
  have hxlen : (a.eval (.tmp x)).cells.toList.length = i.size := by rw [Array.length_toList, hxf, hxl, hes]
  have hfit : l.length * i.size + (a.eval (.tmp x)).cells.toList.length ≤ cur.size := by
    rw [hxlen, hcs, ← Nat.succ_mul]
    exact Nat.mul_le_mul_right _ hnc
  let cs' : Array Value := (cur.toList.take (l.length * i.size) ++ (a.eval (.tmp x)).cells.toList ++ cur.toList.drop (l.length * i.size + (a.eval (.tmp x)).cells.toList.length)).toArray
  let w2 := w1.setRow g' cs'
  have hxsl : xs.length = l.length * i.size := hown.1
  have htk : cur.toList.take (l.length * i.size) = xs := by
    have := congrArg (List.take (l.length * i.size)) htake
    rw [List.take_take, Nat.min_eq_left (Nat.mul_le_mul_right _ (Nat.le_succ _)), List.take_left' hxsl] at this
    exact this
  have hown2 : w2.ownsRow cx.B e i.size v' (l.length + 1) (xs ++ (a.eval (.tmp x)).cells.toList) := by
    refine ⟨by rw [List.length_append, hxsl, hxlen, Nat.succ_mul], .inr ⟨g', cap', cs', hv', hbB, setRow_heap w1 g' cur cs' e _ hg1, hnc, hcm, ?_, ?_⟩⟩
    · simp only [cs', List.size_toArray, List.length_append, List.length_take, List.length_drop, Array.length_toList] at hxlen hfit ⊢
      omega
    · simp only [cs', htk]
      refine List.take_left' ?_
      rw [List.length_append, hxsl, hxlen, Nat.succ_mul]
  have hgsz : (gh.gv g).ownBlock = some g' ∨ w.heap.size ≤ g' := hb1 g' hv'b
  have hf2 : Frm w.heap.size (fun b => (gh.gv g).ownBlock = some b) w w2 := hf1.trans (Frm.setRow w1 g' cs' hgsz)
  obtain ⟨gh', r3, hg3⟩ := r.pushed hgy g e (l := l) (ys := [flat xv]) huse (by rw [← hv]; exact hsv.1) hl (fun y hy => by
    simp only [List.mem_singleton] at hy
    subst hy
    exact ⟨hxl, hx1⟩) (news := (a.eval (.tmp x)).cells.toList) (v' := v') (w' := w2) (by simpa using hxrep) (by rw [hes]; exact hown) (by rw [hes]; simpa using hown2) hf2 (fun b hb => hb1 b hb) (fun b o u h1 h2 h3 => by
      have h4 := hk1 b o u h1 (by rw [hes] at h2; exact h2) h3
      by_cases hbg : b = g'
      · subst hbg
        unfold cellAt at h4 ⊢
        rw [hg1] at h4
        rw [setRow_heap w1 b cur cs' e _ hg1]
        simp only [] at h4 ⊢
        rw [hes] at h2
        show cs'[o]? = some u
        simp only [cs', List.getElem?_toArray]
        rw [List.append_assoc, List.getElem?_append_left (by rw [htk, hxsl]; exact h2), List.getElem?_take, if_pos h2]
        simpa using h4
      · unfold cellAt at h4 ⊢
        rw [setRow_other w1 g' b cs' hbg]
        exact h4) (some d) (fun t ht => by injection ht with ht; subst ht; exact hd)
  let ptr : Value := .pointer (some ⟨g', 0 + (l.length : Int).toNat * esz cx.P e, none⟩)
  have r4 := r3.put (some p) (fun t ht => by injection ht with ht; subst ht; exact hp) (x := .un) (v := ptr) rfl trivial (fun k off h => by cases h) (fun y g e h => by cases h)
  -- the box
  have hq3 : ((σ.purge g).put (some d) (.v (.slice (l ++ [flat xv])) (some (g, e)))).get q = .lp k 0 := by
    have : (σ.purge g).get q = .lp k 0 := by rw [purge_get (fun y z h => by rw [hq] at h; cases h)]; exact hq
    unfold AS.get at this ⊢
    simp only [AS.put, look]
    rw [if_neg (Ne.symm hqd)]
    exact this
  have hqv := r3.ev (.tmp q)
  rw [show Pv.ev cx.gl _ (.tmp q) = _ from hq3] at hqv
  have hbx4 : look k (((σ.purge g).put (some d) (.v (.slice (l ++ [flat xv])) (some (g, e)))).put (some p) .un).bx = some cells := hbx
  have huse4 : (((σ.purge g).put (some d) (.v (.slice (l ++ [flat xv])) (some (g, e)))).put (some p) .un).uses g e := .inl ⟨d, .slice (l ++ [flat xv]), by simp [AS.put, look, Ne.symm hdp]⟩
  have hrep3 := (r3.tmps d (.v (.slice (l ++ [flat xv])) (some (g, e))) (by simp [AS.put, look])).1.1
  have had : (a.put (some d) v').eval (.tmp d) = v' := by
    simp [Act.eval, Act.put, r.size, hd.1]
  have hrepv : Rep gh'.lim w2.heap v' (.slice (l ++ [flat xv])) := by
    have : (a.put (some d) v').tmps.getD d undef = v' := had
    rw [this] at hrep3
    exact hrep3
  obtain ⟨curB, eB, hcurB, hfitB, r5⟩ := r4.store hgy k 0 hbx4 [v'] [.slice (l ++ [flat xv])] (RepL.cons hrepv (RepL.nil _ _)) (by simpa using hcl) (some (g, e)) (fun pp hpp => by injection hpp with hpp; subst hpp; exact ⟨by rw [hg3], huse4⟩)
  have hneB : g' ≠ gh'.bl k := fun he => by
    have h9 := (r4.own g e huse4).2 g' (by rw [hg3]; exact hv'b)
    exact h9.1 k (by rw [hbx4]; rfl) he.symm
  let csB : Array Value := (curB.toList.take 0 ++ [v'] ++ curB.toList.drop (0 + [v'].length)).toArray
  have hcurB1 : w1.heap[gh'.bl k]? = some (.cells curB eB (0, 0)) := by rw [← setRow_other w1 g' (gh'.bl k) cs' (Ne.symm hneB)]; exact hcurB
  have hv'c : v'.cells = #[v'] := by rw [hv']; rfl
  have hv'1 : v'.oneCell' = true := by rw [hv']; rfl
  -- the values that the later operations see
  have e1d : (a.put (some d) v').eval (.tmp d) = v' := had
  have ne1 : ∀ t, t ≠ d → (a.put (some d) v').eval (.tmp t) = a.eval (.tmp t) := fun t ht => getD_put_ne a (Ne.symm ht) v'
  have ne2 : ∀ t, t ≠ p → ((a.put (some d) v').put (some p) ptr).eval (.tmp t) = (a.put (some d) v').eval (.tmp t) := fun t ht => getD_put_ne _ (Ne.symm ht) ptr
  have e2p : ((a.put (some d) v').put (some p) ptr).eval (.tmp p) = ptr := by
    simp [Act.eval, Act.put, r.size, hp.1]
  have hji : a.eval (.tmp j) = .int .i64 l.length := by
    obtain ⟨gj, hj⟩ := hj
    have := r.av (.tmp j) (.int .i64 l.length) (by show (σ.get j).av = _; rw [hj]; rfl)
    exact rep_int this
  -- each of the later operations
  have runI : ∀ W, (execOp (a.put (some d) v').eval oI).run cx.P W = .ok (.value ptr) W := fun W => by
    have he : execOp (a.put (some d) v').eval oI = (do pure (.value (← Instr.indexAt T ((a.put (some d) v').eval (.tmp d)) ((a.put (some d) v').eval (.tmp j))))) := by simp [execOp, hIo]
    have := run_indexAt (P := cx.P) hT (b := g') (off := 0) (n := l.length + 1) (cap := cap') (k := .i64) (i := (l.length : Int)) (by omega) (by omega) W
    rw [he, e1d, ne1 j hjd, hji, hv', Sem.run_bind, this]
    rfl
  have runS : ∀ W, W.heap[g']? = some (.cells cur e (0, 0)) → (execOp ((a.put (some d) v').put (some p) ptr).eval oS).run cx.P W = .ok .skip (W.setRow g' cs') := fun W hW => by
    have hval : ((a.put (some d) v').put (some p) ptr).eval (.tmp x) = a.eval (.tmp x) := by rw [ne2 x hxp, ne1 x hxd]
    have hoff : 0 + (l.length : Int).toNat * esz cx.P e = l.length * i.size := by rw [hes]; simp
    have hst := run_storeVar (P := cx.P) (t := e) (b := g') (off := l.length * i.size) (v := a.eval (.tmp x)) hW (by rw [hxf, hxl]) hie hfit hxone
    have he : ∀ (A : Act) ad, A.eval (.tmp p) = .pointer (some ad) → execOp A.eval oS = (do storeVar e ad (A.eval (.tmp x)); pure .skip) := fun A ad h => by
      simp [execOp, hSo, h, Instr.storeAt, Instr.sureAddr]
    rw [he _ _ e2p, hval, hoff]
    simp only [Sem.run_bind, hst, Result.andThen_ok, Sem.run_pure]
    rfl
  have runB : ∀ (A : Act) W, A.eval (.tmp q) = .pointer (some ⟨gh'.bl k, 0, none⟩) → A.eval (.tmp d) = v' → W.heap[gh'.bl k]? = some (.cells curB eB (0, 0)) → (execOp A.eval oB).run cx.P W = .ok .skip (W.setRow (gh'.bl k) csB) := fun A W h1 h2 hW => by
    have hst := run_storeVar (P := cx.P) (t := T) (b := gh'.bl k) (off := 0) (v := v') hW (by rw [hv'c, hT1.1]; rfl) hT1.2 (by rw [hv'c]; exact hfitB) (fun u hu => by
      rw [hv'c] at hu
      simp only [List.mem_singleton] at hu
      subst hu; exact hv'1)
    have he : execOp A.eval oB = (do storeVar T ⟨gh'.bl k, 0, none⟩ v'; pure .skip) := by
      simp [execOp, hBo, h1, h2, Instr.storeAt, Instr.sureAddr]
    rw [he]
    simp only [Sem.run_bind, hst, Result.andThen_ok, Sem.run_pure]
    congr 2
    simp [hv'c, csB]
  have hq1 : (a.put (some d) v').eval (.tmp q) = .pointer (some ⟨gh'.bl k, 0, none⟩) := hqv
  have hq2 : ((a.put (some d) v').put (some p) ptr).eval (.tmp q) = .pointer (some ⟨gh'.bl k, 0, none⟩) := by rw [ne2 q hqp]; exact hq1
  have hd2 : ((a.put (some d) v').put (some p) ptr).eval (.tmp d) = v' := by rw [ne2 d hdp]; exact had
  -- what is left in each order
  have hfin : ∃ σ', Q .normal σ' ∧ R cx σ' ((a.put (some d) v').put (some p) ptr) (w2.setRow (gh'.bl k) csB) := ⟨_, hk, gh', r5⟩
  have hcomm : (w1.setRow (gh'.bl k) csB).setRow g' cs' = w2.setRow (gh'.bl k) csB := (setRow_comm w1 hneB cs' csB).symm
  have hg1B : (w1.setRow (gh'.bl k) csB).heap[g']? = some (.cells cur e (0, 0)) := by rw [setRow_other w1 _ g' _ hneB]; exact hg1
  have nA : ∀ c, oA.op ≠ .defer c := fun c h => by rw [hAo] at h; cases h
  have nI : ∀ c, oI.op ≠ .defer c := fun c h => by rw [hIo] at h; cases h
  have nS : ∀ c, oS.op ≠ .defer c := fun c h => by rw [hSo] at h; cases h
  have nB : ∀ c, oB.op ≠ .defer c := fun c h => by rw [hBo] at h; cases h
  have pn : ∀ A : Act, A.put none undef = A := fun A => rfl
  refine wpAnyIn_all ho.r0 (by simp) fun i0 hi0 => ?_
  obtain rfl := List.mem_singleton.1 hi0
  refine wpOpIn_run hA hAg nA hexA ?_
  rw [hAd]
  refine wpAnyIn_all ho.r1 (by simp) fun i1 hi1 => ?_
  rcases List.mem_cons.1 hi1 with rfl | hi1
  · refine wpOpIn_run hI hIg nI (runI w1) ?_
    rw [hId]
    refine wpAnyIn_all ho.r2 (by simp) fun i2 hi2 => ?_
    rcases List.mem_cons.1 hi2 with rfl | hi2
    · refine wpOpIn_skip hS hSg nS (runS w1 hg1) ?_
      rw [hSd, pn]
      refine wpAnyIn_all ho.r3 (by simp) fun i3 hi3 => ?_
      obtain rfl := List.mem_singleton.1 hi3
      refine wpOpIn_skip hB hBg nB (runB _ w2 hq2 hd2 hcurB) ?_
      rw [hBd, pn]
      exact wpAnyIn_done ho.r4 hfin 0
    · obtain rfl := List.mem_singleton.1 hi2
      refine wpOpIn_skip hB hBg nB (runB _ w1 hq2 hd2 hcurB1) ?_
      rw [hBd, pn]
      refine wpAnyIn_all ho.r5 (by simp) fun i3 hi3 => ?_
      obtain rfl := List.mem_singleton.1 hi3
      refine wpOpIn_skip hS hSg nS (runS _ hg1B) ?_
      rw [hSd, pn, hcomm]
      exact wpAnyIn_done ho.r6 hfin 0
  · obtain rfl := List.mem_singleton.1 hi1
    refine wpOpIn_skip hB hBg nB (runB _ w1 hq1 had hcurB1) ?_
    rw [hBd, pn]
    refine wpAnyIn_all ho.r7 (by simp) fun i2 hi2 => ?_
    obtain rfl := List.mem_singleton.1 hi2
    refine wpOpIn_run hI hIg nI (runI _) ?_
    rw [hId]
    refine wpAnyIn_all ho.r8 (by simp) fun i3 hi3 => ?_
    obtain rfl := List.mem_singleton.1 hi3
    refine wpOpIn_skip hS hSg nS (runS _ hg1B) ?_
    rw [hSd, pn, hcomm]
    exact wpAnyIn_done ho.r9 hfin 0

attribute [simp] pushed

theorem ANY_have {P : Program} {gl : Gl} {ops : Array Oper} {Q : Exit → AS → Prop} {n : Nat} {listed : Array Bool} {σ : AS} (φ : Array Oper → Prop) (h : φ ops) (k : φ ops → ANY P gl ops Q n listed σ) : ANY P gl ops Q n listed σ := k h
theorem ANY_one {P : Program} {gl : Gl} {ops : Array Oper} {Q : Exit → AS → Prop} {fuel : Nat} {listed : Array Bool} {σ : AS} (i : Nat) {o : Oper} (hr : Region.ready .any ops listed = [i]) (ho : ops[i]? = some o) (h : ∀ K : AS → Prop, (∀ s, ANY P gl ops Q fuel (listed.setIfInBounds i true) s → K s) → RV P gl ops [o] σ K) :
    ANY P gl ops Q (fuel + 1) listed σ := ANY_ready [i] hr (by simp) (AnyAll.cons ho h AnyAll.nil)
theorem ANY_push2 {P : Program} {gl : Gl} {ops : Array Oper} {Q : Exit → AS → Prop} {σ : AS} {listed listed' : Array Bool} {iA iI iS iB T e s y j x q d p g k : Nat} {l : List (List AV)} {z : List AV} {xv : AV} {cells : List AV}
    (ho : PushOps ops listed' iA iI iS iB T e s y j x q d p) (hL : listed = listed') (hgy : gl.y = none) (hs : σ.get s = .v (.slice l) (some (g, e))) (hy : (σ.get y).av = some (.slice [z]))
    (hx : (σ.get x).av = some xv) (hq : σ.get q = .lp k 0) (hbx : look k σ.bx = some cells) (hT1 : esz P T = 1 ∧ (P.info? T).isSome = true)
    (hc : elemT P T = some e ∧ appOk P e = true ∧ Rows (esz P e) [z] ∧ Rows (esz P e) l ∧ (∃ gj, σ.get j = .v (.int .i64 l.length) gj) ∧ (flat xv).length = esz P e ∧ (flat xv).all AV.one = true ∧ 1 ≤ cells.length ∧
      (l.length + 1) * ebytes P e ≤ 140737488355328 ∧ (d < σ.n ∧ d ∉ σ.fx) ∧ (p < σ.n ∧ p ∉ σ.fx))
    (hk : Q .normal (pushed σ g e d p k l (flat xv) cells)) : ANY P gl ops Q 4 listed σ := by
  subst hL
  obtain ⟨c1, c2, c3, c4, c5, c6, c7, c8, c9, c10, c11⟩ := hc
  exact ANY_push iA iI iS iB T e s y j x q d p g k l z xv cells ho hgy hs c1 c2 hy c3 c4 c5 hx c6 c7 hq hbx hT1 c8 c9 c10 c11 hk

theorem AT_any_q {P : Program} {gl : Gl} {σ : AS} {Q : Exit → AS → Prop} {id : Nat} {l : List Oper} (ts bs : List Nat) (J : AS → Prop) (hm : P.follows .mixedOrders = true)
    (h : ∀ K : Exit → AS → Prop, (∀ s, lpOk (pick bs s.bx) (pick ts s.tm) = true → J (s.keep ts bs) → K .normal s) → (∀ c s, ¬ K (.panic c) s) → ANY P gl l.toArray K l.length (Array.replicate l.length false) σ) (hy : ∀ s, J s → Q .normal s) : AT P gl (.region id l.toArray true) σ Q := by
  intro cx ro n a w hP hg hro r
  have h1 := AT_any (id := id) (ops := l.toArray) hm (by
    have := h (fun e s => match e with | .normal => lpOk (pick bs s.bx) (pick ts s.tm) = true ∧ J (s.keep ts bs) | _ => False) (fun s hok hj => ⟨hok, hj⟩) (fun c s h => h)
    simpa using this) cx ro n a w hP hg hro r
  refine wpIn_mono h1 fun e a' w' hh => ?_
  obtain ⟨s, hs, r'⟩ := hh
  cases e <;> first | exact hs.elim | skip
  obtain ⟨hok, hj⟩ := hs
  obtain ⟨gh, rr⟩ := r'
  exact ⟨_, hy _ hj, gh, rr.weak (AS.keep_le hok)⟩
end Go.Pv
end

section
/- A box that nobody will write any more is frozen: who holds its place may be handed out. -/
namespace Go.Pv
open Go

def TV.frz (k : Nat) (cells : List AV) : TV → TV
  | .lp k' o => if k' = k then .v (.ro (cells.drop o)) none else .lp k' o
  | x => x
def AS.frz (σ : AS) (k : Nat) (cells : List AV) : AS := { σ with tm := σ.tm.map fun p => (p.1, p.2.frz k cells), bx := σ.bx.filter fun p => !(p.1 == k) }

theorem look_map_frz {k t : Nat} {cells : List AV} : ∀ (tm : List (Nat × TV)), look t (tm.map fun p => (p.1, p.2.frz k cells)) = (look t tm).map (·.frz k cells)
  | [] => rfl
  | (j, x) :: r => by
    simp only [List.map_cons, look]
    split
    · rfl
    · exact look_map_frz r

theorem RR.frz {cx : Cx} {gh : Gh} {σ : AS} {a : Act} {w : World} (r : RR cx gh σ a w) (hgy : cx.gl.y = none) {k : Nat} {cells : List AV} (hk : look k σ.bx = some cells) (htb : (σ.tb.all fun q => !(q.1 == k)) = true) (hcl : noClP k σ.tm) :
    ∃ gh', RR cx gh' (σ.frz k cells) a w := by
  obtain ⟨hB, hlk, cs, e, hcs, hrep⟩ := r.boxes k cells hk
  have hks : (look k σ.bx).isSome = true := by simp [hk]
  let lim' : Lim := fun b => if b = gh.bl k then .all else gh.lim b
  have hl : ∀ {b}, b ≠ gh.bl k → lim' b = gh.lim b := fun h => if_neg h
  have hkeep : Keep gh.lim w.heap lim' w.heap := by
    refine ⟨?_, fun b r _ hr => by
      by_cases he : b = gh.bl k
      · subst he; rw [hlk] at hr; cases hr
      · rw [hl he]; exact ⟨hr, rfl⟩⟩
    rintro b o hb ho
    refine ⟨hb, ?_, rfl⟩
    intro n hn
    by_cases he : b = gh.bl k
    · simp only [lim', if_pos he] at hn; cases hn
    · rw [hl he] at hn; exact ho n hn
  have hbx : ∀ k', look k' (σ.frz k cells).bx = if k' = k then none else look k' σ.bx := fun k' => by
    by_cases he : k' = k
    · subst he; rw [if_pos rfl]; exact look_filter_eq _
    · rw [if_neg he]; exact look_filter_ne he _
  have hne : ∀ {k'}, (look k' (σ.frz k cells).bx).isSome = true → k' ≠ k ∧ (look k' σ.bx).isSome = true := by
    intro k' h
    rw [hbx] at h
    split at h
    · cases h
    · rename_i he; exact ⟨he, h⟩
  have hblk : ∀ {k'}, k' ≠ k → (look k' σ.bx).isSome = true → gh.bl k' ≠ gh.bl k := fun he h hh => he (r.inj _ _ h hks hh)
  have hu : ∀ {g e}, AS.uses (σ.frz k cells) g e → σ.uses g e := by
    rintro g e (⟨t, x, h⟩ | h)
    · rw [show (σ.frz k cells).tm = σ.tm.map fun p => (p.1, p.2.frz k cells) from rfl, look_map_frz] at h
      obtain ⟨y, hy, he⟩ := Option.map_eq_some_iff.1 h
      cases y with
      | lp k' o => simp only [TV.frz] at he; split at he <;> simp at he
      | v z g' => simp only [TV.frz] at he; rw [he] at hy; exact .inl ⟨t, x, hy⟩
      | un => cases he
      | bld l ns => cases he
      | it k9 => cases he
      | cl f ks => cases he
    · exact .inr h
  refine ⟨{ gh with lim := lim' }, { frm := r.frm, base := r.base, limB := fun b hb => ?_, size := r.size, ex := (r.ex.step hkeep (Oth.refl w) (.inl hgy)).sub (fun t q hq => ?_) rfl rfl, gl := fun g c h => (r.gl g c h).mono hkeep, tmps := fun t x hx => ?_, boxes := fun k' c hc => ?_, inj := fun k1 k2 h1 h2 => r.inj k1 k2 (hne h1).2 (hne h2).2, shs := fun b c hb => ?_, apart := fun b k' h1 h2 => r.apart b k' h1 (hne h2).2, tbs := fun k' j g e hq => ?_, own := fun g e h => ?_, alone := fun g e g' e' h h' => r.alone g e g' e' (hu h) (hu h') }⟩
  · exact (hl (by omega)).trans (r.limB b hb)
  · rw [show (σ.frz k cells).tm = σ.tm.map fun p => (p.1, p.2.frz k cells) from rfl, look_map_frz] at hq
    obtain ⟨y, hy, he⟩ := Option.map_eq_some_iff.1 hq
    cases y with
    | lp k' o => simp only [TV.frz] at he; split at he <;> cases he
    | it k9 => simp only [TV.frz] at he; rw [he] at hy; exact hy
    | v z g' => cases he
    | un => cases he
    | bld l ns => cases he
    | cl f ks => cases he
  · rw [show (σ.frz k cells).tm = σ.tm.map fun p => (p.1, p.2.frz k cells) from rfl, look_map_frz] at hx
    obtain ⟨y, hy, rfl⟩ := Option.map_eq_some_iff.1 hx
    have h1 := r.tmps t y hy
    cases y with
    | lp k' o =>
      simp only [TV.frz]
      by_cases he : k' = k
      · subst he
        rw [if_pos rfl]
        have h2 : a.tmps.getD t undef = .pointer (some ⟨gh.bl k', o, none⟩) := h1.1
        refine ⟨⟨?_, by simp⟩, fun k2 off h => by cases h⟩
        rw [h2]
        have hrep' := hrep.mono hkeep
        refine .ro _ _ _ (fun j => cs.toList.getD (o + j) undef) (fun j hj => ⟨fun n hn => ?_, ?_⟩) (fun j x hj => ?_)
        · simp [lim'] at hn
        · have hlt : o + j < cs.size := by
            have h5 := hrep.1
            rw [Array.length_toList] at h5
            rw [List.length_drop] at hj
            omega
          unfold cellAt
          rw [hcs]
          simp [hlt]
        · rw [List.getElem?_drop] at hj
          exact hrep'.2 (o + j) x hj
      · rw [if_neg he]
        refine ⟨h1.1, fun k2 off h => ?_⟩
        injection h with e1 e2; subst e1
        rw [hbx, if_neg he]; exact h1.2 k' o rfl
    | v z g' => exact ⟨⟨h1.1.1.mono hkeep, h1.1.2⟩, fun k2 off h => by cases h⟩
    | un => exact ⟨h1.1, fun k2 off h => by cases h⟩
    | bld l ns => exact ⟨⟨h1.1.1.mono hkeep, h1.1.2⟩, fun k2 off h => by cases h⟩
    | it k9 => exact ⟨h1.1, fun k2 off h => by cases h⟩
    | cl f ks => exact ⟨h1.1, fun k2 off h => by cases h⟩
  · have hn := hne (k' := k') (by rw [hc]; rfl)
    rw [hbx, if_neg hn.1] at hc
    obtain ⟨h1, h2, cs', e', h3, h4⟩ := r.boxes k' c hc
    exact ⟨h1, (hl (hblk hn.1 hn.2)).trans h2, cs', e', h3, h4.mono hkeep⟩
  · obtain ⟨h1, h2, cs', e', h3, h4⟩ := r.shs b c hb
    have hbn : b ≠ gh.bl k := fun he => r.apart b k (by rw [show look b σ.sh = some c from hb]; rfl) hks he.symm
    exact ⟨h1, (hl hbn).trans h2, cs', e', h3, h4.mono hkeep⟩
  · have hq' : (k', j, g, e) ∈ σ.tb := hq
    have h1 := r.tbs k' j g e hq'
    have hkk : k' ≠ k := by
      have := List.all_eq_true.1 htb _ hq'
      simpa using this
    exact ⟨by rw [hbx, if_neg hkk]; exact h1.1, h1.2⟩
  · obtain ⟨⟨m, xs, h1, h2⟩, h3⟩ := r.own g e (hu h)
    refine ⟨⟨m, xs, h1, fun b hb => (hl (fun he => (h3 b hb).1 k hks he.symm)).trans (h2 b hb)⟩, fun b hb => ⟨fun k' hk' => (h3 b hb).1 k' (hne hk').2, (h3 b hb).2⟩⟩

theorem AT_freeze {P : Program} {gl : Gl} {σ : AS} {Q : Exit → AS → Prop} {c : Code} (k : Nat) {cells : List AV} (hk : look k σ.bx = some cells) (htb : (σ.tb.all fun q => !(q.1 == k)) = true) (hcl : noClP k σ.tm) (hy : gl.y = none) (h : AT P gl c (σ.frz k cells) Q) : AT P gl c σ Q := by
  intro cx ro n a w hP hg hro r
  obtain ⟨gh, r⟩ := r
  obtain ⟨gh', r'⟩ := r.frz (by rw [hg]; exact hy) hk htb hcl
  exact h cx ro n a w hP hg hro ⟨gh', r'⟩
attribute [simp] TV.frz AS.frz
end Go.Pv
end

section
/- The walk by simp: what is evaluated, in which form. -/
namespace Go.Pv
open Go

def RVn (P : Program) (gl : Gl) (ops : Array Oper) (d : Bool) (g : Option Bool) (r : OR) (o : Oper) (rest : List Oper) (σ : AS) (K : AS → Prop) : Prop :=
  d = true ∧ match g with
    | some true => orV P gl o σ (fun s => RV P gl ops rest s K) r
    | some false => RV P gl ops rest (σ.put o.dst (.v (.tup []) none)) K
    | none => False

def RVdn (P : Program) (gl : Gl) (ops : Array Oper) (d : Bool) (g : Option Bool) (r : OR) (o : Oper) (rest : List Oper) (σ : AS) (K : AS → Prop) : Prop :=
  d = true ∧ match g with
    | some true => orVd P gl o σ (fun s => RVd P gl ops rest s K) r
    | some false => RVd P gl ops rest (σ.put o.dst (.v (.tup []) none)) K
    | none => False

section
variable {P : Program} {gl : Gl} {ops : Array Oper} {o : Oper} {rest : List Oper} {σ : AS} {K : AS → Prop}

theorem RV_nil : RV P gl ops [] σ K = K σ := rfl
theorem RV_cons : RV P gl ops (o :: rest) σ K = RVn P gl ops (dstOk P o σ) (guardB ops o σ) (opR P gl σ o) o rest σ K := rfl
theorem RVd_nil : RVd P gl ops [] σ K = K σ := rfl
theorem RVd_cons : RVd P gl ops (o :: rest) σ K = RVdn P gl ops (dstOk P o σ) (guardB ops o σ) (opR P gl σ o) o rest σ K := rfl

theorem RVn_val (c : Prop) (x : TV) : RVn P gl ops true (some true) (.val c x) o rest σ K = (c ∧ RV P gl ops rest (σ.put o.dst x) K) := by simp [RVn, orV]
theorem RVn_eff (c : Prop) (s : AS) : RVn P gl ops true (some true) (.eff c s) o rest σ K = (c ∧ gl.y = none ∧ RV P gl ops rest s K) := by simp [RVn, orV]
theorem RVn_skip (r : OR) : RVn P gl ops true (some false) r o rest σ K = RV P gl ops rest (σ.put o.dst (.v (.tup []) none)) K := by simp [RVn]
theorem RVn_call {f : FuncId} {args : List AV} {r : AV} (h : Valid P gl f args r) (k : RV P gl ops rest (σ.put o.dst (.v r none)) K) (hy : gl.y = none := by rfl) : RVn P gl ops true (some true) (.call f args) o rest σ K := by
  unfold RVn
  simp only [orV, true_and]
  exact callV_pure hy r h k
theorem RVn_callY {f : FuncId} {args : List AV} {Y : Ys} {r : AV} {ys' : List AV × Bool} (hY : gl.y = some Y) (hb : σ.bare = true) (h : ValidY P gl Y f args σ.ys r ys') (k : RV P gl ops rest ({ σ with ys := ys' }.put o.dst (.v r none)) K) : RVn P gl ops true (some true) (.call f args) o rest σ K := by
  unfold RVn
  simp only [orV, true_and]
  exact .inr (.inl ⟨Y, r, ys', hY, hb, h, k⟩)
theorem RVn_callO {f : FuncId} {args : List AV} {r : AV} {e : Nat} (g : Nat) (hu : σ.usesB g = false) (h : ValidO P gl f args r e) (k : RV P gl ops rest (σ.put o.dst (.v r (some (g, e)))) K) (hy : gl.y = none := by rfl) : RVn P gl ops true (some true) (.call f args) o rest σ K := by
  unfold RVn
  simp only [orV, true_and]
  exact .inr (.inr ⟨hy, r, e, g, hu, h, k⟩)
theorem RVn_yld {l : Nat} {x : AV} {Y : Ys} (hY : gl.y = some Y) (hl : Y.l = l) (hb : σ.bare = true) (hon : σ.ys.2 = true) (he : Y.el σ.ys.1 x) (k : RV P gl ops rest ({ σ with ys := (σ.ys.1 ++ [x], Y.go σ.ys.1 x) }.put o.dst (.v (.bool (Y.go σ.ys.1 x)) none)) K) : RVn P gl ops true (some true) (.yld l x) o rest σ K := by
  unfold RVn
  simp only [orV, true_and]
  exact ⟨Y, hY, hl, hb, ⟨hon, he⟩, k⟩
theorem RVdn_val (c : Prop) (x : TV) : RVdn P gl ops true (some true) (.val c x) o rest σ K = (c ∧ RVd P gl ops rest (σ.put o.dst x) K) := by simp [RVdn, orVd]
theorem RVdn_eff (c : Prop) (s : AS) : RVdn P gl ops true (some true) (.eff c s) o rest σ K = (quietOp o = false ∧ (c ∧ gl.y = none) ∧ RVd P gl ops rest s K) := by simp [RVdn, orVd]
theorem RVdn_skip (r : OR) : RVdn P gl ops true (some false) r o rest σ K = RVd P gl ops rest (σ.put o.dst (.v (.tup []) none)) K := by simp [RVdn]
theorem RVdn_call {f : FuncId} {args : List AV} {r : AV} (h : Valid P gl f args r) (k : RVd P gl ops rest (σ.put o.dst (.v r none)) K) (hy : gl.y = none := by rfl) : RVdn P gl ops true (some true) (.call f args) o rest σ K := ⟨rfl, r, ⟨hy, h⟩, k⟩
end

attribute [simp] RV_nil RV_cons RVd_nil RVd_cons RVn_val RVn_eff RVn_skip RVdn_val RVdn_eff RVdn_skip
attribute [simp] dstOk guardB opR ev AS.get AS.put look cv cv1 cvL nilSR isNilS TV.av isNil assignR fieldAddrR indexAddrR loadOpR indexR nilCheckR convertR buildR makeFuncR makeIfaceR extractR fieldR boxR allocR evN ownRes tagOf nsOf storeR rowsOf buildSliceR appendR callR orR
attribute [simp] TV.strip TV.nit froz frozR rangeR nextR TV.bareT AS.bare
theorem noClP_true {k : Nat} {tm : List (Nat × TV)} (h : noCl k tm = true) : noClP k tm ↔ True := ⟨fun _ => trivial, fun _ => noClP_of h⟩
section
variable (k t : Nat) (r : List (Nat × TV))
theorem noCl_nil : noCl k [] = true ↔ True := by constructor <;> intro _ <;> first | trivial | rfl
theorem noCl_un : noCl k ((t, .un) :: r) = true ↔ noCl k r = true := by constructor <;> intro h <;> exact h
theorem noCl_v (x : AV) (g : Option (Nat × Nat)) : noCl k ((t, .v x g) :: r) = true ↔ noCl k r = true := by constructor <;> intro h <;> exact h
theorem noCl_bld (x : List AV) (g : List Nat) : noCl k ((t, .bld x g) :: r) = true ↔ noCl k r = true := by constructor <;> intro h <;> exact h
theorem noCl_it (x : ItK) : noCl k ((t, .it x) :: r) = true ↔ noCl k r = true := by constructor <;> intro h <;> exact h
theorem noCl_lp (x g : Nat) : noCl k ((t, .lp x g) :: r) = true ↔ noCl k r = true := by constructor <;> intro h <;> exact h
theorem noCl_cl (f : FuncId) (ks : List Nat) : noCl k ((t, .cl f ks) :: r) = true ↔ ks.contains k = false ∧ noCl k r = true := by simp only [noCl, Bool.and_eq_true, Bool.not_eq_true']
end
attribute [simp] noGotoA entryB mkTmB fxs keepB stayB stayAll TV.stay
attribute [simp] noCl_nil noCl_un noCl_v noCl_bld noCl_it noCl_lp noCl_cl lps makeClR noClP_true
attribute [simp] rowNums strOp intOp binR eqR eqV eqK eqCells isC pickR unR flat avs fillA nilsLeft loadR sliceR lenR mxR AS.usesB gid AS.openB retag tagAt clr tbOf AS.purge TV.untag splice quietOp AS.keep pick lpOk entry mkTm thenA inBlockA done resOk resOne resAll

theorem inR_i64 (n : Int) : inR .i64 n ↔ -9223372036854775808 ≤ n ∧ n ≤ 9223372036854775807 := by unfold inR; rw [IntKind.wrap_i64]; omega
theorem inR_i32 (n : Int) : inR .i32 n ↔ -2147483648 ≤ n ∧ n ≤ 2147483647 := by unfold inR; rw [IntKind.wrap_i32]; omega
theorem inR_u8 (n : Int) : inR .u8 n ↔ 0 ≤ n ∧ n ≤ 255 := by unfold inR; rw [IntKind.wrap_u8]; omega
attribute [simp] inR_i64 inR_i32 inR_u8

theorem Rows_nil (sz : Nat) : Rows sz [] := fun r h => by cases h
theorem Rows_cons (sz : Nat) (r : List AV) (l : List (List AV)) : Rows sz (r :: l) ↔ (r.length = sz ∧ r.all AV.one = true) ∧ Rows sz l := by simp [Rows]
theorem Rows_append (sz : Nat) (a b : List (List AV)) : Rows sz (a ++ b) ↔ Rows sz a ∧ Rows sz b := by simp only [Rows, List.mem_append]; exact ⟨fun h => ⟨fun r hr => h r (.inl hr), fun r hr => h r (.inr hr)⟩, fun h r hr => hr.elim (h.1 r) (h.2 r)⟩
theorem Rows_map {α : Type} (sz : Nat) (f : α → List AV) (h : ∀ x, (f x).length = sz ∧ (f x).all AV.one = true) (l : List α) : Rows sz (l.map f) := fun r hr => by
  obtain ⟨x, _, rfl⟩ := List.mem_map.1 hr; exact h x
attribute [simp] Rows_nil Rows_cons Rows_append
attribute [simp] AV.one

theorem row_map {α : Type} (f : α → List AV) (l : List α) (i : Nat) (h : i < l.length) : row (l.map f) i = f l[i] := by simp [row, h]

attribute [irreducible] RVn RVdn
end Go.Pv
end
