/- A region that draws its order: one walk in the order of its text serves every order. -/
import Derived.Test.YtoehgdamenpclaaDoorPvL
namespace Go.Pv
open Go

def quietOp (o : Oper) : Bool :=
  match o.op with
  | .move _ | .assign _ | .pick .. | .binOp .. | .unOp .. | .fieldAddr .. | .indexAddr .. | .load .. | .index .. | .slice .. | .nilCheck _ | .convert .. | .build .. | .makeFunc .. | .makeInterface .. | .extract .. | .buildSlice .. | .field .. => true
  | .call c => match c.callee with
    | .value _ => true
    | .builtin .append => false
    | .builtin _ => true
    | .invoke .. => false
  | _ => false

def orVd (P : Program) (gl : Gl) (o : Oper) (σ : AS) (K : AS → Prop) : OR → Prop
  | .stuck => False
  | .val c x => c ∧ K (σ.put o.dst x)
  | .eff c σ' => quietOp o = false ∧ (c ∧ gl.y = none) ∧ K σ'
  | .call f args => ∃ r, (gl.y = none ∧ Valid P gl f args r) ∧ K (σ.put o.dst (.v r none))
  | .callB _ _ _ => False
  | .yld _ _ => False

def nextVd (P : Program) (gl : Gl) (ops : Array Oper) (o : Oper) (σ : AS) (K : AS → Prop) : Prop :=
  dstOk P o σ = true ∧ match guardB ops o σ with
    | some true => orVd P gl o σ K (opR P gl σ o)
    | some false => K (σ.put o.dst (.v (.tup []) none))
    | none => False

theorem nextV_of {P : Program} {gl : Gl} {ops : Array Oper} {o : Oper} {σ : AS} {K : AS → Prop} (h : nextVd P gl ops o σ K) : nextV P gl ops o σ K := by
  refine ⟨h.1, ?_⟩
  have h := h.2
  cases hg : guardB ops o σ with
  | none => rw [hg] at h; exact h
  | some b =>
    rw [hg] at h
    cases b with
    | false => exact h
    | true =>
      simp only [] at h ⊢
      cases hr : opR P gl σ o with
      | stuck => rw [hr] at h; exact h
      | val c x => rw [hr] at h; exact h
      | eff c s => rw [hr] at h; exact ⟨h.2.1.1, h.2.1.2, h.2.2⟩
      | call f args => rw [hr] at h; obtain ⟨r, h1, h2⟩ := h; exact callV_pure h1.1 r h1.2 h2
      | callB f args ks => rw [hr] at h; exact h.elim
      | yld l x => rw [hr] at h; exact h.elim

/-- Two states that no operation tells apart. -/
structure Eqv (σ σ' : AS) : Prop where
  ex : σ'.ys = σ.ys ∧ σ'.fx = σ.fx ∧ σ'.mks = σ.mks
  n : σ'.n = σ.n
  tm : ∀ t, look t σ'.tm = look t σ.tm
  bx : σ'.bx = σ.bx
  tb : σ'.tb = σ.tb
  sh : σ'.sh = σ.sh
  hint : σ.hint = [] ∧ σ'.hint = []

theorem Eqv.symm {σ σ' : AS} (h : Eqv σ σ') : Eqv σ' σ := ⟨⟨h.ex.1.symm, h.ex.2.1.symm, h.ex.2.2.symm⟩, h.n.symm, fun t => (h.tm t).symm, h.bx.symm, h.tb.symm, h.sh.symm, h.hint.2, h.hint.1⟩

theorem Eqv.put {σ σ' : AS} (h : Eqv σ σ') (d : Option Nat) (x : TV) : Eqv (σ.put d x) (σ'.put d x) := by
  cases d with
  | none => exact h
  | some d => exact ⟨h.ex, h.n, fun t => by simp only [AS.put, look]; split; rfl; exact h.tm t, h.bx, h.tb, h.sh, h.hint⟩

theorem Eqv.swap {σ : AS} (hh : σ.hint = []) {d d' : Option Nat} (x y : TV) (hne : ∀ t, d = some t → d' ≠ some t) : Eqv ((σ.put d x).put d' y) ((σ.put d' y).put d x) := by
  cases d with
  | none => exact ⟨⟨rfl, rfl, rfl⟩, rfl, fun _ => rfl, rfl, rfl, rfl, by cases d' <;> exact hh, by cases d' <;> exact hh⟩
  | some t =>
    cases d' with
    | none => exact ⟨⟨rfl, rfl, rfl⟩, rfl, fun _ => rfl, rfl, rfl, rfl, hh, hh⟩
    | some t' =>
      have : t ≠ t' := fun e => hne t rfl (by rw [e])
      refine ⟨⟨rfl, rfl, rfl⟩, rfl, fun s => ?_, rfl, rfl, rfl, hh, hh⟩
      simp only [AS.put, look]
      by_cases h1 : t = s
      · subst h1; simp [Ne.symm this]
      · simp [h1]

/-- The operands of o read alike in the two states. -/
structure Sees (gl : Gl) (ops : Array Oper) (o : Oper) (σ σ' : AS) : Prop where
  ex : σ'.ys = σ.ys ∧ σ'.fx = σ.fx ∧ σ'.mks = σ.mks
  n : σ'.n = σ.n
  tm : ∀ t ∈ o.looksAt ops, σ'.get t = σ.get t
  bx : σ'.bx = σ.bx
  tb : σ'.tb = σ.tb
  sh : σ'.sh = σ.sh
  hint : σ.hint = [] ∧ σ'.hint = []

theorem Sees.ev {gl : Gl} {ops : Array Oper} {o : Oper} {σ σ' : AS} (h : Sees gl ops o σ σ') {x : Operand} (hx : x ∈ o.op.operands) : Pv.ev gl σ' x = Pv.ev gl σ x := by
  cases x with
  | tmp t => exact h.tm t (List.mem_append_left _ (List.mem_filterMap.2 ⟨.tmp t, by simpa using hx, rfl⟩))
  | _ => rfl

theorem Sees.guard {gl : Gl} {ops : Array Oper} {o : Oper} {σ σ' : AS} (h : Sees gl ops o σ σ') : guardB ops o σ' = guardB ops o σ := by
  unfold guardB
  split
  · rfl
  · rename_i j want hg
    cases hd : (ops[j]?).bind (·.dst) with
    | none => rfl
    | some d =>
      dsimp only
      rw [h.tm d (List.mem_append_right _ (by rw [hg]; simp [hd]))]

theorem Sees.dst {gl : Gl} {ops : Array Oper} {o : Oper} {σ σ' : AS} (h : Sees gl ops o σ σ') (P : Program) : dstOk P o σ' = dstOk P o σ := by
  unfold dstOk; rw [h.n, h.ex.2.1]

theorem avs_congr {e e' : Operand → TV} : ∀ (l : List Operand), (∀ x ∈ l, e' x = e x) → avs e' l = avs e l
  | [], _ => rfl
  | x :: l, h => by simp only [avs]; rw [h x (by simp), avs_congr l (fun y hy => h y (by simp [hy]))]

theorem lps_congr {e e' : Operand → TV} : ∀ (l : List Operand), (∀ x ∈ l, e' x = e x) → lps e' l = lps e l
  | [], _ => rfl
  | x :: l, h => by simp only [lps]; rw [h x (by simp), lps_congr l (fun y hy => h y (by simp [hy]))]

theorem fillA_congr {P : Program} {t : Nat} {e e' : Operand → TV} : ∀ (l : List (Nat × Operand)) (cells : List AV), (∀ p ∈ l, e' p.2 = e p.2) → fillA P t e' l cells = fillA P t e l cells
  | [], _, _ => rfl
  | (i, x) :: l, cells, h => by
    simp only [fillA]
    have he : e' x = e x := h (i, x) (by simp)
    rw [he]
    cases foff P t i with
    | none => rfl
    | some o =>
      cases (e x).av with
      | none => rfl
      | some y =>
        simp only []
        rw [fillA_congr l _ (fun y hy => h y (by simp [hy]))]

theorem rowsOf_congr {e e' : Operand → TV} : ∀ (l : List (Nat × Operand)) (i : Nat), (∀ p ∈ l, e' p.2 = e p.2) → rowsOf e' i l = rowsOf e i l
  | [], _, _ => rfl
  | (j, x) :: l, i, h => by
    simp only [rowsOf]
    have he : e' x = e x := h (j, x) (by simp)
    rw [he, rowsOf_congr l _ (fun y hy => h y (by simp [hy]))]

theorem hint_nil_assign {gl : Gl} {σ : AS} (h : σ.hint = []) (d : Option Nat) (v : Value) : assignR gl σ d (.const v) = if isNil v then .val True (.v (.slice []) none) else .val True (cv v) := by
  simp only [assignR, h]
  split
  · cases d <;> rfl
  · rfl

theorem hint_nil_buildSlice {P : Program} {σ σ' : AS} (h : σ.hint = []) (h' : σ'.hint = []) (d : Option Nat) (t len : Nat) (rows : Option (List (List AV))) : buildSliceR P σ' d t len rows = buildSliceR P σ d t len rows := by
  unfold buildSliceR
  rw [h, h']
  cases elemT P t with
  | none => rfl
  | some e =>
    cases rows with
    | none => rfl
    | some l =>
      simp only []
      split
      · cases d <;> rfl
      · rfl

/-- A quiet operation hands back the same. -/
theorem Sees.opR {P : Program} {gl : Gl} {ops : Array Oper} {o : Oper} {σ σ' : AS} (h : Sees gl ops o σ σ') (hq : quietOp o = true) : Pv.opR P gl σ' o = Pv.opR P gl σ o := by
  have hev := fun (x : Operand) (hx : x ∈ o.op.operands) => h.ev hx
  unfold quietOp at hq
  unfold Pv.opR
  cases ho : o.op <;> rw [ho] at hq hev <;> (try exact absurd hq Bool.false_ne_true) <;> (try dsimp only)
  case move x => rw [hev x (by simp [Op.operands])]
  case assign x =>
    cases x with
    | const v => rw [hint_nil_assign h.hint.1, hint_nil_assign h.hint.2]
    | tmp t => simp only [assignR]; rw [hev (.tmp t) (by simp [Op.operands])]
    | global g => rfl
    | func f => rfl
  case pick c a b => rw [hev c (by simp [Op.operands]), hev a (by simp [Op.operands]), hev b (by simp [Op.operands])]
  case load t x =>
    rw [hev x (by simp [Op.operands])]
    unfold loadOpR
    rw [h.bx, h.tb, h.sh]
  case nilCheck x => rw [hev x (by simp [Op.operands])]
  case binOp op t x y t' => rw [hev x (by simp [Op.operands]), hev y (by simp [Op.operands])]
  case unOp op t x => rw [hev x (by simp [Op.operands])]
  case convert s d x => rw [hev x (by simp [Op.operands])]
  case field t x f => rw [hev x (by simp [Op.operands])]
  case makeInterface t x => rw [hev x (by simp [Op.operands])]
  case makeFunc fn first caps => rw [avs_congr caps.toList (fun x hx => hev x (by simp only [Op.operands, Array.mem_append]; right; simpa using hx)), lps_congr caps.toList (fun x hx => hev x (by simp only [Op.operands, Array.mem_append]; right; simpa using hx))]
  case slice t x lo hi mx =>
    cases mx with
    | some _ => rfl
    | none =>
      simp only []
      rw [hev x (by simp [Op.operands])]
      have h1 : (lo.map fun y => (Pv.ev gl σ' y).av) = lo.map fun y => (Pv.ev gl σ y).av := by
        cases lo with
        | none => rfl
        | some y => simp only [Option.map_some]; rw [hev y (by simp [Op.operands])]
      have h2 : (hi.map fun y => (Pv.ev gl σ' y).av) = hi.map fun y => (Pv.ev gl σ y).av := by
        cases hi with
        | none => rfl
        | some y => simp only [Option.map_some]; rw [hev y (by simp [Op.operands])]
      rw [h1, h2]
  case fieldAddr t x f => rw [hev x (by simp [Op.operands])]
  case indexAddr t x i => rw [hev x (by simp [Op.operands]), hev i (by simp [Op.operands])]
  case index t x i => rw [hev x (by simp [Op.operands]), hev i (by simp [Op.operands])]
  case extract x i => rw [hev x (by simp [Op.operands])]
  case build t parts =>
    unfold buildR
    have : ∀ z, fillA P t (Pv.ev gl σ') parts.toList z = fillA P t (Pv.ev gl σ) parts.toList z := fun z => fillA_congr _ _ (fun p hp => hev p.2 (by simp only [Op.operands]; exact List.mem_toArray.2 (List.mem_map.2 ⟨p, hp, rfl⟩)))
    simp only [this]
  case buildSlice t len parts =>
    rw [rowsOf_congr (e := Pv.ev gl σ) (e' := Pv.ev gl σ') parts.toList 0 (fun p hp => hev p.2 (by simp only [Op.operands]; exact List.mem_toArray.2 (List.mem_map.2 ⟨p, hp, rfl⟩)))]
    exact hint_nil_buildSlice h.hint.1 h.hint.2 _ _ _ _
  case call c =>
    obtain ⟨callee, args, tys⟩ := c
    have ha : ∀ x ∈ args.toList, Pv.ev gl σ' x = Pv.ev gl σ x := fun x hx => hev x (by simp only [Op.operands, Call.operands, Array.mem_append]; right; simpa using hx)
    unfold callR
    cases callee with
    | invoke r m => rfl
    | value f =>
      simp only []
      rw [hev f (by simp [Op.operands, Call.operands]), avs_congr args.toList ha]
    | builtin b =>
      simp only []
      split
      · rename_i x t hx _; rw [ha x (by rw [hx]; simp)]
      · rename_i tl x y hx; rw [ha x (by rw [hx]; simp), ha y (by rw [hx]; simp)]
      · rename_i tl x y hx; rw [ha x (by rw [hx]; simp), ha y (by rw [hx]; simp)]
      · exact absurd hq Bool.false_ne_true
      · rfl

theorem Eqv.sees {gl : Gl} {ops : Array Oper} {o : Oper} {σ σ' : AS} (h : Eqv σ σ') : Sees gl ops o σ σ' := ⟨h.ex, h.n, fun t _ => by unfold AS.get; rw [h.tm t], h.bx, h.tb, h.sh, h.hint⟩

theorem ev_eqv {gl : Gl} {σ σ' : AS} (h : Eqv σ σ') : Pv.ev gl σ' = Pv.ev gl σ := by
  funext x
  cases x with
  | tmp t => simp only [Pv.ev, AS.get]; rw [h.tm t]
  | _ => rfl

theorem openB_nil (σ : AS) (k : Nat) : ∀ ns, σ.openB k [] ns = σ
  | [] => rfl
  | j :: ns => by simp only [AS.openB, look]; exact openB_nil σ k ns

theorem Eqv.purge {σ σ' : AS} (h : Eqv σ σ') (g : Nat) : Eqv (σ.purge g) (σ'.purge g) :=
  ⟨h.ex, h.n, fun t => by simp only [AS.purge, look_map]; rw [h.tm t], h.bx, by simp only [AS.purge]; rw [h.tb], h.sh, h.hint⟩

/-- What an operation does under states that no operation tells apart. -/
inductive EqR : OR → OR → Prop
  | same (r : OR) (h : ∀ c s, r ≠ .eff c s) : EqR r r
  | eff (c : Prop) (s s' : AS) (h : Eqv s s') : EqR (.eff c s) (.eff c s')

theorem froz_nil {σ : AS} (h : σ.hint = []) (d : Option Nat) : froz σ d = false := by
  unfold froz; rw [h]; cases d <;> rfl

theorem noClP_eqv {σ σ' : AS} (h : Eqv σ σ') (k : Nat) : noClP k σ'.tm = noClP k σ.tm := by
  unfold noClP
  simp only [h.tm]

theorem opR_eqv {P : Program} {gl : Gl} {o : Oper} {σ σ' : AS} (h : Eqv σ σ') (hq : quietOp o = false) : (∃ c s s', Pv.opR P gl σ o = .eff c s ∧ Pv.opR P gl σ' o = .eff c s' ∧ Eqv s s') ∨ Pv.opR P gl σ o = .stuck := by
  have hev := ev_eqv (gl := gl) h
  have hh := h.hint
  unfold quietOp at hq
  unfold Pv.opR
  cases ho : o.op <;> rw [ho] at hq <;> (try exact absurd hq.symm Bool.false_ne_true) <;> (try dsimp only)
  case alloc t =>
    unfold allocR
    simp only [noClP_eqv h]
    rw [h.bx, hh.1, hh.2]
    cases hz : azero P t with
    | none => exact .inr rfl
    | some z =>
      cases hd : o.dst with
      | none => exact .inr rfl
      | some k =>
        simp only []
        cases look k σ.bx with
        | none =>
          refine .inl ⟨_, _, _, rfl, rfl, ?_⟩
          rw [openB_nil, openB_nil]
          exact ⟨h.ex, h.n, fun t => by simp only [AS.put, look]; split; rfl; exact h.tm t, rfl, h.tb, h.sh, by simp [AS.put]⟩
        | some c => exact .inr rfl
  case box t x =>
    rw [froz_nil hh.1, froz_nil hh.2]
    simp only [Bool.false_eq_true, if_false]
    unfold boxR
    simp only [noClP_eqv h]
    rw [hev, h.bx, hh.1, hh.2]
    cases Pv.ev gl σ x with
    | un => exact .inr rfl
    | lp k off => exact .inr rfl
    | it s p => exact .inr rfl
    | cl f ks => exact .inr rfl
    | bld l ns =>
      cases hd : o.dst with
      | none => exact .inr rfl
      | some k =>
        simp only []
        cases look k σ.bx with
        | none =>
          refine .inl ⟨_, _, _, rfl, rfl, ?_⟩
          rw [openB_nil, openB_nil]
          exact ⟨h.ex, h.n, fun t => by simp only [AS.put, look]; split; rfl; exact h.tm t, rfl, h.tb, h.sh, by simp [AS.put]⟩
        | some c => exact .inr rfl
    | v y g =>
      cases hd : o.dst with
      | none => exact .inr rfl
      | some k =>
        simp only []
        cases look k σ.bx with
        | none => exact .inl ⟨_, _, _, rfl, rfl, ⟨h.ex, h.n, fun t => by simp only [AS.put, look]; split; rfl; exact h.tm t, rfl, h.tb, h.sh, by simp [AS.put]⟩⟩
        | some c => exact .inr rfl
  case store t x y =>
    unfold storeR
    rw [hev, h.bx, h.sh, h.tb, hh.1, hh.2]
    cases (Pv.ev gl σ y).av with
    | none => exact .inr rfl
    | some z =>
      simp only []
      cases Pv.ev gl σ x with
      | un => exact .inr rfl
      | bld l ns => exact .inr rfl
      | it s p => exact .inr rfl
      | cl f ks => exact .inr rfl
      | lp k off =>
        simp only []
        cases look k σ.bx with
        | none => exact .inr rfl
        | some cells =>
          refine .inl ⟨_, _, _, rfl, rfl, ?_⟩
          rw [openB_nil, openB_nil]
          exact ⟨h.ex, h.n, h.tm, rfl, rfl, rfl, ⟨rfl, rfl⟩⟩
      | v q g =>
        cases q <;> try exact .inr rfl
        case gp b off =>
          simp only []
          cases look b σ.sh with
          | none => exact .inr rfl
          | some cells => exact .inl ⟨_, _, _, rfl, rfl, ⟨h.ex, h.n, h.tm, rfl, rfl, rfl, ⟨rfl, rfl⟩⟩⟩
  case call c =>
    obtain ⟨callee, args, tys⟩ := c
    unfold callR
    cases callee with
    | invoke r m => exact .inr rfl
    | value f => exact absurd hq.symm Bool.false_ne_true
    | builtin b =>
      simp only []
      split
      · exact absurd hq.symm Bool.false_ne_true
      · exact absurd hq.symm Bool.false_ne_true
      · exact absurd hq.symm Bool.false_ne_true
      · rename_i s x t t' ha ht
        split
        · rename_i htt
          subst htt
          rw [hev]
          unfold appendR
          split
          · rename_i l g el ys e hs hx he
            split
            · rename_i hc
              refine .inl ⟨_, _, _, rfl, ?_, (h.purge g).put o.dst _⟩
              simp
            · exact .inr rfl
          · exact .inr rfl
        · exact .inr rfl
      · exact .inr rfl
  case range t x =>
    unfold rangeR
    rw [hev]
    split
    · exact .inl ⟨_, _, _, rfl, rfl, ⟨h.ex, h.n, fun t => by simp only [look]; split; rfl; exact h.tm t, h.bx, h.tb, h.sh, h.hint⟩⟩
    · exact .inr rfl
  case next x str =>
    unfold nextR
    cases x with
    | tmp t =>
      cases str with
      | false => exact .inr rfl
      | true =>
        simp only []
        rw [h.tm t, h.ex.2.1]
        cases look t σ.tm with
        | none => exact .inr rfl
        | some y =>
          cases y with
          | it s p =>
            simp only []
            split
            · refine .inl ⟨_, _, _, rfl, rfl, ?_⟩
              refine Eqv.put ?_ _ _
              exact ⟨⟨h.ex.1, rfl, h.ex.2.2⟩, h.n, fun t => by simp only [look]; split; rfl; exact h.tm t, h.bx, h.tb, h.sh, h.hint⟩
            · exact .inl ⟨_, _, _, rfl, rfl, h.put _ _⟩
          | un => exact .inr rfl
          | v y g => exact .inr rfl
          | bld l ns => exact .inr rfl
          | lp k o => exact .inr rfl
          | cl f ks => exact .inr rfl
    | const v => exact .inr rfl
    | global g => exact .inr rfl
    | func f => exact .inr rfl
  all_goals exact .inr rfl

theorem nextVd_eqv {P : Program} {gl : Gl} {ops : Array Oper} {o : Oper} {σ σ' : AS} {K K' : AS → Prop} (h : Eqv σ σ') (hk : ∀ s s', Eqv s s' → K s → K' s') (hn : nextVd P gl ops o σ K) : nextVd P gl ops o σ' K' := by
  have hs : Sees gl ops o σ σ' := h.sees
  refine ⟨by rw [hs.dst]; exact hn.1, ?_⟩
  have hn := hn.2
  rw [hs.guard]
  split at hn
  · by_cases hq : quietOp o = true
    · rw [hs.opR hq]
      cases hr : Pv.opR P gl σ o <;> rw [hr] at hn
      · exact hn.elim
      · exact ⟨hn.1, hk _ _ (h.put _ _) hn.2⟩
      · obtain ⟨h1, _⟩ := hn; rw [hq] at h1; cases h1
      · obtain ⟨r, h1, h2⟩ := hn; exact ⟨r, h1, hk _ _ (h.put _ _) h2⟩
      · exact hn.elim
      · exact hn.elim
    · have hq : quietOp o = false := by simpa using hq
      rcases opR_eqv (P := P) (gl := gl) h hq with ⟨c, s, s', h1, h2, h3⟩ | h1
      · rw [h1] at hn
        rw [h2]
        exact ⟨hn.1, hn.2.1, hk _ _ h3 hn.2.2⟩
      · rw [h1] at hn; exact hn.elim
  · exact hk _ _ (h.put _ _) hn
  · exact hn

end Go.Pv
