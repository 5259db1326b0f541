/- The operations that write are right. -/
import Derived.Test.YtoehgdamenpclaaDoorPvI
namespace Go.Pv
open Go

variable {cx : Cx} {gh : Gh} {σ : AS} {a : Act} {w : World} {o : Oper}

/-- Cells of a box that are nil slices may be opened as groups. -/
theorem RR.openB {a : Act} {w : World} (k : Nat) (hint : List (Nat × Nat)) : ∀ (ns : List Nat) (σ : AS) (gh : Gh), RR cx gh σ a w → (look k σ.bx).isSome = true →
    (∀ j ∈ ns, cellAt w.heap (gh.bl k) j = some (.slice none 0 0)) → ∃ gh', RR cx gh' (σ.openB k hint ns) a w
  | [], σ, gh, r, _, _ => ⟨gh, r⟩
  | j :: ns, σ, gh, r, hk, hc => by
    simp only [AS.openB]
    split
    · rename_i e he
      split
      · exact RR.openB k hint ns σ gh r hk (fun i hi => hc i (List.mem_cons_of_mem _ hi))
      · rename_i hu
        have hu' : σ.usesB (gid k j) = false := by simpa using hu
        have r1 := r.regroup (gid k j) (AS.not_uses hu') (.slice none 0 0)
        have hcj := hc j (List.mem_cons_self ..)
        have r2 := r1.tagCell k j (gid k j) e hk (by dsimp only; rw [upd_same]; exact hcj) (by dsimp only; rw [upd_same]; exact OwnOk.nil _ _)
        exact RR.openB k hint ns _ _ r2 hk (fun i hi => hc i (List.mem_cons_of_mem _ hi))
    · exact RR.openB k hint ns σ gh r hk (fun i hi => hc i (List.mem_cons_of_mem _ hi))

theorem eff_assign (r : RR cx gh σ a w) {x : Operand} (ho : o.op = .assign x) (hd : ∀ t, o.dst = some t → t < σ.n ∧ t ∉ σ.fx) :
    (∀ c z, assignR cx.gl σ o.dst x = .val c z → ValOk cx σ a w o z) ∧ (∀ c σ', assignR cx.gl σ o.dst x = .eff c σ' → EffOk cx a w o σ') := by
  have he : execOp a.eval o = pure (.value (a.eval x)) := by simp [execOp, ho]
  cases x with
  | const v =>
    have he' : execOp a.eval o = pure (.value v) := he
    have hv : ∀ {v'}, isNil v' = true → v' = .slice none 0 0 := fun {v'} h => by
      unfold isNil at h
      split at h
      · rfl
      · cases h
    simp only [assignR]
    split
    · rename_i hn
      have hv := hv hn
      subst hv
      have hval : ValOk cx σ a w o (.v (.slice []) none) := val_const r _ _ (.slice0 _ _) he'
      split
      · rename_i d hdd
        split
        · rename_i el hl
          split
          · exact ⟨fun c z h => (by simp only [OR.val.injEq] at h; obtain ⟨-, rfl⟩ := h; exact hval), fun c σ' h => (by cases h)⟩
          · rename_i hu
            refine ⟨fun c z h => (by cases h), fun c σ' h => ?_⟩
            simp only [OR.eff.injEq] at h
            obtain ⟨-, rfl⟩ := h
            have hu' : σ.usesB d = false := by simpa using hu
            have r1 := r.regroup d (AS.not_uses hu') (.slice none 0 0)
            refine .inl ⟨.slice none 0 0, w, by rw [he']; rfl, { gh with gv := upd gh.gv d (.slice none 0 0) }, ?_⟩
            have r2 := r1.putTag (some d) (fun t ht => hd t (by rw [hdd]; exact ht)) d el (x := .slice []) (by dsimp only; rw [upd_same]; exact .slice0 _ _) (by dsimp only; rw [upd_same]; exact OwnOk.nil _ _) (fun e' h => absurd h (AS.not_uses hu' e'))
            rw [hdd]
            dsimp only at r2
            rw [upd_same] at r2
            exact r2
        · exact ⟨fun c z h => (by simp only [OR.val.injEq] at h; obtain ⟨-, rfl⟩ := h; exact hval), fun c σ' h => (by cases h)⟩
      · exact ⟨fun c z h => (by simp only [OR.val.injEq] at h; obtain ⟨-, rfl⟩ := h; exact hval), fun c σ' h => (by cases h)⟩
    · refine ⟨fun c z h => ?_, fun c σ' h => (by cases h)⟩
      simp only [OR.val.injEq] at h
      obtain ⟨-, rfl⟩ := h
      exact val_copy r (.const v) he
  | tmp t =>
    refine ⟨fun c z h => ?_, fun c σ' h => (by cases h)⟩
    simp only [assignR, OR.val.injEq] at h
    obtain ⟨-, rfl⟩ := h
    exact val_copy r _ he
  | global g =>
    refine ⟨fun c z h => ?_, fun c σ' h => (by cases h)⟩
    simp only [assignR, OR.val.injEq] at h
    obtain ⟨-, rfl⟩ := h
    exact val_copy r _ he
  | func g =>
    refine ⟨fun c z h => ?_, fun c σ' h => (by cases h)⟩
    simp only [assignR, OR.val.injEq] at h
    obtain ⟨-, rfl⟩ := h
    exact val_copy r _ he

/-- A new box whose pointer goes to its own slot. -/
theorem new_box (r : RR cx gh σ a w) {k : Nat} (hd : k < σ.n ∧ k ∉ σ.fx) (hk : look k σ.bx = none) (hcl : noClP k σ.tm) {cells : List AV} {cs : Array Value} (e : TypeId) (hc : RepL gh.lim w.heap cs.toList cells) (ns : List Nat)
    (hns : ∀ j ∈ ns, cs[j]? = some (.slice none 0 0)) :
    R cx (AS.openB ({ σ with bx := (k, cells) :: σ.bx }.put (some k) (.lp k 0)) k σ.hint ns) (a.put (some k) (.pointer (some ⟨w.heap.size, 0, none⟩))) (w.alloc (.cells cs e)) := by
  have r1 := r.newbox k hk hcl cells cs e hc
  have r2 := r1.put (some k) (fun t ht => by injection ht with ht; subst ht; exact hd) (v := .pointer (some ⟨w.heap.size, 0, none⟩)) (x := .lp k 0) rfl (by simp [TRep]) (fun k' off h => by injection h with h1 h2; subst h1; simp [look]) (by simp)
  refine RR.openB k σ.hint ns _ _ r2 (by simp [AS.put, look]) (fun j hj => ?_)
  have h1 := hns j hj
  dsimp only
  rw [upd_same]
  unfold cellAt
  rw [show (w.alloc (.cells cs e)).heap[w.heap.size]? = some (.cells cs e (0, 0)) from heap_alloc_new w _]
  exact h1

theorem eff_box (r : RR cx gh σ a w) {t : Nat} {x : Operand} (ho : o.op = .box t x) (hd : ∀ t, o.dst = some t → t < σ.n ∧ t ∉ σ.fx) {c : Prop} {σ' : AS} (h : boxR σ o.dst (Pv.ev cx.gl σ x) = .eff c σ') (hcc : c) : EffOk cx a w o σ' := by
  have hrun : (execOp a.eval o).run cx.P w = .ok (.value (.pointer (some ⟨w.heap.size, 0, none⟩))) (w.alloc (.cells (a.eval x).cells t)) := by simp [execOp, ho, Instr.box, newVar, newRow]
  have hx := r.ev x
  unfold boxR at h
  split at h
  · rename_i l ns hx'
    rw [hx'] at hx
    split at h
    · rename_i k hk
      split at h
      · rename_i hl
        simp only [OR.eff.injEq] at h
        obtain ⟨hce, rfl⟩ := h
        subst hce
        refine .inl ⟨_, _, hrun, ?_⟩
        rw [hk]
        exact new_box r (hd k hk) hl hcc.1 t (flatRep hx.1) ns hx.2
      · cases h
    · cases h
  · rename_i y g hx'
    rw [hx'] at hx
    split at h
    · rename_i k hk
      split at h
      · rename_i hl
        simp only [OR.eff.injEq] at h
        obtain ⟨hce, rfl⟩ := h
        subst hce
        refine .inl ⟨_, _, hrun, ?_⟩
        rw [hk]
        exact new_box r (hd k hk) hl hcc.1 t (flatRep hx.1) [] (by simp)
      · cases h
    · cases h
  · cases h

theorem eff_alloc (r : RR cx gh σ a w) {t : Nat} (ho : o.op = .alloc t) (hd : ∀ t, o.dst = some t → t < σ.n ∧ t ∉ σ.fx) {c : Prop} {σ' : AS} (h : allocR cx.P σ o.dst t = .eff c σ') (hcc : c) : EffOk cx a w o σ' := by
  unfold allocR at h
  split at h
  · rename_i z k hz hk
    split at h
    · rename_i hl
      simp only [OR.eff.injEq] at h
      obtain ⟨hce, rfl⟩ := h
      subst hce
      obtain ⟨i, zv, hi, hzv, hzs, hzr, hns⟩ := azero_spec hz gh w.heap
      have hrun : (execOp a.eval o).run cx.P w = .ok (.value (.pointer (some ⟨w.heap.size, 0, none⟩))) (w.alloc (.cells zv.cells t)) := by
        simp [execOp, ho, Instr.alloc, zeroValue, typeInfo, hi, hzv, newVar, newRow]
      refine .inl ⟨_, _, hrun, ?_⟩
      rw [hk]
      exact new_box r (hd k hk) hl hcc t hzr _ hns
    · cases h
  · cases h

theorem RR.put_undef (r : RR cx gh σ a w) (d : Option Nat) (hd : d = none) (v : Value) : RR cx gh σ (a.put d v) w := by subst hd; exact r

theorem run_storeVar {P : Program} {w : World} {t b off : Nat} {v : Value} {cur : Array Value} {e : TypeId} (hcur : w.heap[b]? = some (.cells cur e (0, 0))) (hsz : v.cells.size = esz P t) (hi : (P.info? t).isSome = true)
    (hfit : off + v.cells.toList.length ≤ cur.size) (h1 : ∀ u ∈ v.cells.toList, u.oneCell' = true) :
    (storeVar t ⟨b, off, none⟩ v).run P w = .ok () (w.setRow b (cur.toList.take off ++ v.cells.toList ++ cur.toList.drop (off + v.cells.toList.length)).toArray) := by
  have hst := run_storeCells_at P b off e v.cells.toList 0 cur w hcur (by simpa using hfit) h1
  unfold storeVar
  simp only [Sem.run_bind, run_sizeOf hi, Result.andThen_ok, hsz, ne_eq, not_true, if_false]
  simpa using hst

theorem ones_of {lim : Lim} {h : Array Obj} {vs : List Value} {xs : List AV} (r : RepL lim h vs xs) (h1 : xs.all AV.one = true) : ∀ u ∈ vs, u.oneCell' = true := by
  intro u hu
  obtain ⟨j, hj⟩ := List.getElem?_of_mem hu
  have hlt : j < xs.length := by rw [← r.1]; exact (List.getElem?_eq_some_iff.1 hj).1
  have := r.2 j xs[j] (by simp [hlt])
  rw [List.getD_eq_getElem?_getD, hj] at this
  exact this.oneCell (List.all_eq_true.1 h1 _ (List.getElem_mem hlt))

/-- The stores write no temporary. -/
theorem eff_store (r : RR cx gh σ a w) (hgy : cx.gl.y = none) {t : Nat} {x y : Operand} (ho : o.op = .store t x y) (hd : o.dst = none) (hi : (cx.P.info? t).isSome = true) {c : Prop} {σ' : AS} (h : storeR cx.P σ t (Pv.ev cx.gl σ x) (Pv.ev cx.gl σ y) = .eff c σ') (hc : c) : EffOk cx a w o σ' := by
  have hx := r.ev x
  have hy := r.ev y
  have he : ∀ ad, a.eval x = .pointer (some ad) → execOp a.eval o = (do storeVar t ad (a.eval y); pure .skip) := fun ad hp => by simp [execOp, ho, hp, Instr.storeAt, Instr.sureAddr]
  unfold storeR at h
  split at h
  · cases h
  · rename_i yv hyv
    have hyr := av_rep hy hyv
    have hfl := flat_len hyr
    split at h
    · rename_i k off hk
      rw [hk] at hx
      split at h
      · rename_i cells hcells
        simp only [OR.eff.injEq] at h
        obtain ⟨h1, rfl⟩ := h
        subst h1
        obtain ⟨hlen, hfit, hone⟩ := hc
        have htg : ∀ p, tagOf (Pv.ev cx.gl σ y) = some p → (a.eval y).cells.toList = [gh.gv p.1] ∧ σ.uses p.1 p.2 := by
          intro p hp
          cases hq : Pv.ev cx.gl σ y with
          | v z g =>
            rw [hq] at hp hy
            simp only [tagOf] at hp
            subst hp
            have hv := hy.2 p rfl
            have hu := r.ev_uses y hq
            refine ⟨?_, hu⟩
            obtain ⟨⟨m, xs, hown, -⟩, -⟩ := r.own p.1 p.2 hu
            rw [hv]
            rcases hown.2 with ⟨h0, -⟩ | ⟨g', cap, cur', h0, -⟩ <;> rw [h0] <;> rfl
          | un => rw [hq] at hp; cases hp
          | bld l ns => rw [hq] at hp; cases hp
          | lp k' o' => rw [hq] at hp; cases hp
          | it s p => rw [hq] at hp; cases hp
          | cl f ks => rw [hq] at hp; cases hp
        obtain ⟨cur, e, hcur, hfit2, r2⟩ := r.store hgy k off hcells (a.eval y).cells.toList (flat yv) (flatRep hyr) hfit (tagOf (Pv.ev cx.gl σ y)) htg
        have hrun := run_storeVar (P := cx.P) (t := t) (v := a.eval y) hcur (by rw [hfl]; exact hlen) hi hfit2 (ones_of (flatRep hyr) hone)
        refine .inr ⟨_, by rw [he ⟨gh.bl k, off, none⟩ hx]; simp only [Sem.run_bind, hrun, Result.andThen_ok, Sem.run_pure]; rfl, ?_⟩
        rw [hlen] at r2
        obtain ⟨gh', r3⟩ := RR.openB k σ.hint ((nsOf (Pv.ev cx.gl σ y)).map (off + ·)) _ _ r2 (by simp [look]) (fun j hj => by
          obtain ⟨j', hj', rfl⟩ := List.mem_map.1 hj
          cases hq : Pv.ev cx.gl σ y with
          | bld l ns =>
            rw [hq] at hj' hy
            have hcell := hy.2 j' hj'
            have hjl : j' < (a.eval y).cells.size := (Array.getElem?_eq_some_iff.1 hcell).1
            unfold cellAt
            rw [setRow_heap w _ cur _ e _ hcur]
            have htl : (cur.toList.take off).length = off := by simp at hfit2 ⊢; omega
            show ((cur.toList.take off ++ (a.eval y).cells.toList ++ cur.toList.drop (off + (a.eval y).cells.toList.length)).toArray)[off + j']? = _
            rw [List.getElem?_toArray, List.append_assoc, List.getElem?_append_right (by omega), htl, List.getElem?_append_left (by simp; omega)]
            simpa using hcell
          | un => rw [hq] at hj'; cases hj'
          | v z g => rw [hq] at hj'; cases hj'
          | lp k' o' => rw [hq] at hj'; cases hj'
          | it s p => rw [hq] at hj'; cases hj'
          | cl f ks => rw [hq] at hj'; cases hj')
        exact ⟨gh', r3.put_undef o.dst hd _⟩
      · cases h
    · rename_i b off g hk
      rw [hk] at hx
      split at h
      · rename_i cells hcells
        simp only [OR.eff.injEq] at h
        obtain ⟨h1, rfl⟩ := h
        subst h1
        obtain ⟨hlen, hfit, hone⟩ := hc
        obtain ⟨cur, e, hcur, hfit2, r2⟩ := r.storeSh hgy b off hcells (a.eval y).cells.toList (flat yv) (flatRep hyr) hfit
        have hrun := run_storeVar (P := cx.P) (t := t) (v := a.eval y) hcur (by rw [hfl]; exact hlen) hi hfit2 (ones_of (flatRep hyr) hone)
        refine .inr ⟨_, by rw [he ⟨b, off, none⟩ (rep_gp hx.1)]; simp only [Sem.run_bind, hrun, Result.andThen_ok, Sem.run_pure], gh, r2.put_undef o.dst hd _⟩
      · cases h
    · cases h

/-! ### Slice literals -/
theorem rowsOf_spec (r : RR cx gh σ a w) : ∀ (parts : List (Nat × Operand)) (i : Nat) (l : List (List AV)), rowsOf (Pv.ev cx.gl σ) i parts = some l →
    l.length = parts.length ∧ RepL gh.lim w.heap (parts.flatMap fun p => (a.eval p.2).cells.toList) l.flatten ∧ ∀ sz, Rows sz l → ∀ (n : Nat) (p : Nat × Operand), parts[n]? = some p → p.1 = i + n ∧ (a.eval p.2).cells.size = sz
  | [], i, l, h => by
    simp only [rowsOf, Option.some.injEq] at h
    subst h
    exact ⟨rfl, RepL.nil _ _, fun _ _ n p hp => by simp at hp⟩
  | (j, x) :: parts, i, l, h => by
    simp only [rowsOf] at h
    split at h
    · rename_i hij
      subst hij
      split at h
      · rename_i y l' hy hl
        injection h with h
        subst h
        obtain ⟨h1, h2, h3⟩ := rowsOf_spec r parts (i + 1) l' hl
        have hyr := r.av x y hy
        refine ⟨by simp [h1], ?_, ?_⟩
        · rw [List.flatMap_cons, List.flatten_cons]
          exact (flatRep hyr).append h2
        · intro sz hs n p hp
          cases n with
          | zero =>
            simp only [List.getElem?_cons_zero, Option.some.injEq] at hp
            subst hp
            exact ⟨rfl, by rw [flat_len hyr]; exact (hs _ (by simp)).1⟩
          | succ n =>
            obtain ⟨g1, g2⟩ := h3 sz (fun q hq => hs q (by simp [hq])) n p (by simpa using hp)
            exact ⟨by omega, g2⟩
      · cases h
    · cases h

/-- Filling a row literal, part after part. -/
theorem fill_rows (ρ : Operand → Value) (sz : Nat) : ∀ (parts : List (Nat × Operand)) (i : Nat) (cells : Array Value), (∀ (n : Nat) (p : Nat × Operand), parts[n]? = some p → p.1 = i + n ∧ (ρ p.2).cells.size = sz) →
    cells.size = (i + parts.length) * sz →
    Instr.fill (fun q => some (q * sz, sz)) cells (parts.map fun p => (p.1, ρ p.2)) = some (cells.toList.take (i * sz) ++ parts.flatMap fun p => (ρ p.2).cells.toList).toArray
  | [], i, cells, _, hc => by
    simp only [List.map_nil, Instr.fill, List.flatMap_nil, List.append_nil]
    rw [List.take_of_length_le (by simp only [Array.length_toList, hc, List.length_nil, Nat.add_zero]; exact Nat.le_refl _)]
  | (j, x) :: parts, i, cells, h, hc => by
    obtain ⟨h1, h2⟩ := h 0 (j, x) rfl
    simp only [Nat.add_zero] at h1
    simp only at h2
    obtain rfl : i = j := h1.symm
    simp only [List.length_cons] at hc
    have hfit : i * sz + (ρ x).cells.size ≤ cells.size := by rw [h2, hc, show i + (parts.length + 1) = i + 1 + parts.length by omega, Nat.add_mul, Nat.add_mul]; omega
    simp only [List.map_cons, Instr.fill]
    rw [if_neg (by rw [h2] at hfit ⊢; simp; omega), fill_part cells (ρ x).cells (i * sz) hfit]
    have hlen : (cells.toList.take (i * sz) ++ (ρ x).cells.toList ++ cells.toList.drop (i * sz + (ρ x).cells.size)).toArray.size = (i + 1 + parts.length) * sz := by
      simp only [List.size_toArray, List.length_append, List.length_take, List.length_drop, Array.length_toList]
      rw [hc, show i + (parts.length + 1) = i + 1 + parts.length by omega] at *
      omega
    rw [fill_rows ρ sz parts (i + 1) _ (fun n p hp => by
      obtain ⟨g1, g2⟩ := h (n + 1) p (by simpa using hp)
      exact ⟨by omega, g2⟩) hlen]
    congr 1
    apply Array.ext'
    simp only [List.flatMap_cons]
    have e1 : (i + 1) * sz = (cells.toList.take (i * sz) ++ (ρ x).cells.toList).length := by
      simp only [List.length_append, List.length_take, Array.length_toList]
      rw [Nat.add_mul, Nat.one_mul, h2]
      omega
    rw [e1, List.take_left]
    simp

theorem RR.rep_new {v : Value} {x : AV} (r : Rep gh.lim w.heap v x) (o : Obj) (lim' : Lim) (hl : ∀ b, b < w.heap.size → lim' b = gh.lim b) : Rep lim' (w.alloc o).heap v x :=
  r.mono (Keep.of_same hl (fun b hb => heap_alloc_old w o hb))

theorem eff_buildSlice (r : RR cx gh σ a w) {t len : Nat} {parts : Array (Nat × Operand)} (ho : o.op = .buildSlice t len parts) (hd : ∀ t, o.dst = some t → t < σ.n ∧ t ∉ σ.fx) :
    (∀ c z, buildSliceR cx.P σ o.dst t len (rowsOf (Pv.ev cx.gl σ) 0 parts.toList) = .val c z → c → ValOk cx σ a w o z) ∧
    (∀ c σ', buildSliceR cx.P σ o.dst t len (rowsOf (Pv.ev cx.gl σ) 0 parts.toList) = .eff c σ' → c → EffOk cx a w o σ') := by
  generalize hrows : rowsOf (Pv.ev cx.gl σ) 0 parts.toList = rows
  unfold buildSliceR
  cases he : elemT cx.P t with
  | none => exact ⟨fun c z h => (by cases h), fun c σ' h => (by cases h)⟩
  | some e =>
    cases rows with
    | none => exact ⟨fun c z h => (by cases h), fun c σ' h => (by cases h)⟩
    | some l =>
      simp only []
      split
      · rename_i hcond
        obtain ⟨hbig, hlen, haz, hsz0⟩ := hcond
        obtain ⟨hu, hie⟩ := elemT_spec he
        obtain ⟨z0, hz0⟩ := Option.isSome_iff_exists.1 haz
        obtain ⟨i, zv, hi, hz, hzs, -, -⟩ := azero_spec hz0 gh w.heap
        have hes : esz cx.P e = i.size := by simp [esz, hi]
        obtain ⟨hl1, hl2, hl3⟩ := rowsOf_spec r parts.toList 0 l hrows
        -- the run
        have hrun : Rows (esz cx.P e) l → ∃ cells : Array Value, (execOp a.eval o).run cx.P w = .ok (.value (.slice (some ⟨w.heap.size, 0, none⟩) len len)) (w.alloc (.cells cells e)) ∧ RepL gh.lim w.heap cells.toList l.flatten ∧ cells.size = len * esz cx.P e := by
          intro hr
          have h3 := hl3 _ hr
          refine ⟨(parts.toList.flatMap fun p => (a.eval p.2).cells.toList).toArray, ?_, by simpa using hl2, ?_⟩
          · have hf := fill_rows a.eval (esz cx.P e) parts.toList 0 ((Array.range (len * esz cx.P e)).map (zv.cells[· % zv.cells.size]!)) h3 (by simp; rw [← hlen, hl1]; simp)
            simp only [Nat.zero_mul, List.take_zero, List.nil_append] at hf
            have hparts : (parts.map fun p => (p.1, a.eval p.2)).toList = parts.toList.map fun p => (p.1, a.eval p.2) := by simp
            have hb2 : ¬ (16777216 < len * esz cx.P e) := by omega
            unfold execOp
            simp only [ho]
            unfold Instr.buildSlice
            by_cases h0 : len * esz cx.P e = 0
            · have hl0 : len = 0 := by
                rcases Nat.mul_eq_zero.1 h0 with h | h
                · exact h
                · exact absurd h hsz0
              have hp0 : parts.toList = [] := List.eq_nil_of_length_eq_zero (by rw [← hl1, hlen, hl0])
              have hp1 : parts = #[] := by rw [← Array.toArray_toList (xs := parts), hp0]
              subst hp1
              simp [run_underlying hu, run_sizeOf hie, hl0, Instr.fill, newRow, Array.range_zero']
            · simp only [Sem.run_bind, run_underlying hu, Result.andThen_ok, run_sizeOf hie, gt_iff_lt, show (2 : Nat) ^ 24 = 16777216 from rfl, hb2, if_false, h0, Sem.run_pure, zeroValue, typeInfo, run_program, hi, hz]
              rw [show (Array.map (fun x => match x with | (i, x) => (i, a.eval x)) parts).toList = parts.toList.map fun p => (p.1, a.eval p.2) by simp]
              rw [hf]
              simp [newRow]
          · have hflen : ∀ (m : List (List AV)), Rows (esz cx.P e) m → m.flatten.length = m.length * esz cx.P e := by
              intro m
              induction m with
              | nil => intro _; simp
              | cons x m ih => intro hm; rw [List.flatten_cons, List.length_append, ih (fun y hy => hm y (by simp [hy])), (hm x (by simp)).1, List.length_cons, Nat.add_mul]; omega
            have h4 := hl2.1
            rw [hflen l hr, hlen] at h4
            simpa using h4
        have hrep : ∀ (cells : Array Value) (lim' : Lim), (∀ b, b < w.heap.size → lim' b = gh.lim b) → (∀ j, j < len * esz cx.P e → lim'.ok w.heap.size j) → Rows (esz cx.P e) l → RepL gh.lim w.heap cells.toList l.flatten → cells.size = len * esz cx.P e →
            Rep lim' (w.alloc (.cells cells e)).heap (.slice (some ⟨w.heap.size, 0, none⟩) len len) (.slice l) := by
          intro cells lim' hl hok hr hrl hcs
          have := Rep.slice_mk (lim := lim') (h := (w.alloc (.cells cells e)).heap) (b := w.heap.size) (off := 0) (cap := len) (sz := esz cx.P e) (l := l) (vs := cells.toList) (by omega) (fun x hx => (hr x hx).1)
            (hrl.mono (Keep.of_same hl (fun b hb => heap_alloc_old w _ hb))) (fun j u hu => by
              have hj : j < len * esz cx.P e := by rw [← hcs]; simpa using (List.getElem?_eq_some_iff.1 hu).1
              refine ⟨by rw [Nat.zero_add]; exact hok j hj, ?_⟩
              unfold cellAt
              rw [show (w.alloc (.cells cells e)).heap[w.heap.size]? = some (.cells cells e (0, 0)) from heap_alloc_new w _]
              simpa using hu)
          rwa [hlen] at this
        have hval : Rows (esz cx.P e) l → ValOk cx σ a w o (.v (.slice l) none) := by
          intro hr
          obtain ⟨cells, h1, h2, h3⟩ := hrun hr
          refine ⟨_, _, _, h1, r.newrow _, trep_v (hrep cells _ (fun b hb => limUp_lt hb) (fun j _ n hn => ?_) hr h2 h3), by simp, by simp⟩
          have hn : limUp gh.lim w.heap.size w.heap.size = some n := hn
          rw [limUp_ge (Nat.le_refl _)] at hn; cases hn
        split
        · rename_i k hk
          split
          · rename_i el hl
            split
            · rename_i hu'
              obtain ⟨hu', rfl⟩ := hu'
              refine ⟨fun c z h => (by cases h), fun c σ' h hc => ?_⟩
              simp only [OR.eff.injEq] at h
              obtain ⟨h1, rfl⟩ := h
              subst h1
              obtain ⟨cells, h1, h2, h3⟩ := hrun hc
              let lim' : Lim := upd gh.lim w.heap.size (some (len * esz cx.P el))
              have hl' : ∀ b, b < w.heap.size → lim' b = gh.lim b := fun b hb => upd_ne _ _ (by omega)
              have r1 := r.grow (w' := w.alloc (.cells cells el)) lim' (Frm.alloc w _) hl'
              have r2 := r1.regroup k (AS.not_uses hu') (.slice (some ⟨w.heap.size, 0, none⟩) len len)
              have hlm : len ≤ maxLen := by
                have : len ≤ len * esz cx.P el := Nat.le_mul_of_pos_right _ (by omega)
                simp only [maxLen]; omega
              have r3 := r2.putTag (some k) (fun t ht => hd t (by rw [hk]; exact ht)) k el (x := .slice l) (by
                  dsimp only; rw [upd_same]
                  exact hrep cells lim' hl' (fun j hj n hn => by simp only [lim', upd_same, Option.some.injEq] at hn; omega) hc h2 h3) (by
                  dsimp only; rw [upd_same]
                  refine ⟨⟨len, cells.toList, World.ownsRow_lit w cells len r.base hlm h3, fun b hb => ?_⟩, fun b hb => ⟨fun k' hk' => ?_, ?_⟩, fun g' e' hg' hne b hb => ?_⟩
                  · simp only [Value.ownBlock, Option.some.injEq] at hb; subst hb; simp [lim']
                  · simp only [Value.ownBlock, Option.some.injEq] at hb; subst hb
                    have := r.lt_box hk'
                    dsimp only; omega
                  · simp only [Value.ownBlock, Option.some.injEq] at hb; subst hb
                    cases hs : look w.heap.size σ.sh with
                    | none => rfl
                    | some q => have := r.lt_sh (b := w.heap.size) (by simp [hs]); omega
                  · simp only [Value.ownBlock, Option.some.injEq] at hb; subst hb
                    dsimp only
                    rw [upd_ne gh.gv _ hne]
                    intro he'
                    have := (r.lt_own hg' he').1
                    omega) (fun e' h => absurd h (AS.not_uses hu' e'))
              dsimp only at r3
              rw [upd_same] at r3
              rw [← hk] at r3
              exact .inl ⟨_, _, h1, _, by rw [← hk]; exact r3⟩
            · refine ⟨fun c z h hc => ?_, fun c σ' h => (by cases h)⟩
              simp only [OR.val.injEq] at h
              obtain ⟨h1, rfl⟩ := h
              subst h1
              exact hval hc
          · refine ⟨fun c z h hc => ?_, fun c σ' h => (by cases h)⟩
            simp only [OR.val.injEq] at h
            obtain ⟨h1, rfl⟩ := h
            subst h1
            exact hval hc
        · exact ⟨fun c z h => (by cases h), fun c σ' h => (by cases h)⟩
      · exact ⟨fun c z h => (by cases h), fun c σ' h => (by cases h)⟩

/-! ### append -/
theorem ownsRow_congr {w : World} {base : Nat} {e size : Nat} {v : Value} {n m : Nat} {xs ys : List Value} (h : w.ownsRow base e size v n xs) (h' : w.ownsRow base e size v m ys) : n = m := by
  rcases h.2 with ⟨rfl, rfl⟩ | ⟨g, cap, cur, rfl, _, _, _⟩
  · rcases h'.2 with ⟨_, rfl⟩ | ⟨g, cap, cur, h, _⟩
    · rfl
    · cases h
  · rcases h'.2 with ⟨h, _⟩ | ⟨g, cap, cur, h, _⟩
    · cases h
    · injection h

theorem eff_append (r : RR cx gh σ a w) (hgy : cx.gl.y = none) {t : Nat} {s x : Operand} (ho : o.op = .call { callee := .builtin .append, args := #[s, x], argTypes := #[t, t] }) (hd : ∀ t, o.dst = some t → t < σ.n ∧ t ∉ σ.fx) {c : Prop} {σ' : AS}
    (h : appendR cx.P σ o.dst t (Pv.ev cx.gl σ s) (Pv.ev cx.gl σ x).av = .eff c σ') (hc : c) : EffOk cx a w o σ' := by
  unfold appendR at h
  split at h
  · rename_i l g el ys e hs hx he
    split at h
    · rename_i hcond
      obtain ⟨rfl, hok⟩ := hcond
      simp only [OR.eff.injEq] at h
      obtain ⟨h1, rfl⟩ := h
      subst h1
      obtain ⟨⟨hrowsl, hrows⟩, hbytes⟩ := hc
      obtain ⟨hu, hie⟩ := elemT_spec he
      obtain ⟨i, hi⟩ := Option.isSome_iff_exists.1 hie
      have hes : esz cx.P el = i.size := by simp [esz, hi]
      have heb : ebytes cx.P el = i.bytes := by simp [ebytes, hi]
      unfold appOk at hok
      rw [hi] at hok
      simp only at hok
      cases hz : i.zero with
      | none => rw [hz] at hok; cases hok
      | some z =>
        rw [hz] at hok
        simp only [Bool.and_eq_true, beq_iff_eq, bne_iff_ne, ne_eq] at hok
        have huse := r.ev_uses s hs
        have hsv := r.ev s
        rw [hs] at hsv
        have hv : a.eval s = gh.gv g := hsv.2 _ rfl
        obtain ⟨⟨m, xs, hown, hlim⟩, hap⟩ := r.own g el huse
        have hxr := r.av x _ hx
        obtain ⟨p, cap, hxv, hcap⟩ := hxr.slice_form
        rw [hxv] at hxr
        obtain ⟨q, qcap, hsform, -⟩ := hsv.1.slice_form
        -- the group's length is the list's
        have hm : m = l.length := by
          rw [hv] at hsform
          rcases hown.2 with ⟨h0, h1⟩ | ⟨g', cap', cur, h0, _⟩
          · rw [h0] at hsform; injection hsform with _ h2 _; omega
          · rw [h0] at hsform; injection hsform with _ h2 _
        subst hm
        have hbytes' : (l.length + ys.length) * i.bytes ≤ 140737488355328 := by rw [← heb]; exact hbytes
        have hmax : l.length + ys.length ≤ maxLen := by
          have : l.length + ys.length ≤ (l.length + ys.length) * i.bytes := Nat.le_mul_of_pos_right _ (by omega)
          simp only [maxLen]; omega
        -- the new cells
        obtain ⟨news, hnl, hnr, hncell⟩ : ∃ news : List Value, news.length = ys.length * i.size ∧ RepL gh.lim w.heap news ys.flatten ∧ ∀ ad, p = some ad → ∀ j u, news[j]? = some u → w.cell? (ad.add j) = some u := by
          by_cases hy0 : ys = []
          · subst hy0
            exact ⟨[], by simp, RepL.nil _ _, fun ad _ j u hu => by simp at hu⟩
          · obtain ⟨b, off, vs, hp, hvl, hvr, hvc⟩ := hxr.slice_cells (sz := esz cx.P el) (fun y hy => (hrows y hy).1) hy0
            refine ⟨vs, by rw [hvl, hes], hvr, fun ad had j u hu => ?_⟩
            rw [hp] at had
            injection had with had
            subst had
            rw [Addr.add_lit, cell?_eq]
            exact (hvc j u hu).2
        have hp0 : p = none → ys.length = 0 := by
          intro hpn
          cases ys with
          | nil => rfl
          | cons y ys' =>
            obtain ⟨b, off, hp, _⟩ := hxr.row (i := 0) (x := y) rfl
            rw [hpn] at hp; cases hp
        have hone : ∀ u ∈ news, u.oneCell' = true := by
          refine ones_of hnr ?_
          rw [List.all_eq_true]
          intro y hy
          obtain ⟨rr, hrr, hyr⟩ := List.mem_flatten.1 hy
          exact List.all_eq_true.1 (hrows rr hrr).2 y hyr
        rw [hes] at hown
        obtain ⟨v', w', hrun, hown', hf, hb, hk⟩ := run_append_pv (P := cx.P) w cx.B t o.type el i z hu hi hz hok.1 (gh.gv g) l.length xs hown p ys.length cap news hnl hp0 hncell hone hbytes' hmax r.base
        obtain ⟨gh', r2, hg', hkeep, hlim', hap', hal'⟩ := r.append hgy g el huse v' (l.length + ys.length) (xs ++ news) (by rw [hes]; exact hown') hf hb (fun n xs' hn => by
          have hnl' : n = l.length := by rw [hes] at hn; exact ownsRow_congr hn hown
          subst hnl'
          exact ⟨by omega, fun b o' u h1 h2 h3 => hk b o' u h1 (by rw [hes] at h2; exact h2) h3⟩)
        have hex : (execOp a.eval o).run cx.P w = .ok (.value v') w' := by
          simp only [execOp, ho, resolve, invoke, builtin, Sem.run_bind, Sem.run_pure, Result.andThen_ok, List.map_toArray, List.map_cons, List.map_nil, hv, hxv, hrun]
        -- what the new value reads as
        have hrep : Rep gh'.lim w'.heap v' (.slice (l ++ ys)) := by
          have hxs : RepL gh'.lim w'.heap xs l.flatten := by
            by_cases hl0 : l = []
            · subst hl0
              have : xs = [] := List.eq_nil_of_length_eq_zero (by rw [hown.1]; simp)
              subst this
              exact RepL.nil _ _
            · have hsr := hsv.1
              rw [hv] at hsr
              rcases hown.2 with ⟨h0, h1⟩ | ⟨g', cap', cur, h0, _, hg, _, _, hcs, htake⟩
              · exact absurd (List.eq_nil_of_length_eq_zero h1) hl0
              · rw [h0] at hsr
                obtain ⟨b, off, vs, hp, hvl, hvr, hvc⟩ := hsr.slice_cells (sz := esz cx.P el) (fun y hy => (hrowsl y hy).1) hl0
                simp only [Option.some.injEq, Addr.mk.injEq, and_true] at hp
                obtain ⟨rfl, rfl⟩ := hp
                have hvx : vs = xs := by
                  apply List.ext_getElem?
                  intro j
                  rcases Nat.lt_or_ge j vs.length with hj | hj
                  · have h1 := (hvc j vs[j] (by simp [hj])).2
                    unfold cellAt at h1
                    rw [hg, Nat.zero_add] at h1
                    rw [← htake, List.getElem?_take, if_pos (by rw [hvl, hes] at hj; exact hj)]
                    simp only [] at h1
                    rw [List.getElem?_eq_getElem hj]
                    simpa using h1.symm
                  · rw [List.getElem?_eq_none hj, List.getElem?_eq_none (by rw [hown.1, ← hes, ← hvl]; exact hj)]
                subst hvx
                exact hvr.mono hkeep
          have hall : RepL gh'.lim w'.heap (xs ++ news) (l ++ ys).flatten := by
            rw [List.flatten_append]
            exact hxs.append (hnr.mono hkeep)
          rcases hown'.2 with ⟨h0, h1⟩ | ⟨g', cap', cur, h0, _, hg, hnc, _, hcs, htake⟩
          · have hl0 : l = [] := List.eq_nil_of_length_eq_zero (by omega)
            have hy0 : ys = [] := List.eq_nil_of_length_eq_zero (by omega)
            subst hl0; subst hy0
            rw [h0]
            exact .slice0 _ _
          · have hlimg := hlim' g' (by rw [h0]; rfl)
            rw [h0]
            have := Rep.slice_mk (lim := gh'.lim) (h := w'.heap) (b := g') (off := 0) (cap := cap') (sz := esz cx.P el) (l := l ++ ys) (vs := xs ++ news) (by simp; omega) (fun y hy => by
              rcases List.mem_append.1 hy with hy | hy
              · exact (hrowsl y hy).1
              · exact (hrows y hy).1) hall (fun j u hu => by
              have hj : j < (l.length + ys.length) * i.size := by rw [← hown'.1]; exact (List.getElem?_eq_some_iff.1 hu).1
              refine ⟨fun n hn => ?_, ?_⟩
              · rw [hlimg] at hn
                injection hn with hn
                rw [Nat.zero_add, ← hn, hes]; exact hj
              · unfold cellAt
                rw [hg, Nat.zero_add]
                simp only []
                rw [← htake, List.getElem?_take, if_pos hj] at hu
                simpa using hu)
            rwa [List.length_append] at this
        have hu0 : ∀ e', ¬ (σ.purge g).uses g e' := fun e' h => (AS.uses_purge h).2 rfl
        have r3 := r2.putTag o.dst (fun t ht => hd t ht) g el (x := .slice (l ++ ys)) (by rw [hg']; exact hrep) (by
          rw [hg']
          refine ⟨⟨l.length + ys.length, xs ++ news, by rw [hes]; exact hown', hlim'⟩, fun b hb => hap' b hb, fun g2 e2 h2 _ b hb => hal' g2 e2 h2 b hb⟩) (fun e' h => absurd h (hu0 e'))
        rw [hg'] at r3
        exact .inl ⟨v', w', hex, gh', r3⟩
    · cases h
  · cases h

end Go.Pv
