import Derived.Test.YtocmdbojefgpbaaGreatDoorPvI
set_option linter.all false
section
/- The operations that write are right. -/
namespace Go.Pv
open Go

variable {cx : Cx} {gh : Gh} {σ : AS} {a : Act} {w : World} {o : Oper}

theorem RR.openB {a : Act} {w : World} (k : Nat) (hint : List (Nat × Nat)) : ∀ (ns : List Nat) (σ : AS) (gh : Gh), RR cx gh σ a w → (look k σ.bx).isSome = true →
    (∀ j ∈ ns, cellAt w.heap (gh.bl k) j = some (.slice none 0 0)) → ∃ gh', RR cx gh' (σ.openB k hint ns) a w
  | [], σ, gh, r, _, _ => ⟨gh, r⟩
  | j :: ns, σ, gh, r, hk, hc => by
    simp only [AS.openB]
    split
    · rename_i e he
      split
      · exact RR.openB k hint ns σ gh r hk (fun i hi => hc i (List.mem_cons_of_mem _ hi))
      · rename_i hu
        have hu' : σ.usesB (gid k j) = false := by simpa using hu
        have r1 := r.regroup (gid k j) (AS.not_uses hu') (.slice none 0 0)
        have hcj := hc j (List.mem_cons_self ..)
        have r2 := r1.tagCell k j (gid k j) e hk (by dsimp only; rw [upd_same]; exact hcj) (by dsimp only; rw [upd_same]; exact OwnOk.nil _ _)
        exact RR.openB k hint ns _ _ r2 hk (fun i hi => hc i (List.mem_cons_of_mem _ hi))
    · exact RR.openB k hint ns σ gh r hk (fun i hi => hc i (List.mem_cons_of_mem _ hi))

theorem eff_assign (r : RR cx gh σ a w) {x : Operand} (ho : o.op = .assign x) (hd : ∀ t, o.dst = some t → t < σ.n ∧ t ∉ σ.fx) :
    (∀ c z, assignR cx.gl σ o.dst x = .val c z → ValOk cx σ a w o z) ∧ (∀ c σ', assignR cx.gl σ o.dst x = .eff c σ' → EffOk cx a w o σ') := by
  have he : execOp a.eval o = pure (.value (a.eval x)) := by simp [execOp, ho]
  cases x with
  | const v =>
    have he' : execOp a.eval o = pure (.value v) := he
    have hv : ∀ {v'}, isNil v' = true → v' = .slice none 0 0 := fun {v'} h => by
      unfold isNil at h
      split at h
      · rfl
      · cases h
    simp only [assignR]
    split
    · rename_i hn
      have hv := hv hn
      subst hv
      have hval : ValOk cx σ a w o (.v (.slice []) none) := val_const r _ _ (.slice0 _ _) he'
      split
      · rename_i d hdd
        split
        · rename_i el hl
          split
          · exact ⟨fun c z h => (by simp only [OR.val.injEq] at h; obtain ⟨-, rfl⟩ := h; exact hval), fun c σ' h => (by cases h)⟩
          · rename_i hu
            refine ⟨fun c z h => (by cases h), fun c σ' h => ?_⟩
            simp only [OR.eff.injEq] at h
            obtain ⟨-, rfl⟩ := h
            have hu' : σ.usesB d = false := by simpa using hu
            have r1 := r.regroup d (AS.not_uses hu') (.slice none 0 0)
            refine .inl ⟨.slice none 0 0, w, by rw [he']; rfl, { gh with gv := upd gh.gv d (.slice none 0 0) }, ?_⟩
            have r2 := r1.putTag (some d) (fun t ht => hd t (by rw [hdd]; exact ht)) d el (x := .slice []) (by dsimp only; rw [upd_same]; exact .slice0 _ _) (by dsimp only; rw [upd_same]; exact OwnOk.nil _ _) (fun e' h => absurd h (AS.not_uses hu' e'))
            rw [hdd]
            dsimp only at r2
            rw [upd_same] at r2
            exact r2
        · exact ⟨fun c z h => (by simp only [OR.val.injEq] at h; obtain ⟨-, rfl⟩ := h; exact hval), fun c σ' h => (by cases h)⟩
      · exact ⟨fun c z h => (by simp only [OR.val.injEq] at h; obtain ⟨-, rfl⟩ := h; exact hval), fun c σ' h => (by cases h)⟩
    · refine ⟨fun c z h => ?_, fun c σ' h => (by cases h)⟩
      simp only [OR.val.injEq] at h
      obtain ⟨-, rfl⟩ := h
      exact val_copy r (.const v) he
  | tmp t =>
    refine ⟨fun c z h => ?_, fun c σ' h => (by cases h)⟩
    simp only [assignR, OR.val.injEq] at h
    obtain ⟨-, rfl⟩ := h
    exact val_copy r _ he
  | global g =>
    refine ⟨fun c z h => ?_, fun c σ' h => (by cases h)⟩
    simp only [assignR, OR.val.injEq] at h
    obtain ⟨-, rfl⟩ := h
    exact val_copy r _ he
  | func g =>
    refine ⟨fun c z h => ?_, fun c σ' h => (by cases h)⟩
    simp only [assignR, OR.val.injEq] at h
    obtain ⟨-, rfl⟩ := h
    exact val_copy r _ he

theorem new_box (r : RR cx gh σ a w) {k : Nat} (hd : k < σ.n ∧ k ∉ σ.fx) (hk : look k σ.bx = none) (hcl : noClP k σ.tm) {cells : List AV} {cs : Array Value} (e : TypeId) (hc : RepL gh.lim w.heap cs.toList cells) (ns : List Nat)
    (hns : ∀ j ∈ ns, cs[j]? = some (.slice none 0 0)) :
    R cx (AS.openB ({ σ with bx := (k, cells) :: σ.bx }.put (some k) (.lp k 0)) k σ.hint ns) (a.put (some k) (.pointer (some ⟨w.heap.size, 0, none⟩))) (w.alloc (.cells cs e)) := by
  have r1 := r.newbox k hk hcl cells cs e hc
  have r2 := r1.put (some k) (fun t ht => by injection ht with ht; subst ht; exact hd) (v := .pointer (some ⟨w.heap.size, 0, none⟩)) (x := .lp k 0) rfl (by simp [TRep]) (fun k' off h => by injection h with h1 h2; subst h1; simp [look]) (by simp)
  refine RR.openB k σ.hint ns _ _ r2 (by simp [AS.put, look]) (fun j hj => ?_)
  have h1 := hns j hj
  dsimp only
  rw [upd_same]
  unfold cellAt
  rw [show (w.alloc (.cells cs e)).heap[w.heap.size]? = some (.cells cs e (0, 0)) from heap_alloc_new w _]
  exact h1

theorem eff_box (r : RR cx gh σ a w) {t : Nat} {x : Operand} (ho : o.op = .box t x) (hd : ∀ t, o.dst = some t → t < σ.n ∧ t ∉ σ.fx) {c : Prop} {σ' : AS} (h : boxR σ o.dst (Pv.ev cx.gl σ x) = .eff c σ') (hcc : c) : EffOk cx a w o σ' := by
  have hrun : (execOp a.eval o).run cx.P w = .ok (.value (.pointer (some ⟨w.heap.size, 0, none⟩))) (w.alloc (.cells (a.eval x).cells t)) := by simp [execOp, ho, Instr.box, newVar, newRow]
  have hx := r.ev x
  unfold boxR at h
  split at h
  · rename_i l ns hx'
    rw [hx'] at hx
    split at h
    · rename_i k hk
      split at h
      · rename_i hl
        simp only [OR.eff.injEq] at h
        obtain ⟨hce, rfl⟩ := h
        subst hce
        refine .inl ⟨_, _, hrun, ?_⟩
        rw [hk]
        exact new_box r (hd k hk) hl hcc.1 t (flatRep hx.1) ns hx.2
      · cases h
    · cases h
  · rename_i y g hx'
    rw [hx'] at hx
    split at h
    · rename_i k hk
      split at h
      · rename_i hl
        simp only [OR.eff.injEq] at h
        obtain ⟨hce, rfl⟩ := h
        subst hce
        refine .inl ⟨_, _, hrun, ?_⟩
        rw [hk]
        exact new_box r (hd k hk) hl hcc.1 t (flatRep hx.1) [] (by simp)
      · cases h
    · cases h
  · cases h

theorem eff_alloc (r : RR cx gh σ a w) {t : Nat} (ho : o.op = .alloc t) (hd : ∀ t, o.dst = some t → t < σ.n ∧ t ∉ σ.fx) {c : Prop} {σ' : AS} (h : allocR cx.P σ o.dst t = .eff c σ') (hcc : c) : EffOk cx a w o σ' := by
  unfold allocR at h
  split at h
  · rename_i z k hz hk
    split at h
    · rename_i hl
      simp only [OR.eff.injEq] at h
      obtain ⟨hce, rfl⟩ := h
      subst hce
      obtain ⟨i, zv, hi, hzv, hzs, hzr, hns⟩ := azero_spec hz gh w.heap
      have hrun : (execOp a.eval o).run cx.P w = .ok (.value (.pointer (some ⟨w.heap.size, 0, none⟩))) (w.alloc (.cells zv.cells t)) := by
        simp [execOp, ho, Instr.alloc, zeroValue, typeInfo, hi, hzv, newVar, newRow]
      refine .inl ⟨_, _, hrun, ?_⟩
      rw [hk]
      exact new_box r (hd k hk) hl hcc t hzr _ hns
    · cases h
  · cases h

theorem RR.put_undef (r : RR cx gh σ a w) (d : Option Nat) (hd : d = none) (v : Value) : RR cx gh σ (a.put d v) w := by subst hd; exact r

theorem run_storeVar {P : Program} {w : World} {t b off : Nat} {v : Value} {cur : Array Value} {e : TypeId} (hcur : w.heap[b]? = some (.cells cur e (0, 0))) (hsz : v.cells.size = esz P t) (hi : (P.info? t).isSome = true)
    (hfit : off + v.cells.toList.length ≤ cur.size) (h1 : ∀ u ∈ v.cells.toList, u.oneCell' = true) :
    (storeVar t ⟨b, off, none⟩ v).run P w = .ok () (w.setRow b (cur.toList.take off ++ v.cells.toList ++ cur.toList.drop (off + v.cells.toList.length)).toArray) := by
  have hst := run_storeCells_at P b off e v.cells.toList 0 cur w hcur (by simpa using hfit) h1
  unfold storeVar
  simp only [Sem.run_bind, run_sizeOf hi, Result.andThen_ok, hsz, ne_eq, not_true, if_false]
  simpa using hst

theorem ones_of {lim : Lim} {h : Array Obj} {vs : List Value} {xs : List AV} (r : RepL lim h vs xs) (h1 : xs.all AV.one = true) : ∀ u ∈ vs, u.oneCell' = true := by
  intro u hu
  obtain ⟨j, hj⟩ := List.getElem?_of_mem hu
  have hlt : j < xs.length := by rw [← r.1]; exact (List.getElem?_eq_some_iff.1 hj).1
  have := r.2 j xs[j] (by simp [hlt])
  rw [List.getD_eq_getElem?_getD, hj] at this
  exact this.oneCell (List.all_eq_true.1 h1 _ (List.getElem_mem hlt))

theorem eff_store (r : RR cx gh σ a w) (hgy : cx.gl.y = none) {t : Nat} {x y : Operand} (ho : o.op = .store t x y) (hd : o.dst = none) (hi : (cx.P.info? t).isSome = true) {c : Prop} {σ' : AS} (h : storeR cx.P σ t (Pv.ev cx.gl σ x) (Pv.ev cx.gl σ y) = .eff c σ') (hc : c) : EffOk cx a w o σ' := by
  have hx := r.ev x
  have hy := r.ev y
  have he : ∀ ad, a.eval x = .pointer (some ad) → execOp a.eval o = (do storeVar t ad (a.eval y); pure .skip) := fun ad hp => by simp [execOp, ho, hp, Instr.storeAt, Instr.sureAddr]
  unfold storeR at h
  split at h
  · cases h
  · rename_i yv hyv
    have hyr := av_rep hy hyv
    have hfl := flat_len hyr
    split at h
    · rename_i k off hk
      rw [hk] at hx
      split at h
      · rename_i cells hcells
        simp only [OR.eff.injEq] at h
        obtain ⟨h1, rfl⟩ := h
        subst h1
        obtain ⟨hlen, hfit, hone⟩ := hc
        have htg : ∀ p, tagOf (Pv.ev cx.gl σ y) = some p → (a.eval y).cells.toList = [gh.gv p.1] ∧ σ.uses p.1 p.2 := by
          intro p hp
          cases hq : Pv.ev cx.gl σ y with
          | v z g =>
            rw [hq] at hp hy
            simp only [tagOf] at hp
            subst hp
            have hv := hy.2 p rfl
            have hu := r.ev_uses y hq
            refine ⟨?_, hu⟩
            obtain ⟨⟨m, xs, hown, -⟩, -⟩ := r.own p.1 p.2 hu
            rw [hv]
            rcases hown.2 with ⟨h0, -⟩ | ⟨g', cap, cur', h0, -⟩ <;> rw [h0] <;> rfl
          | un => rw [hq] at hp; cases hp
          | bld l ns => rw [hq] at hp; cases hp
          | lp k' o' => rw [hq] at hp; cases hp
          | it k9 => rw [hq] at hp; cases hp
          | cl f ks => rw [hq] at hp; cases hp
        obtain ⟨cur, e, hcur, hfit2, r2⟩ := r.store hgy k off hcells (a.eval y).cells.toList (flat yv) (flatRep hyr) hfit (tagOf (Pv.ev cx.gl σ y)) htg
        have hrun := run_storeVar (P := cx.P) (t := t) (v := a.eval y) hcur (by rw [hfl]; exact hlen) hi hfit2 (ones_of (flatRep hyr) hone)
        refine .inr ⟨_, by rw [he ⟨gh.bl k, off, none⟩ hx]; simp only [Sem.run_bind, hrun, Result.andThen_ok, Sem.run_pure]; rfl, ?_⟩
        rw [hlen] at r2
        obtain ⟨gh', r3⟩ := RR.openB k σ.hint ((nsOf (Pv.ev cx.gl σ y)).map (off + ·)) _ _ r2 (by simp [look]) (fun j hj => by
          obtain ⟨j', hj', rfl⟩ := List.mem_map.1 hj
          cases hq : Pv.ev cx.gl σ y with
          | bld l ns =>
            rw [hq] at hj' hy
            have hcell := hy.2 j' hj'
            have hjl : j' < (a.eval y).cells.size := (Array.getElem?_eq_some_iff.1 hcell).1
            unfold cellAt
            rw [setRow_heap w _ cur _ e _ hcur]
            have htl : (cur.toList.take off).length = off := by simp at hfit2 ⊢; omega
            show ((cur.toList.take off ++ (a.eval y).cells.toList ++ cur.toList.drop (off + (a.eval y).cells.toList.length)).toArray)[off + j']? = _
            rw [List.getElem?_toArray, List.append_assoc, List.getElem?_append_right (by omega), htl, List.getElem?_append_left (by simp; omega)]
            simpa using hcell
          | un => rw [hq] at hj'; cases hj'
          | v z g => rw [hq] at hj'; cases hj'
          | lp k' o' => rw [hq] at hj'; cases hj'
          | it k9 => rw [hq] at hj'; cases hj'
          | cl f ks => rw [hq] at hj'; cases hj')
        exact ⟨gh', r3.put_undef o.dst hd _⟩
      · cases h
    · rename_i b off g hk
      rw [hk] at hx
      split at h
      · rename_i cells hcells
        simp only [OR.eff.injEq] at h
        obtain ⟨h1, rfl⟩ := h
        subst h1
        obtain ⟨hlen, hfit, hone⟩ := hc
        obtain ⟨cur, e, hcur, hfit2, r2⟩ := r.storeSh hgy b off hcells (a.eval y).cells.toList (flat yv) (flatRep hyr) hfit
        have hrun := run_storeVar (P := cx.P) (t := t) (v := a.eval y) hcur (by rw [hfl]; exact hlen) hi hfit2 (ones_of (flatRep hyr) hone)
        refine .inr ⟨_, by rw [he ⟨b, off, none⟩ (rep_gp hx.1)]; simp only [Sem.run_bind, hrun, Result.andThen_ok, Sem.run_pure], gh, r2.put_undef o.dst hd _⟩
      · cases h
    · cases h

theorem rowsOf_spec (r : RR cx gh σ a w) : ∀ (parts : List (Nat × Operand)) (i : Nat) (l : List (List AV)), rowsOf (Pv.ev cx.gl σ) i parts = some l →
    l.length = parts.length ∧ RepL gh.lim w.heap (parts.flatMap fun p => (a.eval p.2).cells.toList) l.flatten ∧ ∀ sz, Rows sz l → ∀ (n : Nat) (p : Nat × Operand), parts[n]? = some p → p.1 = i + n ∧ (a.eval p.2).cells.size = sz
  | [], i, l, h => by
    simp only [rowsOf, Option.some.injEq] at h
    subst h
    exact ⟨rfl, RepL.nil _ _, fun _ _ n p hp => by simp at hp⟩
  | (j, x) :: parts, i, l, h => by
    simp only [rowsOf] at h
    split at h
    · rename_i hij
      subst hij
      split at h
      · rename_i y l' hy hl
        injection h with h
        subst h
        obtain ⟨h1, h2, h3⟩ := rowsOf_spec r parts (i + 1) l' hl
        have hyr := r.av x y hy
        refine ⟨by simp [h1], ?_, ?_⟩
        · rw [List.flatMap_cons, List.flatten_cons]
          exact (flatRep hyr).append h2
        · intro sz hs n p hp
          cases n with
          | zero =>
            simp only [List.getElem?_cons_zero, Option.some.injEq] at hp
            subst hp
            exact ⟨rfl, by rw [flat_len hyr]; exact (hs _ (by simp)).1⟩
          | succ n =>
            obtain ⟨g1, g2⟩ := h3 sz (fun q hq => hs q (by simp [hq])) n p (by simpa using hp)
            exact ⟨by omega, g2⟩
      · cases h
    · cases h

theorem fill_rows (ρ : Operand → Value) (sz : Nat) : ∀ (parts : List (Nat × Operand)) (i : Nat) (cells : Array Value), (∀ (n : Nat) (p : Nat × Operand), parts[n]? = some p → p.1 = i + n ∧ (ρ p.2).cells.size = sz) →
    cells.size = (i + parts.length) * sz →
    Instr.fill (fun q => some (q * sz, sz)) cells (parts.map fun p => (p.1, ρ p.2)) = some (cells.toList.take (i * sz) ++ parts.flatMap fun p => (ρ p.2).cells.toList).toArray
  | [], i, cells, _, hc => by
    simp only [List.map_nil, Instr.fill, List.flatMap_nil, List.append_nil]
    rw [List.take_of_length_le (by simp only [Array.length_toList, hc, List.length_nil, Nat.add_zero]; exact Nat.le_refl _)]
  | (j, x) :: parts, i, cells, h, hc => by
    obtain ⟨h1, h2⟩ := h 0 (j, x) rfl
    simp only [Nat.add_zero] at h1
    simp only at h2
    obtain rfl : i = j := h1.symm
    simp only [List.length_cons] at hc
    have hfit : i * sz + (ρ x).cells.size ≤ cells.size := by rw [h2, hc, show i + (parts.length + 1) = i + 1 + parts.length by omega, Nat.add_mul, Nat.add_mul]; omega
    simp only [List.map_cons, Instr.fill]
    rw [if_neg (by rw [h2] at hfit ⊢; simp; omega), fill_part cells (ρ x).cells (i * sz) hfit]
    have hlen : (cells.toList.take (i * sz) ++ (ρ x).cells.toList ++ cells.toList.drop (i * sz + (ρ x).cells.size)).toArray.size = (i + 1 + parts.length) * sz := by
      simp only [List.size_toArray, List.length_append, List.length_take, List.length_drop, Array.length_toList]
      rw [hc, show i + (parts.length + 1) = i + 1 + parts.length by omega] at *
      omega
    rw [fill_rows ρ sz parts (i + 1) _ (fun n p hp => by
      obtain ⟨g1, g2⟩ := h (n + 1) p (by simpa using hp)
      exact ⟨by omega, g2⟩) hlen]
    congr 1
    apply Array.ext'
    simp only [List.flatMap_cons]
    have e1 : (i + 1) * sz = (cells.toList.take (i * sz) ++ (ρ x).cells.toList).length := by
      simp only [List.length_append, List.length_take, Array.length_toList]
      rw [Nat.add_mul, Nat.one_mul, h2]
      omega
    rw [e1, List.take_left]
    simp

theorem eff_buildSlice (r : RR cx gh σ a w) {t len : Nat} {parts : Array (Nat × Operand)} (ho : o.op = .buildSlice t len parts) (hd : ∀ t, o.dst = some t → t < σ.n ∧ t ∉ σ.fx) :
    (∀ c z, buildSliceR cx.P σ o.dst t len (rowsOf (Pv.ev cx.gl σ) 0 parts.toList) = .val c z → c → ValOk cx σ a w o z) ∧
    (∀ c σ', buildSliceR cx.P σ o.dst t len (rowsOf (Pv.ev cx.gl σ) 0 parts.toList) = .eff c σ' → c → EffOk cx a w o σ') := by
  generalize hrows : rowsOf (Pv.ev cx.gl σ) 0 parts.toList = rows
  unfold buildSliceR
  cases he : elemT cx.P t with
  | none => exact ⟨fun c z h => (by cases h), fun c σ' h => (by cases h)⟩
  | some e =>
    cases rows with
    | none => exact ⟨fun c z h => (by cases h), fun c σ' h => (by cases h)⟩
    | some l =>
      simp only []
      split
      · rename_i hcond
        obtain ⟨hbig, hlen, haz, hsz0⟩ := hcond
        obtain ⟨hu, hie⟩ := elemT_spec he
        obtain ⟨z0, hz0⟩ := Option.isSome_iff_exists.1 haz
        obtain ⟨i, zv, hi, hz, hzs, -, -⟩ := azero_spec hz0 gh w.heap
        have hes : esz cx.P e = i.size := by simp [esz, hi]
        obtain ⟨hl1, hl2, hl3⟩ := rowsOf_spec r parts.toList 0 l hrows
        -- the run
        have hrun : Rows (esz cx.P e) l → ∃ cells : Array Value, (execOp a.eval o).run cx.P w = .ok (.value (.slice (some ⟨w.heap.size, 0, none⟩) len len)) (w.alloc (.cells cells e)) ∧ RepL gh.lim w.heap cells.toList l.flatten ∧ cells.size = len * esz cx.P e := by
          intro hr
          have h3 := hl3 _ hr
          refine ⟨(parts.toList.flatMap fun p => (a.eval p.2).cells.toList).toArray, ?_, by simpa using hl2, ?_⟩
          · have hf := fill_rows a.eval (esz cx.P e) parts.toList 0 ((Array.range (len * esz cx.P e)).map (zv.cells[· % zv.cells.size]!)) h3 (by simp; rw [← hlen, hl1]; simp)
            simp only [Nat.zero_mul, List.take_zero, List.nil_append] at hf
            have hparts : (parts.map fun p => (p.1, a.eval p.2)).toList = parts.toList.map fun p => (p.1, a.eval p.2) := by simp
            have hb2 : ¬ (16777216 < len * esz cx.P e) := by omega
            unfold execOp
            simp only [ho]
            unfold Instr.buildSlice
            by_cases h0 : len * esz cx.P e = 0
            · have hl0 : len = 0 := by
                rcases Nat.mul_eq_zero.1 h0 with h | h
                · exact h
                · exact absurd h hsz0
              have hp0 : parts.toList = [] := List.eq_nil_of_length_eq_zero (by rw [← hl1, hlen, hl0])
              have hp1 : parts = #[] := by rw [← Array.toArray_toList (xs := parts), hp0]
              subst hp1
              simp [run_underlying hu, run_sizeOf hie, hl0, Instr.fill, newRow, Array.range_zero']
            · simp only [Sem.run_bind, run_underlying hu, Result.andThen_ok, run_sizeOf hie, gt_iff_lt, show (2 : Nat) ^ 24 = 16777216 from rfl, hb2, if_false, h0, Sem.run_pure, zeroValue, typeInfo, run_program, hi, hz]
              rw [show (Array.map (fun x => match x with | (i, x) => (i, a.eval x)) parts).toList = parts.toList.map fun p => (p.1, a.eval p.2) by simp]
              rw [hf]
              simp [newRow]
          · have hflen : ∀ (m : List (List AV)), Rows (esz cx.P e) m → m.flatten.length = m.length * esz cx.P e := by
              intro m
              induction m with
              | nil => intro _; simp
              | cons x m ih => intro hm; rw [List.flatten_cons, List.length_append, ih (fun y hy => hm y (by simp [hy])), (hm x (by simp)).1, List.length_cons, Nat.add_mul]; omega
            have h4 := hl2.1
            rw [hflen l hr, hlen] at h4
            simpa using h4
        have hrep : ∀ (cells : Array Value) (lim' : Lim), (∀ b, b < w.heap.size → lim' b = gh.lim b) → (∀ j, j < len * esz cx.P e → lim'.ok w.heap.size j) → Rows (esz cx.P e) l → RepL gh.lim w.heap cells.toList l.flatten → cells.size = len * esz cx.P e →
            Rep lim' (w.alloc (.cells cells e)).heap (.slice (some ⟨w.heap.size, 0, none⟩) len len) (.slice l) := by
          intro cells lim' hl hok hr hrl hcs
          have := Rep.slice_mk (lim := lim') (h := (w.alloc (.cells cells e)).heap) (b := w.heap.size) (off := 0) (cap := len) (sz := esz cx.P e) (l := l) (vs := cells.toList) (by omega) (fun x hx => (hr x hx).1)
            (hrl.mono (Keep.of_same hl (fun b hb => heap_alloc_old w _ hb))) (fun j u hu => by
              have hj : j < len * esz cx.P e := by rw [← hcs]; simpa using (List.getElem?_eq_some_iff.1 hu).1
              refine ⟨by rw [Nat.zero_add]; exact hok j hj, ?_⟩
              unfold cellAt
              rw [show (w.alloc (.cells cells e)).heap[w.heap.size]? = some (.cells cells e (0, 0)) from heap_alloc_new w _]
              simpa using hu)
          rwa [hlen] at this
        have hval : Rows (esz cx.P e) l → ValOk cx σ a w o (.v (.slice l) none) := by
          intro hr
          obtain ⟨cells, h1, h2, h3⟩ := hrun hr
          refine ⟨_, _, _, h1, r.newrow _, trep_v (hrep cells _ (fun b hb => limUp_lt hb) (fun j _ n hn => ?_) hr h2 h3), by simp, by simp⟩
          have hn : limUp gh.lim w.heap.size w.heap.size = .upto n := hn
          rw [limUp_ge (Nat.le_refl _)] at hn; cases hn
        split
        · rename_i k hk
          split
          · rename_i el hl
            split
            · rename_i hu'
              obtain ⟨hu', rfl⟩ := hu'
              refine ⟨fun c z h => (by cases h), fun c σ' h hc => ?_⟩
              simp only [OR.eff.injEq] at h
              obtain ⟨h1, rfl⟩ := h
              subst h1
              obtain ⟨cells, h1, h2, h3⟩ := hrun hc
              let lim' : Lim := upd gh.lim w.heap.size (.upto (len * esz cx.P el))
              have hl' : ∀ b, b < w.heap.size → lim' b = gh.lim b := fun b hb => upd_ne _ _ (by omega)
              have r1 := r.grow (w' := w.alloc (.cells cells el)) lim' (Frm.alloc w _) hl'
              have r2 := r1.regroup k (AS.not_uses hu') (.slice (some ⟨w.heap.size, 0, none⟩) len len)
              have hlm : len ≤ maxLen := by
                have : len ≤ len * esz cx.P el := Nat.le_mul_of_pos_right _ (by omega)
                simp only [maxLen]; omega
              have r3 := r2.putTag (some k) (fun t ht => hd t (by rw [hk]; exact ht)) k el (x := .slice l) (by
                  dsimp only; rw [upd_same]
                  exact hrep cells lim' hl' (fun j hj n hn => by simp only [lim', upd_same, LV.upto.injEq] at hn; omega) hc h2 h3) (by
                  dsimp only; rw [upd_same]
                  refine ⟨⟨len, cells.toList, World.ownsRow_lit w cells len r.base hlm h3, fun b hb => ?_⟩, fun b hb => ⟨fun k' hk' => ?_, ?_⟩, fun g' e' hg' hne b hb => ?_⟩
                  · simp only [Value.ownBlock, Option.some.injEq] at hb; subst hb; simp [lim']
                  · simp only [Value.ownBlock, Option.some.injEq] at hb; subst hb
                    have := r.lt_box hk'
                    dsimp only; omega
                  · simp only [Value.ownBlock, Option.some.injEq] at hb; subst hb
                    cases hs : look w.heap.size σ.sh with
                    | none => rfl
                    | some q => have := r.lt_sh (b := w.heap.size) (by simp [hs]); omega
                  · simp only [Value.ownBlock, Option.some.injEq] at hb; subst hb
                    dsimp only
                    rw [upd_ne gh.gv _ hne]
                    intro he'
                    have := (r.lt_own hg' he').1
                    omega) (fun e' h => absurd h (AS.not_uses hu' e'))
              dsimp only at r3
              rw [upd_same] at r3
              rw [← hk] at r3
              exact .inl ⟨_, _, h1, _, by rw [← hk]; exact r3⟩
            · refine ⟨fun c z h hc => ?_, fun c σ' h => (by cases h)⟩
              simp only [OR.val.injEq] at h
              obtain ⟨h1, rfl⟩ := h
              subst h1
              exact hval hc
          · split
            · refine ⟨fun c z h hc => ?_, fun c σ' h => (by cases h)⟩
              simp only [OR.val.injEq] at h
              obtain ⟨h1, rfl⟩ := h
              subst h1
              obtain ⟨cells, h1, h2, h3⟩ := hrun hc
              refine ⟨_, _, _, h1, r.newrow _, trep_v ?_, by simp, by simp⟩
              have hr' := hrep cells _ (fun b hb => limUp_lt hb) (fun j _ n hn => by
                have hn : limUp gh.lim w.heap.size w.heap.size = .upto n := hn
                rw [limUp_ge (Nat.le_refl _)] at hn; cases hn) hc h2 h3
              rw [← hlen] at hr' ⊢
              exact .slX _ _ hr'
            · refine ⟨fun c z h hc => ?_, fun c σ' h => (by cases h)⟩
              simp only [OR.val.injEq] at h
              obtain ⟨h1, rfl⟩ := h
              subst h1
              exact hval hc
        · exact ⟨fun c z h => (by cases h), fun c σ' h => (by cases h)⟩
      · exact ⟨fun c z h => (by cases h), fun c σ' h => (by cases h)⟩

theorem ownsRow_congr {w : World} {base : Nat} {e size : Nat} {v : Value} {n m : Nat} {xs ys : List Value} (h : w.ownsRow base e size v n xs) (h' : w.ownsRow base e size v m ys) : n = m := by
  rcases h.2 with ⟨rfl, rfl⟩ | ⟨g, cap, cur, rfl, _, _, _⟩
  · rcases h'.2 with ⟨_, rfl⟩ | ⟨g, cap, cur, h, _⟩
    · rfl
    · cases h
  · rcases h'.2 with ⟨h, _⟩ | ⟨g, cap, cur, h, _⟩
    · cases h
    · injection h

theorem eff_append (r : RR cx gh σ a w) (hgy : cx.gl.y = none) {t : Nat} {s x : Operand} (ho : o.op = .call { callee := .builtin .append, args := #[s, x], argTypes := #[t, t] }) (hd : ∀ t, o.dst = some t → t < σ.n ∧ t ∉ σ.fx) {c : Prop} {σ' : AS}
    (h : appendR cx.P σ o.dst t (Pv.ev cx.gl σ s) (Pv.ev cx.gl σ x).av = .eff c σ') (hc : c) : EffOk cx a w o σ' := by
  unfold appendR at h
  split at h
  · rename_i l g el ys e hs hx he
    split at h
    · rename_i hcond
      obtain ⟨rfl, hok⟩ := hcond
      simp only [OR.eff.injEq] at h
      obtain ⟨h1, rfl⟩ := h
      subst h1
      obtain ⟨⟨hrowsl, hrows⟩, hbytes⟩ := hc
      obtain ⟨hu, hie⟩ := elemT_spec he
      obtain ⟨i, hi⟩ := Option.isSome_iff_exists.1 hie
      have hes : esz cx.P el = i.size := by simp [esz, hi]
      have heb : ebytes cx.P el = i.bytes := by simp [ebytes, hi]
      unfold appOk at hok
      rw [hi] at hok
      simp only at hok
      cases hz : i.zero with
      | none => rw [hz] at hok; cases hok
      | some z =>
        rw [hz] at hok
        simp only [Bool.and_eq_true, beq_iff_eq, bne_iff_ne, ne_eq] at hok
        have huse := r.ev_uses s hs
        have hsv := r.ev s
        rw [hs] at hsv
        have hv : a.eval s = gh.gv g := hsv.2 _ rfl
        obtain ⟨⟨m, xs, hown, hlim⟩, hap⟩ := r.own g el huse
        have hxr := r.av x _ hx
        obtain ⟨p, cap, hxv, hcap⟩ := hxr.slice_form
        rw [hxv] at hxr
        obtain ⟨q, qcap, hsform, -⟩ := hsv.1.slice_form
        -- the group's length is the list's
        have hm : m = l.length := by
          rw [hv] at hsform
          rcases hown.2 with ⟨h0, h1⟩ | ⟨g', cap', cur, h0, _⟩
          · rw [h0] at hsform; injection hsform with _ h2 _; omega
          · rw [h0] at hsform; injection hsform with _ h2 _
        subst hm
        have hbytes' : (l.length + ys.length) * i.bytes ≤ 140737488355328 := by rw [← heb]; exact hbytes
        have hmax : l.length + ys.length ≤ maxLen := by
          have : l.length + ys.length ≤ (l.length + ys.length) * i.bytes := Nat.le_mul_of_pos_right _ (by omega)
          simp only [maxLen]; omega
        -- the new cells
        obtain ⟨news, hnl, hnr, hncell⟩ : ∃ news : List Value, news.length = ys.length * i.size ∧ RepL gh.lim w.heap news ys.flatten ∧ ∀ ad, p = some ad → ∀ j u, news[j]? = some u → w.cell? (ad.add j) = some u := by
          by_cases hy0 : ys = []
          · subst hy0
            exact ⟨[], by simp, RepL.nil _ _, fun ad _ j u hu => by simp at hu⟩
          · obtain ⟨b, off, vs, hp, hvl, hvr, hvc⟩ := hxr.slice_cells (sz := esz cx.P el) (fun y hy => (hrows y hy).1) hy0
            refine ⟨vs, by rw [hvl, hes], hvr, fun ad had j u hu => ?_⟩
            rw [hp] at had
            injection had with had
            subst had
            rw [Addr.add_lit, cell?_eq]
            exact (hvc j u hu).2
        have hp0 : p = none → ys.length = 0 := by
          intro hpn
          cases ys with
          | nil => rfl
          | cons y ys' =>
            obtain ⟨b, off, hp, _⟩ := hxr.row (i := 0) (x := y) rfl
            rw [hpn] at hp; cases hp
        have hone : ∀ u ∈ news, u.oneCell' = true := by
          refine ones_of hnr ?_
          rw [List.all_eq_true]
          intro y hy
          obtain ⟨rr, hrr, hyr⟩ := List.mem_flatten.1 hy
          exact List.all_eq_true.1 (hrows rr hrr).2 y hyr
        rw [hes] at hown
        obtain ⟨v', w', hrun, hown', hf, hb, hk⟩ := run_append_pv (P := cx.P) w cx.B t o.type el i z hu hi hz hok.1 (gh.gv g) l.length xs hown p ys.length cap news hnl hp0 hncell hone hbytes' hmax r.base
        obtain ⟨gh', r2, hg', hkeep, hlim', hap', hal'⟩ := r.append hgy g el huse v' (l.length + ys.length) (xs ++ news) (by rw [hes]; exact hown') hf hb (fun n xs' hn => by
          have hnl' : n = l.length := by rw [hes] at hn; exact ownsRow_congr hn hown
          subst hnl'
          exact ⟨by omega, fun b o' u h1 h2 h3 => hk b o' u h1 (by rw [hes] at h2; exact h2) h3⟩)
        have hex : (execOp a.eval o).run cx.P w = .ok (.value v') w' := by
          simp only [execOp, ho, resolve, invoke, builtin, Sem.run_bind, Sem.run_pure, Result.andThen_ok, List.map_toArray, List.map_cons, List.map_nil, hv, hxv, hrun]
        -- what the new value reads as
        have hrep : Rep gh'.lim w'.heap v' (.slice (l ++ ys)) := by
          have hxs : RepL gh'.lim w'.heap xs l.flatten := by
            by_cases hl0 : l = []
            · subst hl0
              have : xs = [] := List.eq_nil_of_length_eq_zero (by rw [hown.1]; simp)
              subst this
              exact RepL.nil _ _
            · have hsr := hsv.1
              rw [hv] at hsr
              rcases hown.2 with ⟨h0, h1⟩ | ⟨g', cap', cur, h0, _, hg, _, _, hcs, htake⟩
              · exact absurd (List.eq_nil_of_length_eq_zero h1) hl0
              · rw [h0] at hsr
                obtain ⟨b, off, vs, hp, hvl, hvr, hvc⟩ := hsr.slice_cells (sz := esz cx.P el) (fun y hy => (hrowsl y hy).1) hl0
                simp only [Option.some.injEq, Addr.mk.injEq, and_true] at hp
                obtain ⟨rfl, rfl⟩ := hp
                have hvx : vs = xs := by
                  apply List.ext_getElem?
                  intro j
                  rcases Nat.lt_or_ge j vs.length with hj | hj
                  · have h1 := (hvc j vs[j] (by simp [hj])).2
                    unfold cellAt at h1
                    rw [hg, Nat.zero_add] at h1
                    rw [← htake, List.getElem?_take, if_pos (by rw [hvl, hes] at hj; exact hj)]
                    simp only [] at h1
                    rw [List.getElem?_eq_getElem hj]
                    simpa using h1.symm
                  · rw [List.getElem?_eq_none hj, List.getElem?_eq_none (by rw [hown.1, ← hes, ← hvl]; exact hj)]
                subst hvx
                exact hvr.mono hkeep
          have hall : RepL gh'.lim w'.heap (xs ++ news) (l ++ ys).flatten := by
            rw [List.flatten_append]
            exact hxs.append (hnr.mono hkeep)
          rcases hown'.2 with ⟨h0, h1⟩ | ⟨g', cap', cur, h0, _, hg, hnc, _, hcs, htake⟩
          · have hl0 : l = [] := List.eq_nil_of_length_eq_zero (by omega)
            have hy0 : ys = [] := List.eq_nil_of_length_eq_zero (by omega)
            subst hl0; subst hy0
            rw [h0]
            exact .slice0 _ _
          · have hlimg := hlim' g' (by rw [h0]; rfl)
            rw [h0]
            have := Rep.slice_mk (lim := gh'.lim) (h := w'.heap) (b := g') (off := 0) (cap := cap') (sz := esz cx.P el) (l := l ++ ys) (vs := xs ++ news) (by simp; omega) (fun y hy => by
              rcases List.mem_append.1 hy with hy | hy
              · exact (hrowsl y hy).1
              · exact (hrows y hy).1) hall (fun j u hu => by
              have hj : j < (l.length + ys.length) * i.size := by rw [← hown'.1]; exact (List.getElem?_eq_some_iff.1 hu).1
              refine ⟨fun n hn => ?_, ?_⟩
              · rw [hlimg] at hn
                injection hn with hn
                rw [Nat.zero_add, ← hn, hes]; exact hj
              · unfold cellAt
                rw [hg, Nat.zero_add]
                simp only []
                rw [← htake, List.getElem?_take, if_pos hj] at hu
                simpa using hu)
            rwa [List.length_append] at this
        have hu0 : ∀ e', ¬ (σ.purge g).uses g e' := fun e' h => (AS.uses_purge h).2 rfl
        have r3 := r2.putTag o.dst (fun t ht => hd t ht) g el (x := .slice (l ++ ys)) (by rw [hg']; exact hrep) (by
          rw [hg']
          refine ⟨⟨l.length + ys.length, xs ++ news, by rw [hes]; exact hown', hlim'⟩, fun b hb => hap' b hb, fun g2 e2 h2 _ b hb => hal' g2 e2 h2 b hb⟩) (fun e' h => absurd h (hu0 e'))
        rw [hg'] at r3
        exact .inl ⟨v', w', hex, gh', r3⟩
    · cases h
  · rename_i l g ys e hs hx he
    split at h
    · rename_i hok
      obtain ⟨hok, hsz0⟩ := hok
      simp only [OR.eff.injEq] at h
      obtain ⟨h1, rfl⟩ := h
      subst h1
      obtain ⟨⟨hl0, hrowsl, hrows⟩, hbytes⟩ := hc
      obtain ⟨hu, hie⟩ := elemT_spec he
      obtain ⟨i, hi⟩ := Option.isSome_iff_exists.1 hie
      have hes : esz cx.P e = i.size := by simp [esz, hi]
      have heb : ebytes cx.P e = i.bytes := by simp [ebytes, hi]
      unfold appOk at hok
      rw [hi] at hok
      simp only at hok
      cases hz : i.zero with
      | none => rw [hz] at hok; cases hok
      | some z =>
        rw [hz] at hok
        simp only [Bool.and_eq_true, beq_iff_eq, bne_iff_ne, ne_eq] at hok
        have hsv := r.ev s
        rw [hs] at hsv
        obtain ⟨ps, hsf, hsr⟩ := hsv.1.slX_inv
        rw [hsf] at hsr
        obtain ⟨b, off, vs, hp, hvl, hvr, hvc⟩ := hsr.slice_cells (sz := esz cx.P e) (fun y hy => (hrowsl y hy).1) hl0
        subst hp
        have hxr := r.av x _ hx
        obtain ⟨p, cap, hxv, hcap⟩ := hxr.slice_form
        rw [hxv] at hxr
        by_cases hy0 : ys = []
        · subst hy0
          have hrun : (Builtin.append_ #[t, t] o.type #[.slice (some ⟨b, off, none⟩) l.length l.length, .slice p 0 cap]).run cx.P w = .ok (.slice (some ⟨b, off, none⟩) l.length l.length) w := by
            cases p with
            | none => simp [Builtin.append_, run_underlying hu, sizeOf, typeInfo, hi, Builtin.lenOf, Builtin.firstCells, storeCells]
            | some a =>
              have hfc := run_firstCells_some (P := cx.P) w i.size 0 a 0 cap [] (by simp) (by simp)
              simp [Builtin.append_, run_underlying hu, sizeOf, typeInfo, hi, Builtin.lenOf, hfc, storeCells]
          have hex : (execOp a.eval o).run cx.P w = .ok (.value (.slice (some ⟨b, off, none⟩) l.length l.length)) w := by
            simp only [execOp, ho, resolve, invoke, builtin, Sem.run_bind, Sem.run_pure, Result.andThen_ok, List.map_toArray, List.map_cons, List.map_nil, hsf, hxv, hrun, List.length_nil]
          exact .inl ⟨_, w, hex, gh, by rw [List.append_nil]; exact r.put_v o.dst (fun t ht => hd t ht) hsr⟩
        · obtain ⟨b2, off2, us, hp2, hul, hur, huc⟩ := hxr.slice_cells (sz := esz cx.P e) (fun y hy => (hrows y hy).1) hy0
          subst hp2
          have hym : 0 < ys.length := by
            cases ys with
            | nil => exact absurd rfl hy0
            | cons y q => simp
          have hmax : l.length + ys.length ≤ maxLen := by
            have : l.length + ys.length ≤ (l.length + ys.length) * i.bytes := Nat.le_mul_of_pos_right _ (by omega)
            rw [heb] at hbytes
            simp only [maxLen]; omega
          have hsz : 0 < i.size := by rw [← hes]; omega
          · obtain ⟨v', w', hrun, hown, hgr⟩ := run_append_arg_grows (P := cx.P) w t o.type e i z i.size i.bytes hu hi hz rfl rfl hok.1 hsz ⟨b, off, none⟩ l.length l.length vs (by rw [hvl, hes]) (fun j u hj => by rw [Addr.add_lit, cell?_eq]; exact (hvc j u hj).2)
              ⟨b2, off2, none⟩ ys.length cap us (by rw [hul, hes]) (fun j u hj => by rw [Addr.add_lit, cell?_eq]; exact (huc j u hj).2) (by omega) hmax (by rw [← heb]; exact hbytes)
            have hex : (execOp a.eval o).run cx.P w = .ok (.value v') w' := by
              simp only [execOp, ho, resolve, invoke, builtin, Sem.run_bind, Sem.run_pure, Result.andThen_ok, List.map_toArray, List.map_cons, List.map_nil, hsf, hxv, hrun]
            have hfr : Frm w.heap.size (fun _ => False) w w' := ⟨hgr.os, hgr.tape, hgr.output, hgr.size, fun k hk _ => hgr.block k hk (by simp)⟩
            have hlu : ∀ b, b < w.heap.size → limUp gh.lim w.heap.size b = gh.lim b := fun b hb => limUp_lt hb
            have r1 := r.grow (limUp gh.lim w.heap.size) hfr hlu
            have hkeep : Keep gh.lim w.heap (limUp gh.lim w.heap.size) w'.heap := Keep.of_same hlu (fun b hb => hfr.block b hb id)
            have hall : RepL (limUp gh.lim w.heap.size) w'.heap (vs ++ us) (l ++ ys).flatten := by
              rw [List.flatten_append]
              exact (hvr.mono hkeep).append (hur.mono hkeep)
            have hrep : Rep (limUp gh.lim w.heap.size) w'.heap v' (.slice (l ++ ys)) := by
              rcases hown.2 with ⟨h0, h1⟩ | ⟨g', cap', cur, h0, hbg, hg, hnc, _, hcs, htake⟩
              · omega
              · rw [h0]
                have := Rep.slice_mk (lim := limUp gh.lim w.heap.size) (h := w'.heap) (b := g') (off := 0) (cap := cap') (sz := esz cx.P e) (l := l ++ ys) (vs := vs ++ us) (by simp; omega) (fun y hy => by
                  rcases List.mem_append.1 hy with hy | hy
                  · exact (hrowsl y hy).1
                  · exact (hrows y hy).1) hall (fun j u hj => by
                  have hlt : j < (l.length + ys.length) * i.size := by rw [← hown.1]; exact (List.getElem?_eq_some_iff.1 hj).1
                  refine ⟨fun n hn => ?_, ?_⟩
                  · rw [limUp_ge hbg] at hn; cases hn
                  · unfold cellAt
                    rw [hg, Nat.zero_add]
                    simp only []
                    rw [← htake, List.getElem?_take, if_pos hlt] at hj
                    simpa using hj)
                rwa [List.length_append] at this
            exact .inl ⟨v', w', hex, _, r1.put_v o.dst (fun t ht => hd t ht) hrep⟩
    · cases h
  · cases h

end Go.Pv
end

section
/- Boxes that nobody writes, and the iterators of strings. -/
namespace Go.Pv
open Go

variable {cx : Cx} {gh : Gh} {σ : AS} {a : Act} {w : World} {o : Oper}

theorem ok_froz (r : RR cx gh σ a w) {t : Nat} {x : Operand} (ho : o.op = .box t x) {c : Prop} {z : TV} (h : frozR (Pv.ev cx.gl σ x) = .val c z) (_ : c) : ValOk cx σ a w o z := by
  have hrun : (execOp a.eval o).run cx.P w = .ok (.value (.pointer (some ⟨w.heap.size, 0, none⟩))) (w.alloc (.cells (a.eval x).cells t)) := by simp [execOp, ho, Instr.box, newVar, newRow]
  have hx := r.ev x
  unfold frozR at h
  split at h
  · rename_i y g hx'
    rw [hx'] at hx
    simp only [OR.val.injEq] at h
    obtain ⟨-, rfl⟩ := h
    refine ⟨_, _, _, hrun, r.newrow _, ⟨?_, by simp⟩, by simp, by simp⟩
    refine Rep.ro_iff.2 ⟨w.heap.size, 0, (a.eval x).cells.toList, rfl, (flatRep hx.1).mono (Keep.of_same (fun b hb => limUp_lt hb) (fun b hb => heap_alloc_old w _ hb)), fun j u hu => ⟨fun n hn => ?_, ?_⟩⟩
    · have hn : limUp gh.lim w.heap.size w.heap.size = .upto n := hn
      rw [limUp_ge (Nat.le_refl _)] at hn; cases hn
    · unfold cellAt
      rw [show (w.alloc (.cells (a.eval x).cells t)).heap[w.heap.size]? = some (.cells (a.eval x).cells t (0, 0)) from heap_alloc_new w _]
      simpa using hu
  · cases h

theorem uses_cons {k : Nat} {x : TV} (hx : ∀ y p, x ≠ .v y (some p)) {g e : Nat} (h : AS.uses { σ with tm := (k, x) :: σ.tm } g e) : σ.uses g e := by
  rcases h with ⟨t, y, h⟩ | h
  · simp only [look] at h
    split at h
    · injection h with h; exact absurd h (hx y (g, e))
    · exact .inl ⟨t, y, h⟩
  · exact .inr h

theorem RR.rebind (r : RR cx gh σ a w) (k : Nat) (x : TV) (hx : ∀ y p, x ≠ .v y (some p)) (ht : TRep gh w.heap (a.tmps.getD k undef) x) (hlp : ∀ k' o', x ≠ .lp k' o') (hi : Its cx.B { σ with tm := (k, x) :: σ.tm } a w) : RR cx gh { σ with tm := (k, x) :: σ.tm } a w := by
  refine { frm := r.frm, base := r.base, limB := r.limB, size := r.size, ex := ⟨r.ex.keep, r.ex.defers, r.ex.yj, hi, r.ex.fx, r.ex.oth, r.ex.top⟩, gl := r.gl, tmps := ?_, boxes := r.boxes, inj := r.inj, shs := r.shs, apart := r.apart, tbs := r.tbs, own := fun g e h => r.own g e (uses_cons hx h), alone := fun g e g' e' h h' => r.alone g e g' e' (uses_cons hx h) (uses_cons hx h') }
  intro t y h
  simp only [look] at h
  split at h
  · rename_i he
    injection h with h; subst h; subst he
    exact ⟨ht, fun k' o' h' => absurd h' (hlp k' o')⟩
  · exact r.tmps t y h

theorem RR.forget (r : RR cx gh σ a w) (k : Nat) : RR cx gh { σ with tm := (k, .un) :: σ.tm } a w := by
  refine r.rebind k .un (by simp) trivial (by simp) (r.ex.its.sub fun t q h => ?_)
  simp only [look] at h
  split at h
  · cases h
  · exact h

theorem RR.rebind2 {k : Nat} {z : TV} (r : RR cx gh { σ with tm := (k, z) :: σ.tm } a w) (x : TV) (hx : ∀ y p, x ≠ .v y (some p)) (ht : TRep gh w.heap (a.tmps.getD k undef) x) (hlp : ∀ k' o', x ≠ .lp k' o') (hi : Its cx.B { σ with tm := (k, x) :: σ.tm } a w) : RR cx gh { σ with tm := (k, x) :: σ.tm } a w := by
  have hu : ∀ {g e}, AS.uses { σ with tm := (k, x) :: σ.tm } g e → AS.uses { σ with tm := (k, z) :: σ.tm } g e := by
    rintro g e (⟨t, y, h⟩ | h)
    · simp only [look] at h
      split at h
      · injection h with h; exact absurd h (hx y (g, e))
      · rename_i hne; exact .inl ⟨t, y, by simp only [look, if_neg hne]; exact h⟩
    · exact .inr h
  refine { frm := r.frm, base := r.base, limB := r.limB, size := r.size, ex := ⟨r.ex.keep, r.ex.defers, r.ex.yj, hi, r.ex.fx, r.ex.oth, r.ex.top⟩, gl := r.gl, tmps := ?_, boxes := r.boxes, inj := r.inj, shs := r.shs, apart := r.apart, tbs := r.tbs, own := fun g e h => r.own g e (hu h), alone := fun g e g' e' h h' => r.alone g e g' e' (hu h) (hu h') }
  intro t y h
  simp only [look] at h
  split at h
  · rename_i he
    injection h with h; subst h; subst he
    exact ⟨ht, fun k' o' h' => absurd h' (hlp k' o')⟩
  · rename_i hne; exact r.tmps t y (by simp only [look, if_neg hne]; exact h)

theorem eff_range (r : RR cx gh σ a w) {t : Nat} {x : Operand} (ho : o.op = .range t x) (hd : ∀ t, o.dst = some t → t < σ.n ∧ t ∉ σ.fx) {c : Prop} {σ' : AS} (h : rangeR cx.P σ o.dst t (Pv.ev cx.gl σ x).av = .eff c σ') (_ : c) : EffOk cx a w o σ' := by
  unfold rangeR at h
  split at h
  · rename_i k s hu hk hx
    simp only [OR.eff.injEq] at h
    obtain ⟨-, rfl⟩ := h
    have hv := rep_str (r.av x _ hx)
    have hrun : (execOp a.eval o).run cx.P w = .ok (.value (.pointer (some ⟨w.heap.size, 0, none⟩))) (w.alloc (.stringIter ⟨s.toArray⟩ 0)) := by
      simp only [execOp, ho, hv, Sem.run_bind, run_range_string w t _ hu, Result.andThen_ok, Sem.run_pure]; rfl
    refine .inl ⟨_, _, hrun, ?_⟩
    have r1 := r.newrow (.stringIter ⟨s.toArray⟩ 0)
    have hd1 := hd k hk
    rw [hk]
    have r2 := r1.put (some k) (fun t ht => hd t (by rw [hk]; exact ht)) (v := .pointer (some ⟨w.heap.size, 0, none⟩)) (x := .un) rfl trivial (by simp) (by simp)
    refine ⟨_, r2.rebind2 (.it (.str s 0)) (by simp) trivial (by simp) ?_⟩
    have hsz : (a.put (some k) (.pointer (some ⟨w.heap.size, 0, none⟩))).tmps.getD k undef = .pointer (some ⟨w.heap.size, 0, none⟩) := by
      have := r.size
      simp [Act.put, hd1.1, this]
    have hold : ∀ t q, look t ((k, TV.it (.str s 0)) :: σ.tm) = some (.it q) → k ≠ t → itAt cx.B (w.alloc (.stringIter ⟨s.toArray⟩ 0)).heap ((a.put (some k) (.pointer (some ⟨w.heap.size, 0, none⟩))).tmps.getD t undef) q ∧ (a.put (some k) (.pointer (some ⟨w.heap.size, 0, none⟩))).tmps.getD t undef ≠ .pointer (some ⟨w.heap.size, 0, none⟩) ∧ look t σ.tm = some (.it q) := by
      intro t q h hne
      simp only [look, if_neg hne] at h
      have h1 := r.ex.its.at_ t q h
      rw [getD_put_ne a hne]
      exact ⟨h1.keep fun r' o ho _ => (heap_alloc_old w _ (Array.getElem?_eq_some_iff.1 ho).1).trans ho, h1.ne_new, h⟩
    refine ⟨fun t q h => ?_, fun t t' q q' h1 h2 h3 => ?_⟩
    · by_cases he : k = t
      · subst he
        simp only [look, if_true, Option.some.injEq, TV.it.injEq] at h
        subst h
        rw [hsz]
        exact ⟨w.heap.size, rfl, r.base, heap_alloc_new w _⟩
      · exact (hold t q h he).1
    · by_cases e1 : k = t <;> by_cases e2 : k = t'
      · exact e1.symm.trans e2
      · have := (hold t' q' h2 e2).2.1
        rw [← e1, hsz] at h3
        exact absurd h3.symm this
      · have := (hold t q h1 e1).2.1
        rw [← e2, hsz] at h3
        exact absurd h3 this
      · rw [getD_put_ne a e1, getD_put_ne a e2] at h3
        exact r.ex.its.inj t t' _ _ (hold t q h1 e1).2.2 (hold t' q' h2 e2).2.2 h3
  · cases h

theorem RR.putit (r : RR cx gh σ a w) (hy : cx.gl.y = none) {t : Nat} {q : ItK} (h : look t σ.tm = some (.it q)) {b : Nat} {o o' : Obj} (h1 : a.tmps.getD t undef = .pointer (some ⟨b, 0, none⟩)) (h2 : cx.B ≤ b) (h3 : w.heap[b]? = some o) (ho : o.isWalk = true) (hoc : o.isCells = false) (hod : ∀ d, o ≠ .deferred d) (hom : ∀ es c, o ≠ .map es c) (q' : ItK)
    (hq' : itAt cx.B (w.putObj b o').heap (a.tmps.getD t undef) q') : RR cx gh { σ with tm := (t, .it q') :: σ.tm } a (w.putObj b o') := by
  have hlt := (Array.getElem?_eq_some_iff.1 h3).1
  have hother : ∀ {k : Nat}, k ≠ b → (w.putObj b o').heap[k]? = w.heap[k]? := fun hk => World.putObj_heap_other hk
  have hcells : ∀ {k : Nat} {cs : Array Value} {e : TypeId} {g : Nat × Nat}, w.heap[k]? = some (.cells cs e g) → (w.putObj b o').heap[k]? = w.heap[k]? := fun hk => hother (fun he => by rw [he, h3] at hk; cases hk; cases hoc)
  have hkeep : Keep gh.lim w.heap gh.lim (w.putObj b o').heap := Keep.of_cells (fun k cs e g hk => hcells hk) _
  have r0 := r.forget t
  have hits : ∀ t' q'', look t' ((t, TV.un) :: σ.tm) = some (.it q'') → itAt cx.B (w.putObj b o').heap (a.tmps.getD t' undef) q'' := by
    intro t' q'' h'
    simp only [look] at h'
    split at h'
    · cases h'
    · rename_i hne
      have hi := r.ex.its.at_ t' q'' h'
      have hptr : a.tmps.getD t' undef ≠ .pointer (some ⟨b, 0, none⟩) := fun he => hne (r.ex.its.inj t t' _ _ h h' (by rw [h1, he]))
      cases q'' with
      | str s p =>
        obtain ⟨r', e1, e2, e3⟩ := hi
        exact ⟨r', e1, e2, (hother (fun he => hptr (by rw [e1, he]))).trans e3⟩
      | map es =>
        obtain ⟨r', e1, e2, e3⟩ := hi
        exact ⟨r', e1, e2, (hother (fun he => by rw [he, h3] at e3; cases e3; exact hom _ _ rfl)).trans e3⟩
      | walk es seen =>
        obtain ⟨r', e1, e2, m, e3, e4⟩ := hi
        exact ⟨r', e1, e2, m, (hother (fun he => hptr (by rw [e1, he]))).trans e3, (hother (fun he => by rw [he, h3] at e4; cases e4; exact hom _ _ rfl)).trans e4⟩
  have hex : Ex cx gh.lim { σ with tm := (t, .un) :: σ.tm } a (w.putObj b o') := by
    refine ⟨r.ex.keep.trans hkeep, ?_, fun Y hY => (by rw [hy] at hY; cases hY), ⟨hits, r0.ex.its.inj⟩, r.ex.fx, fun hy k o1 hk hc hw => (hother (fun he => by have := r.ex.oth hy k o1 hk hc hw; rw [he, h3] at this; cases this; rw [ho] at hw; cases hw)).trans (r.ex.oth hy k o1 hk hc hw), r.ex.top⟩
    obtain ⟨Ds, e1, e2, e3⟩ := r.ex.defers
    exact ⟨Ds, e1, e2, fun D hD => ⟨(e3 D hD).1, (hother (fun he => by have := (e3 D hD).2; rw [he, h3] at this; cases this; exact hod _ rfl)).trans (e3 D hD).2⟩⟩
  have r1 := r0.world (w' := w.putObj b o') gh.lim hkeep ⟨rfl, rfl, rfl, by simp, fun k hk _ => hother (by omega)⟩ (fun _ _ => rfl) hex
    (fun k hk => by
      obtain ⟨cells, hc⟩ := Option.isSome_iff_exists.1 hk
      obtain ⟨_, _, cs, e, q3, _⟩ := r.boxes k cells hc
      exact hcells q3)
    (fun b' hb => by
      obtain ⟨cells, hc⟩ := Option.isSome_iff_exists.1 hb
      obtain ⟨_, _, cs, e, q3, _⟩ := r.shs b' cells hc
      exact hcells q3)
    (fun g e hg b' hb => by
      obtain ⟨⟨m, xs, q1, _⟩, _⟩ := r0.own g e hg
      rcases q1.2 with ⟨hn, -⟩ | ⟨g', cap, cur, hv, _, hg', _⟩
      · rw [show ({ gh with lim := gh.lim } : Gh).gv g = gh.gv g from rfl] at *; rw [hn] at hb; cases hb
      · rw [hv] at hb
        simp only [Value.ownBlock, Option.some.injEq] at hb
        subst hb
        exact hcells hg')
  refine r1.rebind2 (.it q') (by simp) trivial (by simp) ⟨fun t' q'' h' => ?_, fun t1 t2 q1 q2 g1 g2 g3 => ?_⟩
  · simp only [look] at h'
    split at h'
    · rename_i he
      subst he
      simp only [Option.some.injEq, TV.it.injEq] at h'
      subst h'
      exact hq'
    · rename_i hne
      exact hits t' q'' (by simp only [look, if_neg hne]; exact h')
  · have conv : ∀ t' q'', look t' ((t, TV.it q') :: σ.tm) = some (.it q'') → ∃ q3, look t' σ.tm = some (.it q3) := by
      intro t' q'' h'
      simp only [look] at h'
      split at h'
      · rename_i he; subst he; exact ⟨q, h⟩
      · exact ⟨q'', h'⟩
    obtain ⟨_, c1⟩ := conv _ _ g1
    obtain ⟨_, c2⟩ := conv _ _ g2
    exact r.ex.its.inj t1 t2 _ _ c1 c2 g3
theorem RR.nextit (r : RR cx gh σ a w) (hy : cx.gl.y = none) {t : Nat} {s : List UInt8} {p : Nat} (h : look t σ.tm = some (.it (.str s p))) (p' : Nat) :
    ∃ b, a.tmps.getD t undef = .pointer (some ⟨b, 0, none⟩) ∧ w.heap[b]? = some (.stringIter ⟨s.toArray⟩ p) ∧ RR cx gh { σ with tm := (t, .it (.str s p')) :: σ.tm } a (w.putObj b (.stringIter ⟨s.toArray⟩ p')) := by
  obtain ⟨b, h1, h2, h3⟩ := r.ex.its.at_ t _ h
  exact ⟨b, h1, h3, r.putit hy h h1 h2 h3 rfl rfl (by simp) (by simp) (.str s p') ⟨b, h1, h2, World.putObj_heap_same (Array.getElem?_eq_some_iff.1 h3).1⟩⟩

theorem eff_next (r : RR cx gh σ a w) (hy : cx.gl.y = none) {x : Operand} {str : Bool} (ho : o.op = .next x str) (hd : ∀ t, o.dst = some t → t < σ.n ∧ t ∉ σ.fx) {c : Prop} {σ' : AS} (h : nextR σ o.dst x str = .eff c σ') (_ : c) : EffOk cx a w o σ' := by
  unfold nextR at h
  split at h
  · rename_i t
    split at h
    · rename_i s p hl
      split at h
      · rename_i hp
        simp only [OR.eff.injEq] at h
        obtain ⟨-, rfl⟩ := h
        obtain ⟨b, h1, h3, r1⟩ := r.nextit hy hl (p + (dec s p).2)
        have hrun : (execOp a.eval o).run cx.P w = .ok (.value (.tuple #[.bool true, .int .i64 p, .int .i32 (dec s p).1])) (w.putObj b (.stringIter ⟨s.toArray⟩ (p + (dec s p).2))) := by
          have hev : a.eval (.tmp t) = .pointer (some ⟨b, 0, none⟩) := h1
          simp only [execOp, ho, hev, Instr.next, getObj, setObj, Sem.run_bind, Sem.run, h3, Result.andThen, dec]
          simp [hp, goInt, Sem.run, h3, World.putObj, ByteArray.size]
        exact .inl ⟨_, _, hrun, gh, r1.put_v o.dst hd (Rep.tup_iff.2 ⟨_, rfl, .cons (.bool _) (.cons (.int _ _) (.cons (.int _ _) (RepL.nil _ _)))⟩)⟩
      · rename_i hp
        simp only [OR.eff.injEq] at h
        obtain ⟨-, rfl⟩ := h
        obtain ⟨b, h1, h2, h3⟩ := r.ex.its.at_ t _ hl
        have hrun : (execOp a.eval o).run cx.P w = .ok (.value (.tuple #[.bool false])) w := by
          have hev : a.eval (.tmp t) = .pointer (some ⟨b, 0, none⟩) := h1
          simp only [execOp, ho, hev, Instr.next, getObj, setObj, Sem.run_bind, Sem.run, h3, Result.andThen]
          simp [hp, Sem.run, ByteArray.size]
        exact .inl ⟨_, _, hrun, gh, r.put_v o.dst hd (Rep.tup_iff.2 ⟨_, rfl, .cons (.bool _) (RepL.nil _ _)⟩)⟩
    · cases h
  · cases h

end Go.Pv
end

section
/- Calls by contract; one operation in a region. -/
namespace Go.Pv
open Go

def fnOk (P : Program) (f : FuncId) : Bool :=
  match P.funcs[f]? with
  | some fn => fn.body.isSome && !(fn.name == "runtime.NumGoroutine")
  | none => false

def GlOk (gl : Gl) (lim : Lim) (h : Array Obj) : Prop := ∀ g c, gl.g g = some c → GlAt lim h g c
def ShOk (lim : Lim) (h : Array Obj) (sh : List (Nat × List AV)) : Prop := ∀ b cells, look b sh = some cells → BoxAt lim h b cells

def ValidH (P : Program) (gl : Gl) (f : FuncId) (args : List AV) (sh : List (Nat × List AV)) (post : AV → List (Nat × List AV) → Prop) : Prop :=
  fnOk P f = true ∧ ∀ (lim : Lim) (w : World) (cargs : List Value), GlOk gl lim w.heap → RepL lim w.heap cargs args → ShOk lim w.heap sh →
    Calls P f cargs.toArray w fun e w' => ∃ v r sh' lim', e = .returned v ∧ Frm w.heap.size (fun b => (look b sh).isSome = true) w w' ∧ (∀ b, b < w.heap.size → lim' b = lim b) ∧ Rep lim' w'.heap v r ∧ ShOk lim' w'.heap sh' ∧ post r sh' ∧
      (∀ b, (look b sh).isSome = true → (look b sh').isSome = true) ∧ ∀ b, (look b sh').isSome = true → (look b sh).isSome = true ∨ w.heap.size ≤ b

def Valid (P : Program) (gl : Gl) (f : FuncId) (args : List AV) (r : AV) : Prop :=
  ValidH P gl f args [] fun r' sh' => r' = r ∧ sh' = []

theorem look_append {α : Type} (k : Nat) (a b : List (Nat × α)) : look k (a ++ b) = (look k a).or (look k b) := by
  induction a with
  | nil => rfl
  | cons p a ih =>
    obtain ⟨j, x⟩ := p
    simp only [List.cons_append, look]
    split
    · rfl
    · exact ih

def ValidO (P : Program) (gl : Gl) (f : FuncId) (args : List AV) (r : AV) (e : Nat) : Prop :=
  fnOk P f = true ∧ ∀ (lim : Lim) (w : World) (cargs : List Value), GlOk gl lim w.heap → RepL lim w.heap cargs args →
    Calls P f cargs.toArray w fun en w' => ∃ v m xs lim', en = .returned v ∧ Frm w.heap.size (fun _ => False) w w' ∧ (∀ b, b < w.heap.size → lim' b = lim b) ∧ Rep lim' w'.heap v r ∧
      w'.ownsRow w.heap.size e (esz P e) v m xs ∧ ∀ b, v.ownBlock = some b → lim' b = .upto (m * esz P e)

theorem RR.called {cx : Cx} {gh : Gh} {σ : AS} {a : Act} {w w' : World} (r : RR cx gh σ a w) (hy : cx.gl.y = none) (sh sh' : List (Nat × List AV)) (hin : ∀ b c, look b sh = some c → look b σ.sh = some c) (lim' : Lim)
    (hf : Frm w.heap.size (fun b => (look b sh).isSome = true) w w') (hl : ∀ b, b < w.heap.size → lim' b = gh.lim b) (hs : ShOk lim' w'.heap sh') (hc : ∀ b, (look b sh).isSome = true → (look b sh').isSome = true)
    (hn : ∀ b, (look b sh').isSome = true → (look b sh).isSome = true ∨ w.heap.size ≤ b) : RR cx { gh with lim := lim' } { σ with sh := sh' ++ σ.sh } a w' := by
  have hsome : ∀ {b}, (look b sh).isSome = true → (look b σ.sh).isSome = true := fun h => by
    obtain ⟨c, h'⟩ := Option.isSome_iff_exists.1 h
    simp [hin _ c h']
  have hsame : ∀ b, b < w.heap.size → ¬ (look b sh).isSome = true → w'.heap[b]? = w.heap[b]? := hf.block
  have hkeep : Keep gh.lim w.heap lim' w'.heap := by
    refine ⟨?_, fun b r' ⟨cs0, e0, z0, hcb⟩ hr => ⟨(hl b (Array.getElem?_eq_some_iff.1 hcb).1).trans hr, hsame b (Array.getElem?_eq_some_iff.1 hcb).1 fun h => by
      obtain ⟨c, h'⟩ := Option.isSome_iff_exists.1 h
      rw [(r.shs b c (hin b c h')).2.1] at hr; cases hr⟩⟩
    rintro b o ⟨cs0, e0, z0, hcb⟩ ho
    have hb := (Array.getElem?_eq_some_iff.1 hcb).1
    have hno : ¬ (look b sh).isSome = true := fun h => by
      obtain ⟨c, h'⟩ := Option.isSome_iff_exists.1 h
      have := (r.shs b c (hin b c h')).2.1
      exact absurd (ho 0 this) (Nat.not_lt_zero _)
    refine ⟨⟨cs0, e0, z0, (hsame b hb hno).trans hcb⟩, fun n h => ho n (by rw [← hl b hb]; exact h), ?_⟩
    unfold cellAt
    rw [hsame b hb hno]
  have hoth : Oth w w' := Oth.of_cells hf fun b hb => by
    obtain ⟨c, h'⟩ := Option.isSome_iff_exists.1 hb
    obtain ⟨-, -, cs, e, h3, -⟩ := r.shs b c (hin b c h')
    exact ⟨cs, e, _, h3⟩
  have hlk : ∀ b, (look b (sh' ++ σ.sh)).isSome = true → (look b σ.sh).isSome = true ∨ w.heap.size ≤ b := by
    intro b h
    rw [look_append] at h
    cases h1 : look b sh' with
    | none => rw [h1] at h; exact .inl h
    | some c =>
      rcases hn b (by simp [h1]) with h2 | h2
      · exact .inl (hsome h2)
      · exact .inr h2
  have hbx : ∀ {k}, (look k σ.bx).isSome = true → ¬ (look (gh.bl k) sh).isSome = true := fun hk h => r.apart _ _ (hsome h) hk rfl
  refine { frm := r.frm.trans (hf.mono r.base (fun b hb h => ?_)), base := Nat.le_trans r.base hf.size, limB := fun b h => (hl b (Nat.lt_of_lt_of_le h r.base)).trans (r.limB b h), size := r.size, ex := (r.ex.step hkeep hoth (.inl hy)).sub (fun _ _ h => h) rfl rfl, gl := fun g c h => (r.gl g c h).mono hkeep, tmps := ?_, boxes := ?_, inj := r.inj, shs := ?_, apart := ?_, tbs := ?_, own := ?_, alone := r.alone }
  · obtain ⟨c, h'⟩ := Option.isSome_iff_exists.1 h
    rcases (r.shs b c (hin b c h')).1 with h1 | h1
    · exact h1
    · omega
  · intro t x h
    have h1 := r.tmps t x h
    refine ⟨?_, h1.2⟩
    cases x with
    | un => trivial
    | v y g => exact ⟨h1.1.1.mono hkeep, h1.1.2⟩
    | bld l ns => exact ⟨h1.1.1.mono hkeep, h1.1.2⟩
    | lp k o => exact h1.1
    | it k9 => trivial
    | cl f ks => exact h1.1
  · intro k cells h
    obtain ⟨h1, h2, cs, e, h3, h4⟩ := r.boxes k cells h
    have hlt := (Array.getElem?_eq_some_iff.1 h3).1
    exact ⟨h1, (hl _ hlt).trans h2, cs, e, (hsame _ hlt (hbx (by simp [show look k σ.bx = some cells from h]))).trans h3, h4.mono hkeep⟩
  · intro b cells h
    simp only [look_append] at h
    cases h1 : look b sh' with
    | some c =>
      rw [h1] at h
      simp only [Option.some_or, Option.some.injEq] at h
      subst h
      refine ⟨?_, hs b c h1⟩
      rcases hn b (by simp [h1]) with h2 | h2
      · obtain ⟨c', h'⟩ := Option.isSome_iff_exists.1 h2
        exact (r.shs b c' (hin b c' h')).1
      · exact .inr (Nat.le_trans r.base h2)
    | none =>
      rw [h1] at h
      simp only [Option.none_or] at h
      have hno : ¬ (look b sh).isSome = true := fun h2 => by have := hc b h2; rw [h1] at this; cases this
      obtain ⟨h2, h3, cs, e, h4, h5⟩ := r.shs b cells h
      have hlt := (Array.getElem?_eq_some_iff.1 h4).1
      exact ⟨h2, (hl _ hlt).trans h3, cs, e, (hsame _ hlt hno).trans h4, h5.mono hkeep⟩
  · intro b k h1 h2
    rcases hlk b h1 with h | h
    · exact r.apart b k h h2
    · have := r.lt_box h2
      dsimp only
      omega
  · intro k j g e h
    obtain ⟨h1, h2⟩ := r.tbs k j g e h
    refine ⟨h1, ?_⟩
    have hlt := r.lt_box h1
    unfold cellAt at h2 ⊢
    dsimp only
    rw [hsame _ hlt (hbx h1)]; exact h2
  · intro g e h
    have hu : σ.uses g e := h
    obtain ⟨⟨m, xs, h1, h2⟩, h3⟩ := r.own g e hu
    refine ⟨⟨m, xs, ⟨h1.1, ?_⟩, fun b hb => ?_⟩, fun b hb => ⟨(h3 b hb).1, ?_⟩⟩
    · rcases h1.2 with hn' | ⟨g', cap, cur, hv, hbg, hg', rest⟩
      · exact .inl hn'
      · refine .inr ⟨g', cap, cur, hv, hbg, ?_, rest⟩
        have hlt := (Array.getElem?_eq_some_iff.1 hg').1
        rw [hsame g' hlt (fun hh => ?_)]
        · exact hg'
        · have := hsome hh
          rw [(h3 g' (by rw [hv]; rfl)).2] at this
          cases this
    · exact (hl b (h1.lt b hb).2).trans (h2 b hb)
    · have hlt := (h1.lt b hb).2
      cases hq : look b (sh' ++ σ.sh) with
      | none => rfl
      | some c =>
        rcases hlk b (by simp [hq]) with h4 | h4
        · rw [(h3 b hb).2] at h4; cases h4
        · omega

def TV.bareT : TV → Bool
  | .un | .v _ none | .bld _ _ => true
  | _ => false
def AS.bare (σ : AS) : Bool := σ.bx.isEmpty && σ.tb.isEmpty && σ.sh.isEmpty && (σ.tm.all fun p => p.2.bareT) && σ.mks == 0

theorem bare_look {σ : AS} (h : σ.bare = true) {t : Nat} {x : TV} (hx : look t σ.tm = some x) : x.bareT = true := by
  simp only [AS.bare, Bool.and_eq_true] at h
  have hall := h.1.2
  generalize σ.tm = l at hx hall
  induction l with
  | nil => cases hx
  | cons p l ih =>
    obtain ⟨j, y⟩ := p
    simp only [List.all_cons, Bool.and_eq_true] at hall
    simp only [look] at hx
    split at hx
    · injection hx with hx; subst hx; exact hall.1
    · exact ih hx hall.2

theorem RR.calledY {cx : Cx} {gh : Gh} {σ : AS} {a : Act} {w w' : World} (r : RR cx gh σ a w) (hb : σ.bare = true) {Y : Ys} (hY : cx.gl.y = some Y) (lim' : Lim) (ys' : List AV × Bool)
    (hk : Keep gh.lim w.heap lim' w'.heap) (hf : Frm 0 (fun _ => True) w w') (hj : Y.J ys'.1 ys'.2 lim' w') : RR cx { gh with lim := lim' } { σ with ys := ys' } a w' := by
  obtain ⟨⟨hB, hP⟩, -⟩ := r.ex.yj Y hY
  have hb' := hb
  simp only [AS.bare, Bool.and_eq_true, List.isEmpty_iff, beq_iff_eq] at hb'
  obtain ⟨⟨⟨⟨h1, h2⟩, h3⟩, -⟩, h5⟩ := hb'
  have hno : ∀ g e, ¬ AS.uses { σ with ys := ys' } g e := by
    rintro g e (⟨t, x, h⟩ | ⟨k, j, h⟩)
    · have := bare_look hb h; cases this
    · rw [show AS.tb { σ with ys := ys' } = [] from h2] at h; cases h
  refine { frm := r.frm.trans ⟨hf.os, hf.tape, hf.output, hf.size, fun k hk => (by rw [hB] at hk; omega)⟩, base := (by rw [hB]; exact Nat.zero_le _), limB := fun b h => (by rw [hB] at h; omega), size := r.size, ex := ?_, gl := fun g c h => (r.gl g c h).mono hk, tmps := ?_, boxes := fun k c h => (by rw [show AS.bx { σ with ys := ys' } = [] from h1] at h; cases h), inj := fun k k' h => (by rw [show AS.bx { σ with ys := ys' } = [] from h1] at h; cases h), shs := fun b c h => (by rw [show AS.sh { σ with ys := ys' } = [] from h3] at h; cases h), apart := fun b k h => (by rw [show AS.sh { σ with ys := ys' } = [] from h3] at h; cases h), tbs := fun k j g e h => (by rw [show AS.tb { σ with ys := ys' } = [] from h2] at h; cases h), own := fun g e h => absurd h (hno g e), alone := fun g e g' e' h => absurd h (hno g e) }
  · refine ⟨r.ex.keep.trans hk, ?_, fun Y' hY' => ?_, ?_, r.ex.fx, fun hn => (by rw [hY] at hn; cases hn), r.ex.top⟩
    · obtain ⟨Ds, e1, e2, -⟩ := r.ex.defers
      have : Ds = [] := List.eq_nil_of_length_eq_zero (by rw [e2.1]; exact h5)
      subst this
      exact ⟨[], e1, e2, fun D hD => (by cases hD)⟩
    · rw [hY] at hY'
      injection hY' with hY'
      subst hY'
      exact ⟨⟨hB, hP⟩, hj⟩
    · exact ⟨fun t q h => (by have := bare_look hb h; cases this), fun t t' q q' h => (by have := bare_look hb h; cases this)⟩
  · intro t x h
    have h' := r.tmps t x h
    have hbt := bare_look hb h
    refine ⟨?_, h'.2⟩
    cases x with
    | un => trivial
    | v y g => exact ⟨h'.1.1.mono hk, h'.1.2⟩
    | bld l ns => exact ⟨h'.1.1.mono hk, h'.1.2⟩
    | lp k o => cases hbt
    | it k9 => trivial
    | cl f ks => exact h'.1

def ValidY (P : Program) (gl : Gl) (Y : Ys) (f : FuncId) (args : List AV) (ys : List AV × Bool) (r : AV) (ys' : List AV × Bool) : Prop :=
  fnOk P f = true ∧ ∀ (lim : Lim) (w : World) (cargs : List Value), GlOk gl lim w.heap → RepL lim w.heap cargs args → Y.J ys.1 ys.2 lim w →
    Calls P f cargs.toArray w fun e w' => ∃ v lim', e = .returned v ∧ Frm 0 (fun _ => True) w w' ∧ Keep lim w.heap lim' w'.heap ∧ Rep lim' w'.heap v r ∧ Y.J ys'.1 ys'.2 lim' w'

def bxS (bx : List (Nat × List AV)) (tb : List (Nat × Nat × Nat × Nat)) : AS := { n := 0, tm := [], bx := bx, tb := tb, sh := [], hint := [] }
def noAct : Act := { tmps := #[], defers := [] }

theorem RR.drop {cx : Cx} {gh : Gh} {σ : AS} {a : Act} {w : World} (r : RR cx gh σ a w) (hy : cx.gl.y = none) : RR { cx with df := [], fx := fun _ => none } gh (bxS σ.bx σ.tb) noAct w := by
  have hu : ∀ {g e}, AS.uses (bxS σ.bx σ.tb) g e → σ.uses g e := by
    rintro g e (⟨t, x, h⟩ | h)
    · cases h
    · exact .inr h
  refine { frm := r.frm, base := r.base, limB := r.limB, size := rfl, ex := ⟨r.ex.keep, ⟨[], rfl, ⟨rfl, List.nodup_nil⟩, fun D hD => (by cases hD)⟩, fun Y hY => (by rw [show cx.gl.y = some Y from hY] at hy; cases hy), ⟨fun t q h => (by cases h), fun t t' q q' h => (by cases h)⟩, fun t v h => (by cases h), r.ex.oth, r.ex.top⟩, gl := r.gl, tmps := fun t x h => (by cases h), boxes := r.boxes, inj := r.inj, shs := fun b c h => (by cases h), apart := fun b k h => (by cases h), tbs := r.tbs, own := fun g e h => ⟨(r.own g e (hu h)).1, fun b hb => ⟨((r.own g e (hu h)).2 b hb).1, rfl⟩⟩, alone := fun g e g' e' h h' => r.alone g e g' e' (hu h) (hu h') }

theorem RR.rebase {cx : Cx} {gh : Gh} {σ : AS} {a : Act} {w : World} (r : RR cx gh σ a w) (ht : cx.gl.top = false) : RR { cx with lim := gh.lim, w0 := w } gh σ a w :=
  { frm := Frm.refl _ _ _, base := r.base, limB := fun _ _ => rfl, size := r.size, ex := ⟨Keep.refl _ _, r.ex.defers, r.ex.yj, r.ex.its, r.ex.fx, fun _ _ _ h _ _ => h, fun h => (by rw [show cx.gl.top = true from h] at ht; cases ht)⟩, gl := r.gl, tmps := r.tmps, boxes := r.boxes, inj := r.inj, shs := r.shs, apart := r.apart, tbs := r.tbs, own := r.own, alone := r.alone }

def ValidB (P : Program) (gl : Gl) (f : FuncId) (args : List AV) (ks : List Nat) (bx : List (Nat × List AV)) (tb : List (Nat × Nat × Nat × Nat)) (x : AV) (bx' : List (Nat × List AV)) (tb' : List (Nat × Nat × Nat × Nat)) : Prop :=
  fnOk P f = true ∧ ∀ (cx : Cx) (gh : Gh) (w : World) (cargs : List Value), cx.P = P → cx.gl = gl → cx.df = [] → (∀ t, cx.fx t = none) → cx.w0 = w → cx.lim = gh.lim → RR cx gh (bxS bx tb) noAct w → RepL gh.lim w.heap cargs args →
    Calls P f (cargs ++ ks.map fun k => Value.pointer (some ⟨gh.bl k, 0, none⟩)).toArray w fun e w' => ∃ v gh', e = .returned v ∧ RR cx gh' (bxS bx' tb') noAct w' ∧ (∀ k ∈ ks, gh'.bl k = gh.bl k) ∧ Rep gh'.lim w'.heap v x

def TV.stay (ks : List Nat) : TV → Bool
  | .un | .v _ none | .bld _ _ => true
  | .lp k _ => ks.contains k
  | .cl _ l => l.all ks.contains
  | _ => false
def stayAll (ks : List Nat) : List (Nat × TV) → Bool
  | [] => true
  | (_, x) :: r => x.stay ks && stayAll ks r
def keys : List (Nat × List AV) → List Nat
  | [] => []
  | (k, _) :: r => k :: keys r
def stayB (σ : AS) (ks : List Nat) (bx' : List (Nat × List AV)) : Bool := stayAll ks σ.tm && σ.sh.isEmpty && σ.mks == 0 && ks.all fun k => (look k bx').isSome

theorem stayAll_look {ks : List Nat} : ∀ {tm : List (Nat × TV)}, stayAll ks tm = true → ∀ {t x}, look t tm = some x → x.stay ks = true
  | [], _, t, x, h => by cases h
  | (j, y) :: r, hl, t, x, h => by
    simp only [stayAll, Bool.and_eq_true] at hl
    simp only [look] at h
    split at h
    · injection h with h; subst h; exact hl.1
    · exact stayAll_look hl.2 h

theorem RR.calledB {cx : Cx} {gh gh' : Gh} {σ : AS} {a : Act} {w w' : World} (r : RR cx gh σ a w) (hy : cx.gl.y = none) {ks : List Nat} {bx' : List (Nat × List AV)} {tb' : List (Nat × Nat × Nat × Nat)} (hs : stayB σ ks bx' = true)
    (r' : RR { cx with df := [], fx := fun _ => none, lim := gh.lim, w0 := w } gh' (bxS bx' tb') noAct w') (hk : ∀ k ∈ ks, gh'.bl k = gh.bl k) : RR cx gh' { σ with bx := bx', tb := tb' } a w' := by
  simp only [stayB, Bool.and_eq_true, List.isEmpty_iff, beq_iff_eq, List.all_eq_true] at hs
  obtain ⟨⟨⟨h1, h2⟩, h3⟩, h4⟩ := hs
  have hu : ∀ {g e}, AS.uses { σ with bx := bx', tb := tb' } g e → AS.uses (bxS bx' tb') g e := by
    rintro g e (⟨t, x, h⟩ | h)
    · have := stayAll_look h1 h; cases this
    · exact .inr h
  have hkeep : Keep gh.lim w.heap gh'.lim w'.heap := r'.ex.keep
  refine { frm := r.frm.trans r'.frm, base := r'.base, limB := fun b hb => (r'.limB b hb).trans (r.limB b hb), size := r.size, ex := ⟨r.ex.keep.trans hkeep, ?_, fun Y hY => (by rw [hY] at hy; cases hy), ⟨fun t q h => (by have := stayAll_look h1 h; cases this), fun t t' q q' h => (by have := stayAll_look h1 h; cases this)⟩, r.ex.fx, fun hn k o h g1 g2 => r'.ex.oth hn k o (r.ex.oth hn k o h g1 g2) g1 g2, r.ex.top⟩, gl := r'.gl, tmps := ?_, boxes := r'.boxes, inj := r'.inj, shs := fun b c h => (by rw [show AS.sh { σ with bx := bx', tb := tb' } = [] from h2] at h; cases h), apart := fun b k h => (by rw [show AS.sh { σ with bx := bx', tb := tb' } = [] from h2] at h; cases h), tbs := r'.tbs, own := fun g e h => ⟨(r'.own g e (hu h)).1, fun b hb => ⟨((r'.own g e (hu h)).2 b hb).1, by rw [show AS.sh { σ with bx := bx', tb := tb' } = [] from h2]; rfl⟩⟩, alone := fun g e g' e' h h' => r'.alone g e g' e' (hu h) (hu h') }
  · obtain ⟨Ds, e1, e2, -⟩ := r.ex.defers
    have : Ds = [] := List.eq_nil_of_length_eq_zero (by rw [e2.1]; exact h3)
    subst this
    exact ⟨[], e1, e2, fun D hD => (by cases hD)⟩
  · intro t x h
    have h' := r.tmps t x h
    have hst := stayAll_look h1 h
    cases x with
    | un => exact ⟨trivial, fun k o he => (by cases he)⟩
    | v y g =>
      cases g with
      | none => exact ⟨⟨h'.1.1.mono hkeep, by simp⟩, fun k o he => (by cases he)⟩
      | some g => cases hst
    | bld l ns => exact ⟨⟨h'.1.1.mono hkeep, h'.1.2⟩, fun k o he => (by cases he)⟩
    | it k9 => cases hst
    | lp k o =>
      have hm : k ∈ ks := by simpa [TV.stay] using hst
      refine ⟨?_, fun k' o' he => ?_⟩
      · have h5 := h'.1
        simp only [TRep] at h5 ⊢
        rw [hk k hm]; exact h5
      · injection he with he _
        subst he
        exact h4 k hm
    | cl f l =>
      refine ⟨?_, fun k o he => (by cases he)⟩
      have h5 := h'.1
      simp only [TRep] at h5 ⊢
      rw [h5]
      congr 2
      apply List.map_congr_left
      intro q hq
      have hm : q ∈ ks := by simpa using List.all_eq_true.1 hst q hq
      rw [hk q hm]

def guardB (ops : Array Oper) (o : Oper) (σ : AS) : Option Bool :=
  match o.guard with
  | none => some true
  | some (j, want) =>
    match (ops[j]?).bind (·.dst) with
    | some d => match σ.get d with
      | .v (.bool b) _ => some (b == want)
      | .v (.tup _) _ => some false
      | _ => none
    | none => none

def dstOk (P : Program) (o : Oper) (σ : AS) : Bool :=
  (match o.dst with | some d => decide (d < σ.n) && !σ.fx.contains d | none => true) && (match o.op with | .store t _ _ => o.dst.isNone && (P.info? t).isSome | .defer _ => false | _ => true)

def callV (P : Program) (gl : Gl) (f : FuncId) (args : List AV) (σ : AS) (d : Option Nat) (K : AS → Prop) : Prop :=
  (gl.y = none ∧ ∃ sh post, ∃ m : List (Nat × List AV) → List (Nat × List AV), ((∀ sh' b c, look b (m sh') = some c → look b (sh' ++ σ.sh) = some c) ∧ ∀ b c, look b sh = some c → look b σ.sh = some c) ∧ ValidH P gl f args sh post ∧ ∀ r sh', post r sh' → K ({ σ with sh := m sh' }.put d (.v r none))) ∨
  (∃ Y r ys', gl.y = some Y ∧ σ.bare = true ∧ ValidY P gl Y f args σ.ys r ys' ∧ K ({ σ with ys := ys' }.put d (.v r none))) ∨
  (gl.y = none ∧ ∃ r e g, σ.usesB g = false ∧ ValidO P gl f args r e ∧ K (σ.put d (.v r (some (g, e)))))

theorem callV_pure {P : Program} {gl : Gl} {f : FuncId} {args : List AV} {σ : AS} {d : Option Nat} {K : AS → Prop} (hy : gl.y = none) (r : AV) (h : Valid P gl f args r) (k : K (σ.put d (.v r none))) : callV P gl f args σ d K :=
  .inl ⟨hy, [], _, fun sh' => sh' ++ σ.sh, ⟨fun _ _ _ h => h, fun b c h => (by cases h)⟩, h, fun r' sh' hp => by obtain ⟨rfl, rfl⟩ := hp; exact k⟩

def yldV (gl : Gl) (l : Nat) (x : AV) (σ : AS) (d : Option Nat) (K : AS → Prop) : Prop :=
  ∃ Y, gl.y = some Y ∧ Y.l = l ∧ σ.bare = true ∧ (σ.ys.2 = true ∧ Y.el σ.ys.1 x) ∧ K ({ σ with ys := (σ.ys.1 ++ [x], Y.go σ.ys.1 x) }.put d (.v (.bool (Y.go σ.ys.1 x)) none))

def orV (P : Program) (gl : Gl) (o : Oper) (σ : AS) (K : AS → Prop) : OR → Prop
  | .stuck => False
  | .val c x => c ∧ K (σ.put o.dst x)
  | .eff c σ' => c ∧ gl.y = none ∧ K σ'
  | .call f args => callV P gl f args σ o.dst K
  | .callB f args ks => ∃ x bx' tb', (gl.y = none ∧ gl.top = false) ∧ stayB σ ks bx' = true ∧ ValidB P gl f args ks σ.bx σ.tb x bx' tb' ∧ K ({ σ with bx := bx', tb := tb' }.put o.dst (.v x none))
  | .yld l x => yldV gl l x σ o.dst K

def nextV (P : Program) (gl : Gl) (ops : Array Oper) (o : Oper) (σ : AS) (K : AS → Prop) : Prop :=
  dstOk P o σ = true ∧ match guardB ops o σ with
    | some true => orV P gl o σ K (opR P gl σ o)
    | some false => K (σ.put o.dst (.v (.tup []) none))
    | none => False

theorem wanted_of {cx : Cx} {gh : Gh} {σ : AS} {a : Act} {w : World} (r : RR cx gh σ a w) {ops : Array Oper} {o : Oper} {b : Bool} (h : guardB ops o σ = some b) : Region.wanted o (yielded ops a.tmps) = b := by
  unfold guardB at h
  unfold Region.wanted
  split at h
  · rename_i hg; rw [hg]; injection h
  · rename_i j want hg
    rw [hg]
    simp only []
    split at h
    · rename_i d hd
      have hev := r.ev (.tmp d)
      simp only [ev] at hev
      have hlt : ∀ {x y}, σ.get d = .v x y → d < a.tmps.size ∨ a.tmps.getD d undef = undef := fun {x y} _ => by
        rcases Nat.lt_or_ge d a.tmps.size with h | h
        · exact .inl h
        · exact .inr (by simp [Array.getElem?_eq_none h])
      have hget : ∀ {v}, a.tmps.getD d undef = v → (v = undef ∨ (a.tmps[d]? = some v)) := fun {v} hv => by
        rcases Nat.lt_or_ge d a.tmps.size with h | h
        · right; simp [h] at hv ⊢; exact hv
        · left; rw [← hv]; simp [Array.getElem?_eq_none h]
      split at h
      · rename_i q g hq
        rw [hq] at hev
        have hb := rep_bool hev.1
        injection h with h
        unfold yielded
        rcases hget hb with h1 | h1
        · cases h1
        · rw [hd]
          simp only [Option.bind_some, h1]
          rw [← h]
          cases q <;> cases want <;> rfl
      · rename_i l g hq
        rw [hq] at hev
        obtain ⟨cs, hb, -⟩ := Rep.tup_iff.1 hev.1
        injection h with h
        subst h
        unfold yielded
        rw [hd]
        simp only [Option.bind_some]
        rcases Nat.lt_or_ge d a.tmps.size with h1 | h1
        · have h2 : a.tmps[d]? = some (.tuple cs) := by simp [Act.eval, h1] at hb ⊢; exact hb
          rw [h2]; rfl
        · rw [Array.getElem?_eq_none h1]; rfl
      · cases h
    · cases h

theorem callsIn_fw {ro : Option Nat} {n : Nat} {P : Program} {f : FuncId} {args : Array Value} {w : World} {Q : Ending → World → Prop} (h : Calls P f args w Q) : CallsIn (Fw ro) n P f args w Q := by
  have h1 : CallsIn Fence.wide n P f args w Q := callsIn_wide.2 h
  exact h1

theorem calls_of_fw {n : Nat} {P : Program} {f : FuncId} {args : Array Value} {w : World} {Q : Ending → World → Prop} (h : CallsIn (Fw none) n P f args w Q) : Calls P f args w Q :=
  callsIn_wide.1 h

theorem dst_of {P : Program} {o : Oper} {σ : AS} (hd : dstOk P o σ = true) : ∀ t, o.dst = some t → t < σ.n ∧ t ∉ σ.fx := fun t ht => by
  simp only [dstOk, ht, Bool.and_eq_true, decide_eq_true_eq, Bool.not_eq_true', List.contains_eq_mem, decide_eq_false_iff_not] at hd
  exact hd.1

theorem opR_val_eff {cx : Cx} {gh : Gh} {σ : AS} {a : Act} {w : World} {o : Oper} (r : RR cx gh σ a w) (hd : dstOk cx.P o σ = true) :
    (∀ c z, opR cx.P cx.gl σ o = .val c z → c → ValOk cx σ a w o z) ∧ (∀ c σ', opR cx.P cx.gl σ o = .eff c σ' → c → cx.gl.y = none → EffOk cx a w o σ') := by
  have hd' := dst_of hd
  unfold opR
  split
  case h_1 x ho =>
    refine ⟨fun c z h _ => ?_, fun c σ' h => (by cases h)⟩
    simp only [OR.val.injEq] at h
    obtain ⟨-, rfl⟩ := h
    exact val_copy r x (by simp [execOp, ho])
  case h_2 x ho =>
    obtain ⟨h1, h2⟩ := eff_assign r ho hd'
    exact ⟨fun c z h _ => h1 c z h, fun c σ' h _ _ => h2 c σ' h⟩
  case h_3 x y z ho => exact ⟨fun c z h hc => ok_pick r ho h hc, fun c σ' h => by unfold pickR at h; split at h <;> cases h⟩
  case h_4 op t x y t' ho =>
    refine ⟨fun c z h hc => ok_bin r ho h hc, fun c σ' h => ?_⟩
    have hb : ∀ {x y c s}, binR op x y ≠ .eff c s := by
      intro x y c s h
      unfold binR at h
      split at h
      · split at h
        · unfold intOp at h; split at h <;> cases h
        · cases h
      · unfold strOp at h; split at h <;> cases h
      · cases h
    have hq : ∀ {k x y c s}, eqR cx.P op t k x y ≠ .eff c s := by
      intro k x y c s h
      unfold eqR at h
      split at h
      · split at h <;> cases h
      · cases h
    have hn : ∀ {k x c s}, nilSR cx.P op t k x ≠ .eff c s := by
      intro k x c s h
      unfold nilSR at h
      repeat' (split at h)
      all_goals cases h
    unfold orR at h
    split at h
    · split at h
      · exact absurd h hn
      · exact absurd h hq
    · exact absurd h hb
  case h_5 op t x ho => exact ⟨fun c z h hc => ok_un r ho h hc, fun c σ' h => by unfold unR at h; split at h <;> first | (split at h <;> cases h) | cases h⟩
  case h_6 t x f ho => exact ⟨fun c z h hc => ok_fieldAddr r ho h hc, fun c σ' h => by unfold fieldAddrR at h; split at h <;> first | (split at h <;> cases h) | cases h⟩
  case h_7 t x i ho => exact ⟨fun c z h hc => ok_indexAddr r ho h hc, fun c σ' h => by unfold indexAddrR at h; split at h <;> first | (split at h <;> cases h) | cases h⟩
  case h_8 t x ho =>
    refine ⟨fun c z h hc => ok_load r ho h hc, fun c σ' h => ?_⟩
    have hl : ∀ {l c s}, loadR cx.P t l ≠ .eff c s := by
      intro l c s h
      unfold loadR at h
      split at h
      · cases h
      · split at h <;> cases h
      · cases h
    have hr : ∀ {g l c s}, retag g (loadR cx.P t l) ≠ .eff c s := by
      intro g l c s h
      unfold retag at h
      split at h
      · cases h
      · exact absurd h hl
    unfold loadOpR at h
    split at h
    · exact absurd h hl
    · split at h
      · split at h
        · exact absurd h hl
        · exact absurd h hr
        · cases h
      · cases h
    · split at h
      · exact absurd h hl
      · cases h
    · cases h
  case h_9 t x i ho => exact ⟨fun c z h hc => ok_index r ho h hc, fun c σ' h => by unfold indexR at h; split at h <;> first | (split at h <;> simp at h) | cases h⟩
  case h_10 t x lo hi ho =>
    refine ⟨fun c z h hc => ok_slice r ho h hc, fun c σ' h => ?_⟩
    unfold sliceR at h
    split at h
    · split at h
      · simp only [if_true] at h; split at h <;> cases h
      · simp at h
    · split at h
      · split at h <;> cases h
      · cases h
    · split at h <;> first | (split at h <;> cases h) | cases h
    · cases h
  case h_11 x ho => exact ⟨fun c z h hc => ok_nilCheck r ho h hc, fun c σ' h => by unfold nilCheckR at h; split at h <;> cases h⟩
  case h_12 src dst x ho => exact ⟨fun c z h hc => ok_convert r ho h hc, fun c σ' h => by unfold convertR at h; split at h <;> first | (split at h <;> first | cases h | (split at h <;> cases h)) | cases h⟩
  case h_13 t parts ho =>
    refine ⟨fun c z h hc => ok_build r ho h hc, fun c σ' h => ?_⟩
    unfold buildR at h
    split at h
    · split at h
      · split at h <;> cases h
      · cases h
    · cases h
  case h_14 fn first caps ho =>
    refine ⟨fun c z h hc => ok_makeFunc2 r ho h hc, fun c σ' h => ?_⟩
    have h1 : ∀ {f i l c s}, makeFuncR f i l ≠ .eff c s := by
      intro f i l c s h
      unfold makeFuncR at h; split at h <;> first | (split at h <;> cases h) | cases h
    have h2 : ∀ {f i l c s}, makeClR f i l ≠ .eff c s := by
      intro f i l c s h
      unfold makeClR at h; split at h <;> first | (split at h <;> cases h) | cases h
    unfold orR at h
    split at h
    · exact absurd h h2
    · exact absurd h h1
  case h_15 t x ho => exact ⟨fun c z h hc => ok_makeIface r ho h hc, fun c σ' h => by unfold makeIfaceR at h; split at h <;> first | (split at h <;> cases h) | cases h⟩
  case h_16 x i ho => exact ⟨fun c z h hc => ok_extract r ho h hc, fun c σ' h => by unfold extractR at h; split at h <;> first | (split at h <;> cases h) | cases h⟩
  case h_17 t x ho =>
    split
    · exact ⟨fun c z h hc => ok_froz r ho h hc, fun c σ' h => by unfold frozR at h; split at h <;> cases h⟩
    refine ⟨fun c z h => ?_, fun c σ' h hc _ => eff_box r ho hd' h hc⟩
    unfold boxR at h
    split at h <;> first | (split at h <;> first | (split at h <;> cases h) | cases h) | cases h
  case h_18 t ho =>
    refine ⟨fun c z h => ?_, fun c σ' h hc _ => eff_alloc r ho hd' h hc⟩
    unfold allocR at h
    split at h
    · split at h <;> cases h
    · cases h
  case h_19 t x y ho =>
    refine ⟨fun c z h => ?_, fun c σ' h hc hgy => ?_⟩
    · unfold storeR at h
      split at h
      · cases h
      · split at h <;> first | (split at h <;> cases h) | cases h
    · have hd2 := hd
      simp only [dstOk, ho, Bool.and_eq_true] at hd2
      exact eff_store r hgy ho (by simpa using hd2.2.1) hd2.2.2 h hc
  case h_20 t len parts ho => exact ⟨(eff_buildSlice r ho hd').1, fun c σ' h hc _ => (eff_buildSlice r ho hd').2 c σ' h hc⟩
  case h_21 c ho =>
    obtain ⟨callee, args, tys⟩ := c
    unfold callR
    cases callee with
    | value f => refine ⟨fun c z h => ?_, fun c σ' h => ?_⟩ <;> (simp only [] at h; split at h <;> cases h)
    | invoke rc m => exact ⟨fun c z h => (by cases h), fun c σ' h => (by cases h)⟩
    | builtin b =>
      simp only []
      split
      · rename_i x t ha ht
        obtain rfl : args = #[x] := by rw [← Array.toArray_toList (xs := args), ha]
        obtain rfl : tys = #[t] := by rw [← Array.toArray_toList (xs := tys), ht]
        exact ⟨fun c z h hc => ok_len r ho h hc, fun c σ' h => by unfold lenR at h; split at h <;> first | (split at h <;> first | (simp only [if_true] at h; cases h) | (simp at h; done) | cases h) | cases h⟩
      · rename_i tl x y ha
        obtain rfl : args = #[x, y] := by rw [← Array.toArray_toList (xs := args), ha]
        exact ⟨fun c z h hc => ok_max r ho h hc, fun c σ' h => by unfold mxR at h; split at h <;> cases h⟩
      · rename_i tl x y ha
        obtain rfl : args = #[x, y] := by rw [← Array.toArray_toList (xs := args), ha]
        exact ⟨fun c z h hc => ok_min r ho h hc, fun c σ' h => by unfold mxR at h; split at h <;> cases h⟩
      · rename_i s x t t' ha ht
        obtain rfl : args = #[s, x] := by rw [← Array.toArray_toList (xs := args), ha]
        obtain rfl : tys = #[t, t'] := by rw [← Array.toArray_toList (xs := tys), ht]
        split
        · rename_i htt
          subst htt
          refine ⟨fun c z h => ?_, fun c σ' h hc hgy => eff_append r hgy ho hd' h hc⟩
          unfold appendR at h
          split at h
          · split at h <;> cases h
          · split at h <;> cases h
          · cases h
        · exact ⟨fun c z h => (by cases h), fun c σ' h => (by cases h)⟩
      · exact ⟨fun c z h => (by cases h), fun c σ' h => (by cases h)⟩
  case h_22 t x ho => exact ⟨fun c z h => (by unfold rangeR at h; split at h <;> cases h), fun c σ' h hc _ => eff_range r ho hd' h hc⟩
  case h_23 x str ho => exact ⟨fun c z h => (by unfold nextR at h; split at h <;> first | (split at h <;> first | (split at h <;> cases h) | cases h) | cases h), fun c σ' h hc hgy => eff_next r hgy ho hd' h hc⟩
  case h_24 t x i ho =>
    refine ⟨fun c z h hc => ok_field r ho h hc, fun c σ' h => ?_⟩
    unfold fieldR loadR at h
    split at h
    · split at h
      · split at h
        · cases h
        · split at h <;> cases h
        · cases h
      · cases h
    · cases h
  · exact ⟨fun c z h => (by cases h), fun c σ' h => (by cases h)⟩

theorem TV.plain_nit {x : TV} (h : x.plain) : x.nit = true := by cases x <;> first | rfl | exact h.elim

theorem loadR_nit {P : Program} {t : Nat} {l : List AV} {c : Prop} {z : TV} (h : loadR P t l = .val c z) : z.nit = true := by
  unfold loadR at h
  split at h
  · simp only [OR.val.injEq] at h; obtain ⟨-, rfl⟩ := h; rfl
  · split at h <;> first | (simp only [OR.val.injEq] at h; obtain ⟨-, rfl⟩ := h; rfl) | cases h
  · cases h

theorem retag_nit {g : Option (Nat × Nat)} {r : OR} (hr : ∀ c z, r = .val c z → z.nit = true) {c : Prop} {z : TV} (h : retag g r = .val c z) : z.nit = true := by
  unfold retag at h
  split at h
  · simp only [OR.val.injEq] at h; obtain ⟨-, rfl⟩ := h; rfl
  · exact hr c z h

theorem opR_nit {P : Program} {gl : Gl} {σ : AS} {o : Oper} {c : Prop} {z : TV} (h : opR P gl σ o = .val c z) : z.nit = true := by
  have hev : ∀ {x : Operand} {c z}, OR.val True (ev gl σ x) = .val c z → z.nit = true := fun {x c z} h => by
    simp only [OR.val.injEq] at h; obtain ⟨-, rfl⟩ := h; exact ev_nit gl σ x
  have hv : ∀ {c' c : Prop} {y : AV} {g} {z}, OR.val c' (.v y g) = .val c z → z.nit = true := fun {c' c y g z} h => by
    simp only [OR.val.injEq] at h; obtain ⟨-, rfl⟩ := h; rfl
  have hlp : ∀ {c' c : Prop} {k o'} {z}, OR.val c' (.lp k o') = .val c z → z.nit = true := fun {c' c k o' z} h => by
    simp only [OR.val.injEq] at h; obtain ⟨-, rfl⟩ := h; rfl
  unfold opR at h
  split at h
  case h_1 => exact hev h
  case h_2 =>
    unfold assignR at h
    split at h
    · split at h
      · split at h
        · split at h
          · split at h
            · exact hv h
            · cases h
          · exact hv h
        · exact hv h
      · simp only [OR.val.injEq] at h; obtain ⟨-, rfl⟩ := h; exact ev_nit gl σ (.const _)
    · exact hev h
  case h_3 => exact TV.plain_nit (plain_pickR h)
  case h_4 =>
    unfold orR at h
    split at h
    · split at h
      · exact TV.plain_nit (plain_nilSR h)
      · exact TV.plain_nit (plain_eqR h)
    · exact TV.plain_nit (plain_binR h)
  case h_5 => exact TV.plain_nit (plain_unR h)
  case h_6 => unfold fieldAddrR at h; split at h <;> first | (split at h <;> first | exact hlp h | exact hv h | cases h) | cases h
  case h_7 => unfold indexAddrR at h; split at h <;> first | (split at h <;> first | exact hv h | cases h) | cases h
  case h_8 =>
    unfold loadOpR at h
    split at h
    · exact loadR_nit h
    · split at h
      · split at h
        · exact loadR_nit h
        · exact retag_nit (fun _ _ => loadR_nit) h
        · cases h
      · cases h
    · split at h
      · exact loadR_nit h
      · cases h
    · cases h
  case h_9 => (unfold indexR at h; split at h <;> first | (split at h <;> first | exact hv h | cases h | (simp only [if_true] at h; exact hv h) | (simp at h; done)) | cases h)
  case h_10 => exact TV.plain_nit (plain_sliceR h)
  case h_11 => unfold nilCheckR at h; split at h <;> first | exact hlp h | exact hv h | cases h
  case h_12 => (unfold convertR at h; split at h <;> first | (split at h <;> first | exact hv h | (split at h <;> first | exact hv h | cases h) | cases h) | cases h)
  case h_13 => (unfold buildR at h; split at h <;> first | (split at h <;> first | (split at h <;> first | (simp only [OR.val.injEq] at h; obtain ⟨-, rfl⟩ := h; rfl) | cases h) | cases h) | cases h)
  case h_14 =>
    unfold orR at h
    split at h
    · unfold makeClR at h; split at h <;> first | (split at h <;> first | (simp only [OR.val.injEq] at h; obtain ⟨-, rfl⟩ := h; rfl) | cases h) | cases h
    · unfold makeFuncR at h; split at h <;> first | (split at h <;> first | exact hv h | cases h) | exact hv h | cases h
  case h_15 => (unfold makeIfaceR at h; split at h <;> first | (split at h <;> first | exact hv h | cases h) | cases h)
  case h_16 => (unfold extractR at h; split at h <;> first | (split at h <;> first | exact hv h | cases h) | cases h)
  case h_17 =>
    split at h
    · unfold frozR at h; split at h <;> first | exact hv h | cases h
    · unfold boxR at h
      split at h <;> first | (split at h <;> first | (split at h <;> cases h) | cases h) | cases h
  case h_18 => unfold allocR at h; split at h <;> first | (split at h <;> cases h) | cases h
  case h_19 => unfold storeR at h; split at h <;> first | (split at h <;> first | (split at h <;> cases h) | cases h) | cases h
  case h_20 =>
    unfold buildSliceR at h
    split at h
    · split at h
      · split at h
        · split at h
          · split at h
            · cases h
            · exact hv h
          · split at h
            · exact hv h
            · exact hv h
        · cases h
      · cases h
    · cases h
  case h_21 =>
    unfold callR at h
    split at h
    · split at h <;> cases h
    · split at h
      · exact TV.plain_nit (plain_lenR h)
      · exact TV.plain_nit (plain_mxR h)
      · exact TV.plain_nit (plain_mxR h)
      · split at h
        · unfold appendR at h
          split at h
          · split at h <;> cases h
          · split at h <;> cases h
          · cases h
        · cases h
      · cases h
    · cases h
  case h_22 => unfold rangeR at h; split at h <;> cases h
  case h_23 => unfold nextR at h; split at h <;> first | (split at h <;> first | (split at h <;> cases h) | cases h) | cases h
  case h_24 =>
    unfold fieldR at h
    split at h
    · split at h
      · exact loadR_nit h
      · cases h
    · cases h
  · cases h

end Go.Pv
end
