/- The operations over values without memory are right. -/
import Derived.Test.YtoehgdamenpclaaDoorPvE
namespace Go.Pv
open Go

theorem rep_int {lim : Lim} {h : Array Obj} {v : Value} {k : IntKind} {n : Int} (r : Rep lim h v (.int k n)) : v = .int k n := by cases r; rfl
theorem rep_bool {lim : Lim} {h : Array Obj} {v : Value} {b : Bool} (r : Rep lim h v (.bool b)) : v = .bool b := by cases r; rfl
theorem rep_yld {lim : Lim} {h : Array Obj} {v : Value} {l : Nat} (r : Rep lim h v (.yld l)) : v = .func (.yield l) #[] #[] := by cases r; rfl
theorem rep_str {lim : Lim} {h : Array Obj} {v : Value} {l : List UInt8} (r : Rep lim h v (.str l)) : v = .string ⟨l.toArray⟩ := by cases r; rfl

theorem trep_int (gh : Gh) (h : Array Obj) (k : IntKind) (n : Int) : TRep gh h (.int k n) (.v (.int k n) none) := ⟨.int k n, by simp⟩
theorem trep_bool (gh : Gh) (h : Array Obj) (b : Bool) : TRep gh h (.bool b) (.v (.bool b) none) := ⟨.bool b, by simp⟩
theorem trep_str (gh : Gh) (h : Array Obj) (l : List UInt8) : TRep gh h (.string ⟨l.toArray⟩) (.v (.str l) none) := ⟨.str l, by simp⟩
theorem trep_v {gh : Gh} {h : Array Obj} {v : Value} {x : AV} (r : Rep gh.lim h v x) : TRep gh h v (.v x none) := ⟨r, by simp⟩

theorem ba_append (a b : List UInt8) : (⟨a.toArray⟩ : ByteArray) ++ ⟨b.toArray⟩ = ⟨(a ++ b).toArray⟩ := by
  apply ByteArray.ext
  rw [ByteArray.data_append]
  simp
theorem ba_size (l : List UInt8) : (⟨l.toArray⟩ : ByteArray).size = l.length := by simp [ByteArray.size]

/-- The operation hands back a value that is x, and leaves the world alone. -/
def Yl (P : Program) (gh : Gh) (w : World) (s : Sem Value) (x : TV) : Prop := ∃ v, s.run P w = .ok v w ∧ TRep gh w.heap v x

theorem intOp_sound {P : Program} {gh : Gh} {w : World} {op : BinOp} {k : IntKind} {a b : Int} {t : TypeId} {xo yo : Operand} {c : Prop} {z : TV}
    (h : intOp op k a b = .val c z) (hc : c) : Yl P gh w (do eqGuard op t xo yo (.int k a) (.int k b); binOp op t (.int k a) (.int k b)) z := by
  rw [eqGuard_at_int]
  cases op <;> simp only [intOp, OR.val.injEq, reduceCtorEq] at h <;> obtain ⟨h1, rfl⟩ := h <;> subst h1
  · exact ⟨.int k (a + b), by simp [binOp, Op.intArith, show k.wrap (a + b) = a + b from hc], trep_int _ _ _ _⟩
  · exact ⟨.int k (a - b), by simp [binOp, Op.intArith, show k.wrap (a - b) = a - b from hc], trep_int _ _ _ _⟩
  · exact ⟨.int k (a * b), by simp [binOp, Op.intArith, show k.wrap (a * b) = a * b from hc], trep_int _ _ _ _⟩
  · exact ⟨.int k (a.tdiv b), by simp [binOp, Op.intDiv, hc.1, show k.wrap (a.tdiv b) = a.tdiv b from hc.2], trep_int _ _ _ _⟩
  · exact ⟨.int k (a.tmod b), by simp [binOp, Op.intDiv, hc], trep_int _ _ _ _⟩
  all_goals exact ⟨.bool _, by simp [binOp, Op.intCmp], trep_bool _ _ _⟩

theorem strOp_sound {P : Program} {gh : Gh} {w : World} {op : BinOp} {a b : List UInt8} {t : TypeId} {xo yo : Operand} {c : Prop} {z : TV}
    (h : strOp op a b = .val c z) (hc : c) : Yl P gh w (do eqGuard op t xo yo (.string ⟨a.toArray⟩) (.string ⟨b.toArray⟩); binOp op t (.string ⟨a.toArray⟩) (.string ⟨b.toArray⟩)) z := by
  rw [eqGuard_at_string]
  cases op <;> simp only [strOp, OR.val.injEq, reduceCtorEq] at h <;> obtain ⟨h1, rfl⟩ := h <;> subst h1
  case add =>
    refine ⟨_, ?_, trep_str _ _ _⟩
    have h2 : ¬ (9223372036854775807 : Int) < (((⟨a.toArray⟩ : ByteArray).size + (⟨b.toArray⟩ : ByteArray).size : Nat) : Int) := by rw [ba_size, ba_size]; omega
    simp only [binOp, Op.stringOp, Sem.run_bind, Sem.run_pure, Result.andThen_ok, IntKind.max_i64, gt_iff_lt, h2, if_false, ba_append]
  all_goals exact ⟨.bool _, by simp [binOp, Op.stringOp, ByteArray.toList_mk], trep_bool _ _ _⟩

theorem binR_sound {P : Program} {gh : Gh} {w : World} {op : BinOp} {x y : Option AV} {vx vy : Value} {t : TypeId} {xo yo : Operand} {c : Prop} {z : TV}
    (hx : ∀ a, x = some a → Rep gh.lim w.heap vx a) (hy : ∀ a, y = some a → Rep gh.lim w.heap vy a) (h : binR op x y = .val c z) (hc : c) :
    Yl P gh w (do eqGuard op t xo yo vx vy; binOp op t vx vy) z := by
  unfold binR at h
  split at h
  · rename_i k a k' b
    split at h
    · rename_i hk; subst hk
      obtain rfl := rep_int (hx _ rfl)
      obtain rfl := rep_int (hy _ rfl)
      exact intOp_sound h hc
    · cases h
  · obtain rfl := rep_str (hx _ rfl)
    obtain rfl := rep_str (hy _ rfl)
    exact strOp_sound h hc
  · cases h

theorem run_eqB {P : Program} {op : BinOp} {t : TypeId} {u v : Value} {b : Bool} {w : World} (hs : (binOp .eql t u v = do pure (.bool (← Op.equal t u v))) ∧ (binOp .neq t u v = do pure (.bool (!(← Op.equal t u v)))))
    (h : (Op.equal t u v).run P w = .ok b w) (ho : op = .eql ∨ op = .neq) : (binOp op t u v).run P w = .ok (.bool (if op = .eql then b else !b)) w := by
  rcases ho with rfl | rfl
  · rw [hs.1]; simp [h]
  · rw [hs.2]; simp [h]

theorem boolT_spec {P : Program} {t : TypeId} (h : boolT P t = true) : P.underlying t = some .bool := by unfold boolT at h; split at h <;> first | assumption | cases h
theorem funcT_spec {P : Program} {t : TypeId} (h : funcT P t = true) : ∃ a b c, P.underlying t = some (.func a b c) := by unfold funcT at h; split at h <;> first | exact ⟨_, _, _, by assumption⟩ | cases h
theorem ifaceT_spec {P : Program} {t : TypeId} (h : ifaceT P t = true) : ∃ a, P.underlying t = some (.interface a) := by unfold ifaceT at h; split at h <;> first | exact ⟨_, by assumption⟩ | cases h

theorem depth_succ : ∃ d, Op.maxDepth = d + 1 := ⟨_, rfl⟩

theorem strB_spec {P : Program} {t : TypeId} (h : strB P t = true) : P.underlying t = some .string := by unfold strB at h; split at h <;> first | assumption | cases h
theorem ikind_some {P : Program} {t : TypeId} (h : (ikind P t).isSome = true) : ∃ k, P.underlying t = some (.int k) := by
  unfold ikind at h
  split at h
  · exact ⟨_, by assumption⟩
  · cases h
theorem run_part_one {P : Program} {t : TypeId} {cs : Array Value} {i : Nat} {v : Value} {w : World} (h : P.underlying t = some .bool ∨ P.underlying t = some .string ∨ ∃ k, P.underlying t = some (.int k)) (hv : cs[i]? = some v) : (part t cs i).run P w = .ok v w := by
  rcases h with h | h | ⟨k, h⟩ <;> simp [part, isAgg, run_underlying h, hv]
theorem eqK_sound {P : Program} {lim : Lim} {w : World} {x y : AV} {vx vy : Value} {t : TypeId} {b : Bool} {d : Nat}
    (hx : Rep lim w.heap vx x) (hy : Rep lim w.heap vy y) (h : eqK P t x y = some b) : (Op.equalIn (d + 1) t vx vy).run P w = .ok b w := by
  unfold eqK at h
  split at h
  · obtain rfl := rep_bool hx
    obtain rfl := rep_bool hy
    split at h
    · rename_i hu
      obtain rfl := Option.some.inj h
      exact run_equalIn_bool w d t _ _ (boolT_spec hu)
    · cases h
  · obtain rfl := rep_int hx
    obtain rfl := rep_int hy
    split at h
    · rename_i hu
      obtain ⟨rfl, hu⟩ := hu
      obtain ⟨k', hu⟩ := ikind_some hu
      obtain rfl := Option.some.inj h
      exact run_equalIn_int w d t _ k' _ _ hu
    · cases h
  · obtain rfl := rep_str hx
    obtain rfl := rep_str hy
    split at h
    · rename_i hu
      obtain rfl := Option.some.inj h
      rw [run_equalIn_string w d t _ _ (strB_spec hu)]
      simp [ByteArray.toList_mk]
    · cases h
  · cases h
theorem eqFields_sound {P : Program} {lim : Lim} {w : World} {xs ys : Array Value} {d : Nat} : ∀ (fs : List Field) (i : Nat) (ts : List Nat) (la lb : List AV) (b : Bool), flatFs P fs i = some ts → RepL lim w.heap (xs.toList.drop i) la → RepL lim w.heap (ys.toList.drop i) lb →
    eqCells P ts la lb = some b → (Op.eqFields (d + 1) xs ys fs).run P w = .ok b w
  | [], i, ts, la, lb, b, hf, ha, hb, h => by
    simp only [flatFs, Option.some.injEq] at hf
    subst hf
    cases la with
    | nil =>
      cases lb with
      | nil => simp only [eqCells, Option.some.injEq] at h; subst h; rfl
      | cons y ys => simp [eqCells] at h
    | cons x xs => simp [eqCells] at h
  | f :: fs, i, ts, la, lb, b, hf, ha, hb, h => by
    simp only [flatFs] at hf
    split at hf
    · rename_i hc
      simp only [Bool.and_eq_true, bne_iff_ne, ne_eq, beq_iff_eq, Bool.or_eq_true] at hc
      obtain ⟨⟨h1, h2⟩, h3⟩ := hc
      obtain ⟨ts', hts, rfl⟩ := Option.map_eq_some_iff.1 hf
      cases la with
      | nil => simp [eqCells] at h
      | cons x xs' =>
       cases lb with
       | nil => simp [eqCells] at h
       | cons y ys' =>
        simp only [eqCells] at h
        split at h
        · rename_i c1 c2 e1 e2
          injection h with h; subst h
          have hun : P.underlying f.type = some .bool ∨ P.underlying f.type = some .string ∨ ∃ k, P.underlying f.type = some (.int k) := by
            rcases h3 with (h3 | h3) | h3
            · exact .inl (boolT_spec h3)
            · exact .inr (.inl (strB_spec h3))
            · exact .inr (.inr (ikind_some h3))
          obtain ⟨va, hva, hra⟩ := ha.get (j := 0) rfl
          obtain ⟨vb, hvb, hrb⟩ := hb.get (j := 0) rfl
          rw [List.getElem?_drop] at hva hvb
          have ih := eqFields_sound (d := d) fs (i + 1) ts' xs' ys' c2 hts (by
            have := ha.drop 1
            rwa [List.drop_drop] at this) (by
            have := hb.drop 1
            rwa [List.drop_drop] at this) e2
          have hpa := run_part_one (P := P) (w := w) hun (cs := xs) (i := f.offset) (v := va) (by rw [h2]; simpa using hva)
          have hpb := run_part_one (P := P) (w := w) hun (cs := ys) (i := f.offset) (v := vb) (by rw [h2]; simpa using hvb)
          have he := eqK_sound (d := d) hra hrb e1
          rw [Op.eqFields, if_pos h1]
          simp only [Sem.run_bind, hpa, hpb, he, Result.andThen_ok]
          cases c1
          · simp
          · simpa using ih
        · cases h
    · cases hf

theorem eqV_sound {P : Program} {gh : Gh} {w : World} {op : BinOp} {x y : AV} {vx vy : Value} {t : TypeId} {xo yo : Operand} {b : Bool}
    (hx : Rep gh.lim w.heap vx x) (hy : Rep gh.lim w.heap vy y) (h : eqV P t (isC xo || isC yo) x y = some b) (ho : op = .eql ∨ op = .neq) :
    (do eqGuard op t xo yo vx vy; binOp op t vx vy).run P w = .ok (.bool (if op = .eql then b else !b)) w := by
  obtain ⟨d, hd⟩ := depth_succ
  have key : ∀ (u v : Value) (b : Bool), ((binOp .eql t u v = do pure (.bool (← Op.equal t u v))) ∧ (binOp .neq t u v = do pure (.bool (!(← Op.equal t u v))))) → (Op.equal t u v).run P w = .ok b w →
      (eqGuard op t xo yo u v).run P w = .ok () w → (do eqGuard op t xo yo u v; binOp op t u v).run P w = .ok (.bool (if op = .eql then b else !b)) w := by
    intro u v b h1 h2 h3
    simp only [Sem.run_bind, h3, Result.andThen_ok]
    exact run_eqB h1 h2 ho
  unfold eqV at h
  split at h
  · obtain rfl := rep_bool hx
    obtain rfl := rep_bool hy
    split at h
    · rename_i hu
      obtain rfl := Option.some.inj h
      refine key _ _ _ ⟨rfl, rfl⟩ ?_ (by rw [eqGuard_at_bool]; rfl)
      unfold Op.equal; rw [hd]; unfold Op.equalIn; simp [run_underlying (boolT_spec hu)]
    · cases h
  · split at h
    · rename_i hu
      obtain ⟨a1, a2, a3, hu⟩ := funcT_spec hu
      obtain rfl := Option.some.inj h
      cases hx; cases hy
      refine key _ _ _ ⟨rfl, rfl⟩ ?_ (by rcases ho with rfl | rfl <;> rfl)
      unfold Op.equal; rw [hd]; unfold Op.equalIn; simp [run_underlying hu]
    · cases h
  · split at h
    · rename_i hu
      obtain ⟨a1, a2, a3, hu⟩ := funcT_spec hu
      obtain rfl := Option.some.inj h
      cases hx; cases hy
      refine key _ _ _ ⟨rfl, rfl⟩ ?_ (by rcases ho with rfl | rfl <;> rfl)
      unfold Op.equal; rw [hd]; unfold Op.equalIn; simp [run_underlying hu]
    · cases h
  · split at h
    · rename_i hu
      obtain ⟨a1, a2, a3, hu⟩ := funcT_spec hu
      obtain rfl := Option.some.inj h
      cases hx; cases hy
      refine key _ _ _ ⟨rfl, rfl⟩ ?_ (by rcases ho with rfl | rfl <;> rfl)
      unfold Op.equal; rw [hd]; unfold Op.equalIn; simp [run_underlying hu]
    · cases h
  · split at h
    · rename_i hu
      rw [Bool.and_eq_true] at hu
      obtain ⟨hu, hk⟩ := hu
      obtain ⟨a1, hu⟩ := ifaceT_spec hu
      obtain rfl := Option.some.inj h
      cases hx; cases hy
      refine key _ _ _ ⟨rfl, rfl⟩ ?_ ?_
      · unfold Op.equal; rw [hd]; unfold Op.equalIn; simp [run_underlying hu]
      · clear key h
        rcases ho with rfl | rfl <;> cases xo <;> cases yo <;> first | rfl | (simp [isC] at hk)
    · cases h
  · split at h
    · rename_i hu
      obtain ⟨a1, hu⟩ := ifaceT_spec hu
      obtain rfl := Option.some.inj h
      cases hx; cases hy
      refine key _ _ _ ⟨rfl, rfl⟩ ?_ (by rcases ho with rfl | rfl <;> rfl)
      unfold Op.equal; rw [hd]; unfold Op.equalIn; simp [run_underlying hu]
    · cases h
  · split at h
    · rename_i hu
      obtain ⟨a1, hu⟩ := ifaceT_spec hu
      obtain rfl := Option.some.inj h
      cases hx; cases hy
      refine key _ _ _ ⟨rfl, rfl⟩ ?_ (by rcases ho with rfl | rfl <;> rfl)
      unfold Op.equal; rw [hd]; unfold Op.equalIn; simp [run_underlying hu]
    · cases h
  · obtain ⟨ts, h1, h2⟩ := Option.bind_eq_some_iff.1 h
    obtain ⟨xs, rfl, hxs⟩ := Rep.agg_iff.1 hx
    obtain ⟨ys, rfl, hys⟩ := Rep.agg_iff.1 hy
    unfold flatS at h1
    split at h1
    · rename_i fs hu
      split at h1
      · cases h1
      · rename_i hg
        simp only [Bool.or_eq_true, not_or, Bool.not_eq_true] at hg
        have hfo : P.fieldsOf t = fs := by unfold Program.fieldsOf; rw [hu]
        have hrun : (Op.equal t (.agg xs) (.agg ys)).run P w = .ok b w := by
          unfold Op.equal
          rw [show Op.maxDepth = 9998 + 1 + 1 from rfl, run_equalIn_agg w _ t xs ys (by rw [hfo]; exact hu) hg.1, hfo]
          exact eqFields_sound fs.toList 0 ts _ _ b h1 (by simpa using hxs) (by simpa using hys) h2
        refine key _ _ _ ⟨rfl, rfl⟩ hrun (run_eqGuard_agg w op t xo yo xs ys hg.2)
    · cases h1
  · cases h

theorem eqR_sound {P : Program} {gh : Gh} {w : World} {op : BinOp} {x y : Option AV} {vx vy : Value} {t : TypeId} {xo yo : Operand} {c : Prop} {z : TV}
    (hx : ∀ a, x = some a → Rep gh.lim w.heap vx a) (hy : ∀ a, y = some a → Rep gh.lim w.heap vy a) (h : eqR P op t (isC xo || isC yo) x y = .val c z) (hc : c) :
    Yl P gh w (do eqGuard op t xo yo vx vy; binOp op t vx vy) z := by
  unfold eqR at h
  split at h
  · split at h
    · rename_i hb
      simp only [OR.val.injEq] at h
      obtain ⟨h1, rfl⟩ := h
      exact ⟨.bool _, eqV_sound (op := .eql) (hx _ rfl) (hy _ rfl) hb (.inl rfl), trep_bool _ _ _⟩
    · rename_i hb
      simp only [OR.val.injEq] at h
      obtain ⟨h1, rfl⟩ := h
      exact ⟨.bool _, eqV_sound (op := .neq) (hx _ rfl) (hy _ rfl) hb (.inr rfl), trep_bool _ _ _⟩
    · cases h
  · cases h

theorem unR_sound {P : Program} {gh : Gh} {w : World} {op : UnOp} {x : Option AV} {vx : Value} {c : Prop} {z : TV}
    (hx : ∀ a, x = some a → Rep gh.lim w.heap vx a) (h : unR op x = .val c z) (hc : c) : Yl P gh w (Op.unary op vx) z := by
  unfold unR at h
  split at h
  · obtain rfl := rep_bool (hx _ rfl)
    split at h
    · simp only [OR.val.injEq] at h
      obtain ⟨h1, rfl⟩ := h
      exact ⟨.bool _, by simp [Op.unary], trep_bool _ _ _⟩
    · cases h
  · obtain rfl := rep_int (hx _ rfl)
    split at h
    · simp only [OR.val.injEq] at h
      obtain ⟨h1, rfl⟩ := h
      subst h1
      exact ⟨.int _ _, by simp only [Op.unary, Op.intArith, Sem.run_pure]; rw [show IntKind.wrap _ _ = _ from hc], trep_int _ _ _ _⟩
    · cases h
  · cases h

theorem pickR_sound {gh : Gh} {w : World} {x y z : Option AV} {vx vy vz : Value} {c : Prop} {u : TV} {P : Program}
    (hx : ∀ a, x = some a → Rep gh.lim w.heap vx a) (hy : ∀ a, y = some a → Rep gh.lim w.heap vy a) (hz : ∀ a, z = some a → Rep gh.lim w.heap vz a)
    (h : pickR x y z = .val c u) (_ : c) : Yl P gh w (do pure (if ← asBool vx then vy else vz)) u := by
  unfold pickR at h
  split at h
  · rename_i b p q
    obtain rfl := rep_bool (hx _ rfl)
    simp only [OR.val.injEq] at h
    obtain ⟨h1, rfl⟩ := h
    refine ⟨if b then vy else vz, by simp [asBool], trep_v ?_⟩
    cases b
    · exact hz _ rfl
    · exact hy _ rfl
  · cases h

theorem elemT_spec {P : Program} {t e : Nat} (h : elemT P t = some e) : P.underlying t = some (.slice e) ∧ (P.info? e).isSome = true := by
  unfold elemT at h
  split at h
  · rename_i e' hu
    split at h
    · rename_i hi; injection h with h; subst h; exact ⟨hu, hi⟩
    · cases h
  · cases h

theorem lenR_sound {P : Program} {gh : Gh} {w : World} {x : Option AV} {vx : Value} {t ty : TypeId} {c : Prop} {z : TV} {ts : Array TypeId}
    (hx : ∀ a, x = some a → Rep gh.lim w.heap vx a) (h : lenR P t x = .val c z) (_ : c) (ht : ts[0]? = some t) : Yl P gh w (Builtin.len_ ts ty #[vx]) z := by
  unfold lenR at h
  split at h
  · obtain rfl := rep_str (hx _ rfl)
    split at h
    · rename_i hu
      simp only [OR.val.injEq] at h
      obtain ⟨h1, rfl⟩ := h
      have hu' : P.underlying t = some .string := by
        revert hu
        cases P.underlying t with
        | none => intro h; cases h
        | some d => cases d <;> intro h <;> first | rfl | cases h
      exact ⟨.int .i64 _, by simp [Builtin.len_, ht, run_underlying hu', goInt, ba_size], trep_int _ _ _ _⟩
    · cases h
  · obtain ⟨p, cap, rfl, -⟩ := (hx _ rfl).slice_form
    split at h
    · rename_i l he
      simp only [OR.val.injEq] at h
      obtain ⟨h1, rfl⟩ := h
      obtain ⟨e, he⟩ := Option.isSome_iff_exists.1 he
      have hu := (elemT_spec he).1
      exact ⟨.int .i64 _, by simp [Builtin.len_, ht, run_underlying hu, goInt], trep_int _ _ _ _⟩
    · cases h
  · cases h

theorem mxR_sound {P : Program} {gh : Gh} {w : World} {x y : Option AV} {vx vy : Value} {ty : TypeId} {c : Prop} {z : TV} {ts : Array TypeId}
    (hx : ∀ a, x = some a → Rep gh.lim w.heap vx a) (hy : ∀ a, y = some a → Rep gh.lim w.heap vy a) :
    (mxR true x y = .val c z → c → Yl P gh w (Builtin.max_ ts ty #[vx, vy]) z) ∧ (mxR false x y = .val c z → c → Yl P gh w (Builtin.min_ ts ty #[vx, vy]) z) := by
  constructor
  · intro h hc
    unfold mxR at h
    split at h
    · obtain rfl := rep_int (hx _ rfl)
      obtain rfl := rep_int (hy _ rfl)
      simp only [OR.val.injEq] at h
      obtain ⟨h1, rfl⟩ := h
      exact ⟨.int _ _, by simp [Builtin.max_, Builtin.max2], trep_int _ _ _ _⟩
    · cases h
  · intro h hc
    unfold mxR at h
    split at h
    · obtain rfl := rep_int (hx _ rfl)
      obtain rfl := rep_int (hy _ rfl)
      simp only [OR.val.injEq] at h
      obtain ⟨h1, rfl⟩ := h
      exact ⟨.int _ _, by simp [Builtin.min_, Builtin.min2], trep_int _ _ _ _⟩
    · cases h

/-! ### Structs, memory that never changes -/
theorem run_isAgg {P : Program} {t : TypeId} {b : Bool} (h : aggO P t = some b) (w : World) : (isAgg t).run P w = .ok b w := by
  unfold aggO at h
  cases hd : P.underlying t with
  | none => rw [hd] at h; cases h
  | some d =>
    rw [hd] at h
    unfold isAgg
    cases d <;> simp_all [run_underlying hd]

theorem aggO_some {P : Program} {t : TypeId} {b : Bool} (h : aggO P t = some b) : (P.underlying t).isSome = true := by
  unfold aggO at h
  cases hd : P.underlying t with
  | none => rw [hd] at h; cases h
  | some d => rfl

theorem run_sizeOf {P : Program} {t : TypeId} (h : (P.info? t).isSome = true) (w : World) : (sizeOf t).run P w = .ok (esz P t) w := by
  obtain ⟨i, hi⟩ := Option.isSome_iff_exists.1 h
  simp [sizeOf, typeInfo, esz, hi]

theorem info_of_underlying {P : Program} {t : TypeId} (h : (P.underlying t).isSome = true) : (P.info? t).isSome = true := by
  unfold Program.underlying at h
  cases hi : P.info? t with
  | none => rw [hi] at h; cases h
  | some i => rfl

/-- Loading from cells that read as 'cells'. -/
theorem loadR_sound {P : Program} {gh : Gh} {w : World} {t : TypeId} {cells : List AV} {c : Prop} {z : TV} (b off : Nat) (vs : List Value)
    (hr : RepL gh.lim w.heap vs cells) (hv : ∀ j u, vs[j]? = some u → cellAt w.heap b (off + j) = some u) (h : loadR P t cells = .val c z) (hc : c) : Yl P gh w (loadVar t ⟨b, off, none⟩) z := by
  unfold loadR at h
  unfold loadVar
  have hcell : ∀ j u, vs[j]? = some u → w.cell? (Addr.add ⟨b, off, none⟩ j) = some u := fun j u hu => by
    rw [Addr.add_lit, cell?_eq]; exact hv j u hu
  split at h
  · rename_i hagg
    simp only [OR.val.injEq] at h
    obtain ⟨h1, rfl⟩ := h
    subst h1
    have hl : (vs.take (esz P t)).length = esz P t := by rw [List.length_take, hr.1]; omega
    refine ⟨.agg (vs.take (esz P t)).toArray, ?_, trep_v (Rep.agg_iff.2 ⟨_, rfl, by simpa using hr.take _⟩)⟩
    have := run_loadCells_list (P := P) w ⟨b, off, none⟩ (vs.take (esz P t)) (fun j u hu => hcell j u (by
      rw [List.getElem?_take] at hu
      split at hu
      · exact hu
      · cases hu))
    rw [hl] at this
    simp [run_isAgg hagg, run_sizeOf (info_of_underlying (aggO_some hagg)), this]
  · rename_i hagg
    split at h
    · rename_i x hx0
      simp only [OR.val.injEq] at h
      obtain ⟨h1, rfl⟩ := h
      obtain ⟨v, hv0, hrv⟩ := hr.get hx0
      have h0 := hcell 0 v hv0
      rw [Addr.add_zero'] at h0
      refine ⟨v, ?_, trep_v hrv⟩
      simp [run_isAgg hagg, h0]
    · cases h
  · cases h

theorem foff_spec {P : Program} {t f o : Nat} (h : foff P t f = some o) : ∃ fs x, P.underlying t = some (.struct fs) ∧ fs[f]? = some x ∧ esz P x.type ≠ 0 ∧ x.offset = o ∧ ftyp P t f = x.type := by
  unfold foff at h
  split at h
  · rename_i fs hu
    cases hx : fs[f]? with
    | none => rw [hx] at h; cases h
    | some x =>
      rw [hx] at h
      simp only [Option.bind_some] at h
      split at h
      · cases h
      · rename_i hne
        injection h with h
        exact ⟨fs, x, hu, hx, hne, h, by simp [ftyp, hu, hx]⟩
  · cases h

theorem run_fieldAt {P : Program} {t f o b off : Nat} (h : foff P t f = some o) (w : World) : (Instr.fieldAt t (.pointer (some ⟨b, off, none⟩)) f).run P w = .ok (.pointer (some ⟨b, off + o, none⟩)) w := by
  obtain ⟨fs, x, hu, hx, hne, ho, -⟩ := foff_spec h
  have hi : (P.info? x.type).isSome = true := by
    cases hq : P.info? x.type with
    | none => exact absurd (by simp [esz, hq]) hne
    | some i => rfl
  unfold Instr.fieldAt
  simp [run_underlying hu, hx, Instr.sureAddr, fieldPlace, run_sizeOf hi, hne, Addr.add_lit, ho]

theorem run_indexAt {P : Program} {t e : Nat} (he : elemT P t = some e) {b off n cap : Nat} {k : IntKind} {i : Int} (h0 : 0 ≤ i) (h1 : i < n) (w : World) :
    (Instr.indexAt t (.slice (some ⟨b, off, none⟩) n cap) (.int k i)).run P w = .ok (.pointer (some ⟨b, off + i.toNat * esz P e, none⟩)) w := by
  obtain ⟨hu, hi⟩ := elemT_spec he
  unfold Instr.indexAt
  simp [asIntOf, run_underlying hu, h0, h1, run_sizeOf hi, Addr.add_lit]

theorem some_string {P : Program} {t : TypeId} (h : (P.underlying t matches some .string) = true) : P.underlying t = some .string := by
  revert h
  cases P.underlying t with
  | none => intro h; cases h
  | some d => cases d <;> intro h <;> first | rfl | cases h

theorem extract_str (l : List UInt8) (lo hi : Nat) (h : lo ≤ hi) (h2 : hi ≤ l.length) : (⟨l.toArray⟩ : ByteArray).extract lo hi = ⟨((l.take hi).drop lo).toArray⟩ := by
  apply ByteArray.ext
  rw [ByteArray.data_extract]
  simp [List.extract_eq_take_drop, List.drop_take]

end Go.Pv
