/- The operations that hand back a value are right. -/
import Derived.Test.YtoehgdamenpclaaDoorPvH
import Derived.Laws.BytesArg
import Derived.Laws.IdiomStrings
namespace Go.Pv
open Go

variable {cx : Cx} {gh : Gh} {σ : AS} {a : Act} {w : World} {o : Oper}

theorem RR.av (r : RR cx gh σ a w) (x : Operand) (y : AV) (h : (Pv.ev cx.gl σ x).av = some y) : Rep gh.lim w.heap (a.eval x) y := av_rep (r.ev x) h

theorem rep_gp {lim : Lim} {h : Array Obj} {v : Value} {b off : Nat} (r : Rep lim h v (.gp b off)) : v = .pointer (some ⟨b, off, none⟩) := by cases r; rfl

theorem val_copy (r : RR cx gh σ a w) (x : Operand) (he : execOp a.eval o = pure (.value (a.eval x))) : ValOk cx σ a w o (Pv.ev cx.gl σ x) :=
  ⟨_, w, gh, by rw [he]; rfl, r, r.ev x, fun _ _ h => r.ev_lp x h, fun _ _ _ h => r.ev_uses x h⟩

theorem val_const (r : RR cx gh σ a w) (v : Value) (x : AV) (hx : Rep gh.lim w.heap v x) (he : execOp a.eval o = pure (.value v)) : ValOk cx σ a w o (.v x none) :=
  ⟨_, w, gh, by rw [he]; rfl, r, trep_v hx, by simp, by simp⟩

theorem plain_binR {op : BinOp} {x y : Option AV} {c : Prop} {z : TV} (h : binR op x y = .val c z) : TV.plain z := by
  unfold binR at h
  split at h
  · split at h
    · unfold intOp at h
      split at h <;> first | (simp only [OR.val.injEq] at h; obtain ⟨-, rfl⟩ := h; trivial) | cases h
    · cases h
  · unfold strOp at h
    split at h <;> first | (simp only [OR.val.injEq] at h; obtain ⟨-, rfl⟩ := h; trivial) | cases h
  · cases h

theorem plain_eqR {P : Program} {op : BinOp} {t : Nat} {k : Bool} {x y : Option AV} {c : Prop} {z : TV} (h : eqR P op t k x y = .val c z) : TV.plain z := by
  unfold eqR at h
  split at h
  · split at h <;> first | (simp only [OR.val.injEq] at h; obtain ⟨-, rfl⟩ := h; trivial) | cases h
  · cases h

theorem plain_unR {op : UnOp} {x : Option AV} {c : Prop} {z : TV} (h : unR op x = .val c z) : TV.plain z := by
  unfold unR at h
  split at h
  · split at h <;> first | (simp only [OR.val.injEq] at h; obtain ⟨-, rfl⟩ := h; trivial) | cases h
  · split at h <;> first | (simp only [OR.val.injEq] at h; obtain ⟨-, rfl⟩ := h; trivial) | cases h
  · cases h

theorem plain_pickR {x y u : Option AV} {c : Prop} {z : TV} (h : pickR x y u = .val c z) : TV.plain z := by
  unfold pickR at h
  split at h
  · simp only [OR.val.injEq] at h; obtain ⟨-, rfl⟩ := h; trivial
  · cases h

theorem plain_loadR {P : Program} {t : Nat} {l : List AV} {c : Prop} {z : TV} (h : loadR P t l = .val c z) : TV.plain z := by
  unfold loadR at h
  split at h
  · simp only [OR.val.injEq] at h; obtain ⟨-, rfl⟩ := h; trivial
  · split at h
    · simp only [OR.val.injEq] at h; obtain ⟨-, rfl⟩ := h; trivial
    · cases h
  · cases h

theorem plain_sliceR {P : Program} {t : Nat} {x : Option AV} {lo hi : Option (Option AV)} {c : Prop} {z : TV} (h : sliceR P t x lo hi = .val c z) : TV.plain z := by
  unfold sliceR at h
  split at h
  · split at h
    · simp only [if_true] at h
      split at h <;> first | (simp only [OR.val.injEq] at h; obtain ⟨-, rfl⟩ := h; trivial) | cases h
    · simp at h
  · split at h
    · split at h <;> first | (simp only [OR.val.injEq] at h; obtain ⟨-, rfl⟩ := h; trivial) | cases h
    · cases h
  · split at h <;> first | (split at h <;> first | (simp only [OR.val.injEq] at h; obtain ⟨-, rfl⟩ := h; trivial) | cases h) | cases h
  · cases h

theorem plain_lenR {P : Program} {t : Nat} {x : Option AV} {c : Prop} {z : TV} (h : lenR P t x = .val c z) : TV.plain z := by
  unfold lenR at h
  split at h
  · split at h
    · simp only [if_true, OR.val.injEq] at h; obtain ⟨-, rfl⟩ := h; trivial
    · simp at h
  · split at h
    · simp only [OR.val.injEq] at h; obtain ⟨-, rfl⟩ := h; trivial
    · cases h
  · cases h

theorem plain_mxR {b : Bool} {x y : Option AV} {c : Prop} {z : TV} (h : mxR b x y = .val c z) : TV.plain z := by
  unfold mxR at h
  split at h
  · simp only [OR.val.injEq] at h; obtain ⟨-, rfl⟩ := h; trivial
  · cases h

/-! ### One theorem for each operation -/
theorem ok_pick (r : RR cx gh σ a w) {x y z : Operand} (ho : o.op = .pick x y z) {c : Prop} {t : TV} (h : pickR (Pv.ev cx.gl σ x).av (Pv.ev cx.gl σ y).av (Pv.ev cx.gl σ z).av = .val c t) (hc : c) : ValOk cx σ a w o t := by
  refine .of_plain r (s := do pure (if ← asBool (a.eval x) then a.eval y else a.eval z)) ?_ (pickR_sound (P := cx.P) (r.av x) (r.av y) (r.av z) h hc) (plain_pickR h)
  simp [execOp, ho]

theorem ok_bin (r : RR cx gh σ a w) {op : BinOp} {t t' : TypeId} {x y : Operand} (ho : o.op = .binOp op t x y t') {c : Prop} {z : TV}
    (h : orR (binR op (Pv.ev cx.gl σ x).av (Pv.ev cx.gl σ y).av) (eqR cx.P op t (isC x || isC y) (Pv.ev cx.gl σ x).av (Pv.ev cx.gl σ y).av) = .val c z) (hc : c) : ValOk cx σ a w o z := by
  have he : execOp a.eval o = (do pure (.value (← (do eqGuard op t x y (a.eval x) (a.eval y); binOp op t (a.eval x) (a.eval y))))) := by simp [execOp, ho]
  cases hb : binR op (Pv.ev cx.gl σ x).av (Pv.ev cx.gl σ y).av with
  | stuck =>
    rw [hb] at h
    exact .of_plain r he (eqR_sound (r.av x) (r.av y) h hc) (plain_eqR h)
  | val c' z' =>
    rw [hb] at h
    simp only [orR] at h
    rw [← hb] at h
    exact .of_plain r he (binR_sound (r.av x) (r.av y) h hc) (plain_binR h)
  | eff c' s => rw [hb] at h; cases h
  | call f l => rw [hb] at h; cases h
  | callB f l ks => rw [hb] at h; cases h
  | yld l x => rw [hb] at h; cases h

theorem ok_un (r : RR cx gh σ a w) {op : UnOp} {t : TypeId} {x : Operand} (ho : o.op = .unOp op t x) {c : Prop} {z : TV} (h : unR op (Pv.ev cx.gl σ x).av = .val c z) (hc : c) : ValOk cx σ a w o z :=
  .of_plain r (by simp [execOp, ho]) (unR_sound (r.av x) h hc) (plain_unR h)

theorem ok_fieldAddr (r : RR cx gh σ a w) {t f : Nat} {x : Operand} (ho : o.op = .fieldAddr t x f) {c : Prop} {z : TV} (h : fieldAddrR (foff cx.P t f) (Pv.ev cx.gl σ x) = .val c z) (_ : c) : ValOk cx σ a w o z := by
  have hx := r.ev x
  have he : execOp a.eval o = (do pure (.value (← Instr.fieldAt t (a.eval x) f))) := by simp [execOp, ho]
  unfold fieldAddrR at h
  split at h
  · rename_i k off hk
    split at h
    · rename_i i hi
      simp only [OR.val.injEq] at h
      obtain ⟨-, rfl⟩ := h
      rw [hk] at hx
      refine .of_yl r he ⟨.pointer (some ⟨gh.bl k, off + i, none⟩), ?_, rfl⟩ (fun k' o' e => ?_) (by simp)
      · rw [show a.eval x = .pointer (some ⟨gh.bl k, off, none⟩) from hx]
        exact run_fieldAt hi w
      · injection e with e1 e2; subst e1; exact r.ev_lp x hk
    · cases h
  · rename_i l g hk
    split at h
    · rename_i i hi
      simp only [OR.val.injEq] at h
      obtain ⟨-, rfl⟩ := h
      rw [hk] at hx
      obtain ⟨b, off, vs, hv, -, -⟩ := Rep.ro_iff.1 hx.1
      have hx1 := hx.1
      rw [hv] at hx1
      refine .of_plain r he ⟨.pointer (some ⟨b, off + i, none⟩), ?_, trep_v (hx1.ro_drop i)⟩ trivial
      rw [hv]; exact run_fieldAt hi w
    · cases h
  · rename_i b off g hk
    split at h
    · rename_i i hi
      simp only [OR.val.injEq] at h
      obtain ⟨-, rfl⟩ := h
      rw [hk] at hx
      have hv : a.eval x = .pointer (some ⟨b, off, none⟩) := rep_gp hx.1
      refine .of_plain r he ⟨.pointer (some ⟨b, off + i, none⟩), ?_, trep_v (.gp b (off + i))⟩ trivial
      rw [hv]; exact run_fieldAt hi w
    · cases h
  · cases h

theorem ok_indexAddr (r : RR cx gh σ a w) {t : Nat} {x i : Operand} (ho : o.op = .indexAddr t x i) {c : Prop} {z : TV} (h : indexAddrR cx.P t (Pv.ev cx.gl σ x).av (Pv.ev cx.gl σ i).av = .val c z) (hc : c) : ValOk cx σ a w o z := by
  have he : execOp a.eval o = (do pure (.value (← Instr.indexAt t (a.eval x) (a.eval i)))) := by simp [execOp, ho]
  unfold indexAddrR at h
  split at h
  · rename_i l k n hx hi
    split at h
    · rename_i e hel
      simp only [OR.val.injEq] at h
      obtain ⟨h1, rfl⟩ := h
      subst h1
      obtain ⟨⟨h0, hlt⟩, hlen⟩ := hc
      have hxr := r.av x _ hx
      have hir := rep_int (r.av i _ hi)
      obtain ⟨p, cap, hv, hcap⟩ := hxr.slice_form
      rw [hv] at hxr
      have hrow : l[n.toNat]? = some (row l n.toNat) := by
        have : n.toNat < l.length := by omega
        simp [row, this]
      obtain ⟨b, off, rfl, hro⟩ := hxr.row hrow
      rw [hlen] at hro
      refine .of_plain r he ⟨_, ?_, trep_v hro⟩ trivial
      rw [hv, hir]
      exact run_indexAt hel h0 hlt w
    · cases h
  · cases h

theorem retag_none {r : OR} : retag none r = r := by
  unfold retag
  split <;> rfl

theorem RR.cells_at (r : RR cx gh σ a w) {k : Nat} {cells : List AV} (hk : look k σ.bx = some cells) : ∃ vs : List Value, RepL gh.lim w.heap vs cells ∧ ∀ j u, vs[j]? = some u → cellAt w.heap (gh.bl k) j = some u := by
  obtain ⟨-, -, cs, e, hcs, hrep⟩ := r.boxes k cells hk
  refine ⟨cs.toList, hrep, fun j u hu => ?_⟩
  unfold cellAt
  rw [hcs]
  simpa using hu

theorem tagAt_mem {tb : List (Nat × Nat × Nat × Nat)} {k j : Nat} {p : Nat × Nat} (h : tagAt tb k j = some p) : (k, j, p.1, p.2) ∈ tb := by
  induction tb with
  | nil => cases h
  | cons q tb ih =>
    simp only [tagAt] at h
    split at h
    · rename_i hq
      injection h with h; subst h
      obtain ⟨q1, q2, q3, q4⟩ := q
      obtain ⟨h1, h2⟩ := hq
      simp only at h1 h2
      subst h1; subst h2
      exact List.mem_cons_self ..
    · exact List.mem_cons_of_mem _ (ih h)

theorem ok_load (r : RR cx gh σ a w) {t : Nat} {x : Operand} (ho : o.op = .load t x) {c : Prop} {z : TV} (h : loadOpR cx.P σ t (Pv.ev cx.gl σ x) = .val c z) (hc : c) : ValOk cx σ a w o z := by
  have hx := r.ev x
  have he : execOp a.eval o = (do pure (.value (← Instr.loadAt t (a.eval x)))) := by simp [execOp, ho]
  have hla : ∀ b off, (Instr.loadAt t (.pointer (some ⟨b, off, none⟩))) = loadVar t ⟨b, off, none⟩ := fun b off => rfl
  unfold loadOpR at h
  split at h
  · rename_i l g hk
    rw [hk] at hx
    obtain ⟨b, off, vs, hv, hrl, hcell⟩ := Rep.ro_iff.1 hx.1
    refine .of_plain r he ?_ (plain_loadR h)
    rw [hv, hla]
    exact loadR_sound b off vs hrl (fun j u hu => (hcell j u hu).2) h hc
  · rename_i k off hk
    rw [hk] at hx
    split at h
    · rename_i cells hcells
      obtain ⟨vs, hrl, hcell⟩ := r.cells_at hcells
      have hcell' : ∀ j u, (vs.drop off)[j]? = some u → cellAt w.heap (gh.bl k) (off + j) = some u := fun j u hu => by
        rw [List.getElem?_drop] at hu; exact hcell _ u hu
      have hrun : ∀ {c z}, loadR cx.P t (cells.drop off) = .val c z → c → Yl cx.P gh w (Instr.loadAt t (a.eval x)) z := fun h hc => by
        rw [show a.eval x = .pointer (some ⟨gh.bl k, off, none⟩) from hx, hla]
        exact loadR_sound (gh.bl k) off (vs.drop off) (hrl.drop off) hcell' h hc
      split at h
      · exact .of_plain r he (hrun h hc) (plain_loadR h)
      · rename_i hagg
        cases htag : tagAt σ.tb k off with
        | none => rw [htag, retag_none] at h; exact .of_plain r he (hrun h hc) (plain_loadR h)
        | some p =>
          rw [htag] at h
          unfold retag at h
          split at h
          · rename_i c' y hl
            simp only [OR.val.injEq] at h
            obtain ⟨rfl, rfl⟩ := h
            obtain ⟨v, hv, hr⟩ := hrun hl hc
            have hmem := tagAt_mem htag
            have htb := r.tbs k off p.1 p.2 hmem
            have hvv : v = gh.gv p.1 := by
              rw [show a.eval x = .pointer (some ⟨gh.bl k, off, none⟩) from hx, hla] at hv
              have hcell0 : w.cell? ⟨gh.bl k, off, none⟩ = some (gh.gv p.1) := by rw [cell?_eq]; exact htb.2
              unfold loadVar at hv
              simp [run_isAgg hagg, hcell0] at hv
              exact hv.symm
            refine .of_yl r he ⟨v, hv, ⟨hr.1, fun q hq => ?_⟩⟩ (by simp) (fun y' g e hy => ?_)
            · injection hq with hq; subst hq; exact hvv
            · simp only [TV.v.injEq, Option.some.injEq] at hy
              obtain ⟨-, rfl⟩ := hy
              exact .inr ⟨k, off, hmem⟩
          · rename_i hl
            exact .of_plain r he (hrun h hc) (plain_loadR h)
      · cases h
    · cases h
  · rename_i b off g hk
    rw [hk] at hx
    split at h
    · rename_i cells hcells
      obtain ⟨-, -, cs, e, hcs, hrep⟩ := r.shs b cells hcells
      have hv : a.eval x = .pointer (some ⟨b, off, none⟩) := rep_gp hx.1
      refine .of_plain r he ?_ (plain_loadR h)
      rw [hv, hla]
      refine loadR_sound b off (cs.toList.drop off) (hrep.drop off) (fun j u hu => ?_) h hc
      rw [List.getElem?_drop] at hu
      unfold cellAt
      rw [hcs]
      simpa using hu
    · cases h
  · cases h

theorem ok_index (r : RR cx gh σ a w) {t : Nat} {x i : Operand} (ho : o.op = .index t x i) {c : Prop} {z : TV} (h : indexR cx.P t (Pv.ev cx.gl σ x).av (Pv.ev cx.gl σ i).av = .val c z) (hc : c) : ValOk cx σ a w o z := by
  have he : execOp a.eval o = (do pure (.value (← Instr.index t (a.eval x) (a.eval i)))) := by simp [execOp, ho]
  unfold indexR at h
  split at h
  · rename_i l k n hx hi
    split at h
    · rename_i hu
      simp only [if_true, OR.val.injEq] at h
      obtain ⟨h1, rfl⟩ := h
      subst h1
      have hxr := rep_str (r.av x _ hx)
      have hir := rep_int (r.av i _ hi)
      have hlt : n.toNat < l.length := by omega
      have hget : (⟨l.toArray⟩ : ByteArray)[n.toNat]? = some l[n.toNat] := by
        have h1 : n.toNat < (⟨l.toArray⟩ : ByteArray).size := by rw [ba_size]; exact hlt
        rw [getElem?_pos (⟨l.toArray⟩ : ByteArray) n.toNat h1]
        simp [ByteArray.getElem_eq_getElem_data]
      refine .of_plain r he ⟨.int .u8 (l[n.toNat].toNat : Int), ?_, ?_⟩ trivial
      · rw [hxr, hir]
        simp [Instr.index, asIntOf, run_underlying hu, hc.1, hget]
      · rw [show (l[n.toNat]?).getD 0 = l[n.toNat] by simp [hlt]]
        exact trep_int _ _ _ _
    · simp at h
  · cases h

theorem part_sound {P : Program} {gh : Gh} {w : World} {t : TypeId} {cs : Array Value} {l : List AV} {off : Nat} {c : Prop} {z : TV} (hr : RepL gh.lim w.heap cs.toList l) (h : loadR P t (l.drop off) = .val c z) (hc : c) : Yl P gh w (part t cs off) z := by
  have hr' := hr.drop off
  unfold loadR at h
  unfold part
  split at h
  · rename_i hagg
    simp only [OR.val.injEq] at h
    obtain ⟨h1, rfl⟩ := h
    subst h1
    refine ⟨.agg (cs.extract off (off + esz P t)), ?_, trep_v (Rep.agg_iff.2 ⟨_, rfl, ?_⟩)⟩
    · simp [run_isAgg hagg, run_sizeOf (info_of_underlying (aggO_some hagg))]
    · have := hr'.take (esz P t)
      rw [Array.toList_extract, List.extract_eq_take_drop, Nat.add_sub_cancel_left]
      exact this
  · rename_i hagg
    split at h
    · rename_i x hx0
      simp only [OR.val.injEq] at h
      obtain ⟨h1, rfl⟩ := h
      obtain ⟨v, hv0, hrv⟩ := hr'.get hx0
      rw [List.getElem?_drop, Nat.add_zero, Array.getElem?_toList] at hv0
      refine ⟨v, ?_, trep_v hrv⟩
      simp [run_isAgg hagg, hv0]
    · cases h
  · cases h
theorem ok_field (r : RR cx gh σ a w) {t f : Nat} {x : Operand} (ho : o.op = .field t x f) {c : Prop} {z : TV} (h : fieldR cx.P t f (Pv.ev cx.gl σ x).av = .val c z) (hc : c) : ValOk cx σ a w o z := by
  have he : execOp a.eval o = (do pure (.value (← Instr.field t (a.eval x) f))) := by simp [execOp, ho]
  unfold fieldR at h
  split at h
  · rename_i l hx
    split at h
    · rename_i off hf
      obtain ⟨fs, fl, hu, hfl, hne, rfl, hft⟩ := foff_spec hf
      rw [hft] at h
      obtain ⟨cs, hv, hrl⟩ := Rep.agg_iff.1 (r.av x _ hx)
      obtain ⟨v, h1, h2⟩ := part_sound (P := cx.P) (w := w) hrl h hc
      refine .of_plain r he ⟨v, ?_, h2⟩ (plain_loadR h)
      rw [hv]
      simp [Instr.field, run_underlying hu, hfl, asAgg, h1]
    · cases h
  · cases h

theorem ok_slice (r : RR cx gh σ a w) {t : Nat} {x : Operand} {lo hi : Option Operand} (ho : o.op = .slice t x lo hi none) {c : Prop} {z : TV}
    (h : sliceR cx.P t (Pv.ev cx.gl σ x).av (lo.map fun y => (Pv.ev cx.gl σ y).av) (hi.map fun y => (Pv.ev cx.gl σ y).av) = .val c z) (hc : c) : ValOk cx σ a w o z := by
  refine .of_plain r (s := Instr.sliceAt t (a.eval x) (lo.map a.eval) (hi.map a.eval) none) (by simp [execOp, ho]) ?_ (plain_sliceR h)
  refine sliceR_sound (r.av x) (fun q hq => ?_) (fun hq => ?_) (fun q hq => ?_) (fun hq => ?_) h hc
  · cases lo with
    | none => cases hq
    | some y => simp only [Option.map_some, Option.some.injEq] at hq; exact ⟨_, rfl, fun u hu => r.av y u (by rw [hq]; exact hu)⟩
  · cases lo with
    | none => rfl
    | some y => cases hq
  · cases hi with
    | none => cases hq
    | some y => simp only [Option.map_some, Option.some.injEq] at hq; exact ⟨_, rfl, fun u hu => r.av y u (by rw [hq]; exact hu)⟩
  · cases hi with
    | none => rfl
    | some y => cases hq

theorem ok_nilCheck (r : RR cx gh σ a w) {x : Operand} (ho : o.op = .nilCheck x) {c : Prop} {z : TV} (h : nilCheckR (Pv.ev cx.gl σ x) = .val c z) (_ : c) : ValOk cx σ a w o z := by
  have hx := r.ev x
  have key : ∀ p, a.eval x = .pointer (some p) → execOp a.eval o = pure (.value (a.eval x)) := fun p hp => by simp [execOp, ho, hp]
  unfold nilCheckR at h
  split at h
  · rename_i k off hk
    simp only [OR.val.injEq] at h
    obtain ⟨-, rfl⟩ := h
    have := val_copy (o := o) r x (key _ (by rw [hk] at hx; exact hx))
    rwa [hk] at this
  · rename_i l g hk
    simp only [OR.val.injEq] at h
    obtain ⟨-, rfl⟩ := h
    have hx' := hx
    rw [hk] at hx'
    obtain ⟨b, off, vs, hv, -, -⟩ := Rep.ro_iff.1 hx'.1
    have := val_copy (o := o) r x (key _ hv)
    rwa [hk] at this
  · rename_i b off g hk
    simp only [OR.val.injEq] at h
    obtain ⟨-, rfl⟩ := h
    have hx' := hx
    rw [hk] at hx'
    have hv : a.eval x = .pointer (some ⟨b, off, none⟩) := rep_gp hx'.1
    have := val_copy (o := o) r x (key _ hv)
    rwa [hk] at this
  · cases h

theorem ok_convert (r : RR cx gh σ a w) {src dst : Nat} {x : Operand} (ho : o.op = .convert src dst x) {c : Prop} {z : TV} (h : convertR cx.P src dst (Pv.ev cx.gl σ x).av = .val c z) (_ : c) : ValOk cx σ a w o z := by
  have he : execOp a.eval o = (do pure (.value (← convert src dst (a.eval x)))) := by simp [execOp, ho]
  unfold convertR at h
  split at h
  · rename_i k n hx
    split at h
    · rename_i d k' hs hd
      simp only [OR.val.injEq] at h
      obtain ⟨-, rfl⟩ := h
      have hxr := rep_int (r.av x _ hx)
      have hu : cx.P.underlying dst = some (.int k') := by
        unfold ikind at hd
        split at hd
        · rename_i q hq; injection hd with hd; subst hd; exact hq
        · cases hd
      refine .of_plain r he ⟨.int k' (k'.wrap n), ?_, trep_int _ _ _ _⟩ trivial
      rw [hxr]
      simp [convert, run_underlying hs, run_underlying hu, Conv.intToInt]
    · cases h
  · rename_i rows hx
    split at h
    · rename_i hb
      rw [Bool.and_eq_true] at hb
      obtain ⟨e, hs, he8⟩ : ∃ e, cx.P.underlying src = some (.slice e) ∧ cx.P.underlying e = some (.int .u8) := by
        have h1 := hb.1
        unfold bytesT at h1
        split at h1
        · rename_i e hq
          refine ⟨e, hq, ?_⟩
          split at h1 <;> first | assumption | cases h1
        · cases h1
      have hd : cx.P.underlying dst = some .string := by
        have h1 := hb.2
        unfold strT at h1
        split at h1 <;> first | assumption | cases h1
      split at h
      · rename_i l hl
        simp only [OR.val.injEq] at h
        obtain ⟨-, rfl⟩ := h
        have hrows := rowNums_spec hl
        have hxr := r.av x _ hx
        obtain ⟨p, cap, hv, hcap⟩ := hxr.slice_form
        refine .of_plain r he ⟨.string ⟨(l.map fun n => UInt8.ofNat n.toNat).toArray⟩, ?_, trep_str _ _ _⟩ trivial
        rw [hv] at hxr ⊢
        subst hrows
        by_cases hn : l = []
        · subst hn
          cases p with
          | none => exact run_convert_bytes_nil w src e hs he8 _ _ dst hd
          | some a => exact run_convert_bytes_back w src dst e a cap [] hs he8 hd (fun j hj => absurd hj (Nat.not_lt_zero _))
        · obtain ⟨b, off, vs, rfl, hvl, hvr, hvc⟩ := hxr.slice_cells (sz := 1) (fun y hy => by obtain ⟨n, _, rfl⟩ := List.mem_map.1 hy; rfl) (by simpa using hn)
          have hflat : (l.map fun n => [AV.int .u8 n]).flatten = l.map (AV.int .u8) := by
            clear hxr hv hcap hvl hvr hvc hl hx hn
            induction l with
            | nil => rfl
            | cons x l ih => simp [ih]
          rw [hflat] at hvr
          exact run_convert_bytes_arg w src e hs he8 b off _ cap l (by simp) (fun i hi => by
            have hi' : i < l.length := by simpa using hi
            obtain ⟨u, hu, hru⟩ := hvr.get (j := i) (x := .int .u8 l[i]) (by simp [hi'])
            have := (hvc i u hu).2
            rw [rep_int hru] at this
            rw [cell?_eq, this]
            simp [List.getD, hi']) dst hd
      · cases h
    · cases h
  · rename_i s hx
    split at h
    · rename_i hb
      rw [Bool.and_eq_true] at hb
      have hd : cx.P.underlying dst = some .string := by
        have h1 := hb.1
        unfold strT at h1
        split at h1 <;> first | assumption | cases h1
      obtain ⟨u, hs⟩ := Option.isSome_iff_exists.1 hb.2
      simp only [OR.val.injEq] at h
      obtain ⟨-, rfl⟩ := h
      refine .of_plain r he ⟨.string ⟨s.toArray⟩, ?_, trep_str _ _ _⟩ trivial
      rw [rep_str (r.av x _ hx)]
      simp [convert, run_underlying hs, run_underlying hd]
    · cases h
  · cases h

theorem ok_build (r : RR cx gh σ a w) {t : Nat} {parts : Array (Nat × Operand)} (ho : o.op = .build t parts) {c : Prop} {z : TV} (h : buildR cx.P t (Pv.ev cx.gl σ) parts.toList = .val c z) (hc : c) : ValOk cx σ a w o z := by
  have he : execOp a.eval o = (do pure (.value (← Instr.build t (parts.map fun p => (p.1, a.eval p.2))))) := by simp [execOp, ho]
  unfold buildR at h
  split at h
  · rename_i hk
    split at h
    · rename_i z0 hz0
      split at h
      · rename_i q hq
        simp only [OR.val.injEq] at h
        obtain ⟨h1, rfl⟩ := h
        subst h1
        obtain ⟨i, zv, hi, hz, hzs, hzr, hns⟩ := azero_spec hz0 gh w.heap
        have hks := hk
        unfold knownF at hks
        split at hks
        · rename_i fs hu
          obtain ⟨places, hp1, hp2⟩ := places_of hu hk
          obtain ⟨cs', g1, g2, g3⟩ := fill_sound (P := cx.P) (gh := gh) (h := w.heap) (t := t) (ρ := a.eval) (e := Pv.ev cx.gl σ) (fun x => r.ev x) (places.toArray[·]?) hp2 parts.toList z0 q.1 q.2 zv.cells (nilPos cx.P t) hq hc hzr hns
          have hb : cx.P.built t (parts.map fun p => (p.1, a.eval p.2)).toList = some cs' := by
            unfold Program.built
            simp only [hi, hu, hz, hp1]
            simpa using g1
          refine ⟨.agg cs', w, gh, by rw [he]; simp [run_build w t _ cs' hb], r, ⟨Rep.agg_iff.2 ⟨cs', rfl, g2⟩, fun j hj => ?_⟩, by simp, by simp⟩
          exact g3 j hj
        · cases hks
      · cases h
    · cases h
  · cases h

theorem avs_rep (r : RR cx gh σ a w) : ∀ (l : List Operand) (ys : List AV), avs (Pv.ev cx.gl σ) l = some ys → RepL gh.lim w.heap (l.map a.eval) ys
  | [], ys, h => by simp only [avs, Option.some.injEq] at h; subst h; exact RepL.nil _ _
  | x :: l, ys, h => by
    simp only [avs] at h
    split at h
    · rename_i y l' hy hl
      injection h with h; subst h
      exact RepL.cons (r.av x y hy) (avs_rep r l l' hl)
    · cases h

theorem ok_makeFunc (r : RR cx gh σ a w) {fn : Fn} {first caps : Array Operand} (ho : o.op = .makeFunc fn first caps) {c : Prop} {z : TV} (h : makeFuncR fn first (avs (Pv.ev cx.gl σ) caps.toList) = .val c z) (_ : c) : ValOk cx σ a w o z := by
  have he : execOp a.eval o = (do pure (.value (← Instr.makeFunc fn (first.map a.eval) (caps.map a.eval)))) := by simp [execOp, ho]
  unfold makeFuncR at h
  split at h
  · rename_i f l hl
    split at h
    · rename_i hf
      simp only [OR.val.injEq] at h
      obtain ⟨-, rfl⟩ := h
      have hf0 : first = #[] := Array.eq_empty_of_size_eq_zero hf
      subst hf0
      refine .of_plain r he ⟨.func (.func f) #[] (caps.map a.eval), by simp [Instr.makeFunc], trep_v (Rep.func_iff.2 ⟨_, rfl, ?_⟩)⟩ trivial
      simpa using avs_rep r caps.toList l hl
    · cases h
  · cases h

theorem lps_rep (r : RR cx gh σ a w) : ∀ (l : List Operand) (ks : List Nat), lps (Pv.ev cx.gl σ) l = some ks → l.map a.eval = ks.map fun k => Value.pointer (some ⟨gh.bl k, 0, none⟩)
  | [], ks, h => by simp only [lps, Option.some.injEq] at h; subst h; rfl
  | x :: l, ks, h => by
    unfold lps at h
    split at h
    · rename_i k ks' hk hl
      injection h with h; subst h
      have hx := r.ev x
      rw [hk] at hx
      rw [List.map_cons, List.map_cons, lps_rep r l ks' hl]
      congr 1
    · cases h

theorem ok_makeFunc2 (r : RR cx gh σ a w) {fn : Fn} {first caps : Array Operand} (ho : o.op = .makeFunc fn first caps) {c : Prop} {z : TV} (h : orR (makeFuncR fn first (avs (Pv.ev cx.gl σ) caps.toList)) (makeClR fn first (lps (Pv.ev cx.gl σ) caps.toList)) = .val c z) (hc : c) : ValOk cx σ a w o z := by
  have he : execOp a.eval o = (do pure (.value (← Instr.makeFunc fn (first.map a.eval) (caps.map a.eval)))) := by simp [execOp, ho]
  cases hb : makeFuncR fn first (avs (Pv.ev cx.gl σ) caps.toList) with
  | stuck =>
    rw [hb] at h
    simp only [orR] at h
    unfold makeClR at h
    split at h
    · rename_i f l hl
      split at h
      · rename_i hf
        simp only [OR.val.injEq] at h
        obtain ⟨-, rfl⟩ := h
        have hf0 : first = #[] := Array.eq_empty_of_size_eq_zero hf
        subst hf0
        refine .of_plain r he ⟨.func (.func f) #[] (caps.map a.eval), by simp [Instr.makeFunc], ?_⟩ trivial
        have := lps_rep r caps.toList l hl
        simp only [TRep]
        congr 1
        apply Array.ext'
        simpa using this
      · cases h
    · cases h
  | val c' z' =>
    rw [hb] at h
    simp only [orR] at h
    rw [← hb] at h
    exact ok_makeFunc r ho h hc
  | eff c' s => rw [hb] at h; cases h
  | call f l => rw [hb] at h; cases h
  | callB f l ks => rw [hb] at h; cases h
  | yld l x => rw [hb] at h; cases h

theorem ok_makeIface (r : RR cx gh σ a w) {t : Nat} {x : Operand} (ho : o.op = .makeInterface t x) {c : Prop} {z : TV} (h : makeIfaceR cx.P t (Pv.ev cx.gl σ x).av = .val c z) (_ : c) : ValOk cx σ a w o z := by
  have he : execOp a.eval o = (do pure (.value (← Instr.makeInterface t (a.eval x)))) := by simp [execOp, ho]
  unfold makeIfaceR at h
  split at h
  · rename_i y hy
    split at h
    · rename_i hcon
      simp only [OR.val.injEq] at h
      obtain ⟨-, rfl⟩ := h
      exact .of_plain r he ⟨_, run_makeInterface w t _ hcon, trep_v (.iface t _ _ (r.av x y hy))⟩ trivial
    · cases h
  · cases h

theorem ok_extract (r : RR cx gh σ a w) {i : Nat} {x : Operand} (ho : o.op = .extract x i) {c : Prop} {z : TV} (h : extractR i (Pv.ev cx.gl σ x).av = .val c z) (_ : c) : ValOk cx σ a w o z := by
  have he : execOp a.eval o = (do pure (.value (← Instr.extract (a.eval x) i))) := by simp [execOp, ho]
  unfold extractR at h
  split at h
  · rename_i l hl
    split at h
    · rename_i y hy
      simp only [OR.val.injEq] at h
      obtain ⟨-, rfl⟩ := h
      obtain ⟨cs, hv, hr⟩ := Rep.tup_iff.1 (r.av x _ hl)
      obtain ⟨v, hv1, hv2⟩ := hr.get hy
      refine .of_plain r he ⟨v, ?_, trep_v hv2⟩ trivial
      rw [hv]
      have : cs[i]? = some v := by simpa using hv1
      simp [Instr.extract, this]
    · cases h
  · cases h

theorem ok_len (r : RR cx gh σ a w) {x : Operand} {t : TypeId} (ho : o.op = .call { callee := .builtin .len, args := #[x], argTypes := #[t] }) {c : Prop} {z : TV} (h : lenR cx.P t (Pv.ev cx.gl σ x).av = .val c z) (hc : c) : ValOk cx σ a w o z := by
  refine .of_plain r (s := Builtin.len_ #[t] o.type #[a.eval x]) ?_ (lenR_sound (r.av x) h hc rfl) (plain_lenR h)
  simp [execOp, ho, resolve, invoke, builtin]

theorem ok_max (r : RR cx gh σ a w) {x y : Operand} {ts : Array TypeId} (ho : o.op = .call { callee := .builtin .max, args := #[x, y], argTypes := ts }) {c : Prop} {z : TV} (h : mxR true (Pv.ev cx.gl σ x).av (Pv.ev cx.gl σ y).av = .val c z) (hc : c) : ValOk cx σ a w o z := by
  refine .of_plain r (s := Builtin.max_ ts o.type #[a.eval x, a.eval y]) ?_ ((mxR_sound (r.av x) (r.av y)).1 h hc) (plain_mxR h)
  simp [execOp, ho, resolve, invoke, builtin]

theorem ok_min (r : RR cx gh σ a w) {x y : Operand} {ts : Array TypeId} (ho : o.op = .call { callee := .builtin .min, args := #[x, y], argTypes := ts }) {c : Prop} {z : TV} (h : mxR false (Pv.ev cx.gl σ x).av (Pv.ev cx.gl σ y).av = .val c z) (hc : c) : ValOk cx σ a w o z := by
  refine .of_plain r (s := Builtin.min_ ts o.type #[a.eval x, a.eval y]) ?_ ((mxR_sound (r.av x) (r.av y)).2 h hc) (plain_mxR h)
  simp [execOp, ho, resolve, invoke, builtin]

end Go.Pv
