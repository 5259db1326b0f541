import Derived.Test.YtghmdnfdocdgfaaDoorPvH
import Derived.Laws.BytesArg
import Derived.Laws.IdiomStrings
set_option linter.all false
section
/- The operations that hand back a value are right. -/
namespace Go.Pv
open Go

variable {cx : Cx} {gh : Gh} {σ : AS} {a : Act} {w : World} {o : Oper}

theorem RR.av (r : RR cx gh σ a w) (x : Operand) (y : AV) (h : (Pv.ev cx.gl σ x).av = some y) : Rep gh.lim w.heap (a.eval x) y := av_rep (r.ev x) h

theorem rep_gp {lim : Lim} {h : Array Obj} {v : Value} {b off : Nat} (r : Rep lim h v (.gp b off)) : v = .pointer (some ⟨b, off, none⟩) := by cases r; rfl

theorem val_copy (r : RR cx gh σ a w) (x : Operand) (he : execOp a.eval o = pure (.value (a.eval x))) : ValOk cx σ a w o (Pv.ev cx.gl σ x) :=
  ⟨_, w, gh, by rw [he]; rfl, r, r.ev x, fun _ _ h => r.ev_lp x h, fun _ _ _ h => r.ev_uses x h⟩

theorem val_const (r : RR cx gh σ a w) (v : Value) (x : AV) (hx : Rep gh.lim w.heap v x) (he : execOp a.eval o = pure (.value v)) : ValOk cx σ a w o (.v x none) :=
  ⟨_, w, gh, by rw [he]; rfl, r, trep_v hx, by simp, by simp⟩

theorem plain_binR {op : BinOp} {x y : Option AV} {c : Prop} {z : TV} (h : binR op x y = .val c z) : TV.plain z := by
  unfold binR at h
  split at h
  · split at h
    · unfold intOp at h
      split at h <;> first | (simp only [OR.val.injEq] at h; obtain ⟨-, rfl⟩ := h; trivial) | cases h
    · cases h
  · unfold strOp at h
    split at h <;> first | (simp only [OR.val.injEq] at h; obtain ⟨-, rfl⟩ := h; trivial) | cases h
  · cases h

theorem plain_eqR {P : Program} {op : BinOp} {t : Nat} {k : Bool} {x y : Option AV} {c : Prop} {z : TV} (h : eqR P op t k x y = .val c z) : TV.plain z := by
  unfold eqR at h
  split at h
  · split at h <;> first | (simp only [OR.val.injEq] at h; obtain ⟨-, rfl⟩ := h; trivial) | cases h
  · cases h

theorem plain_nilSR {P : Program} {op : BinOp} {t : Nat} {k : Bool} {x : Option AV} {c : Prop} {z : TV} (h : nilSR P op t k x = .val c z) : TV.plain z := by
  unfold nilSR at h
  repeat' (split at h) <;> first | cases h | skip
  all_goals first | trivial | skip
theorem plain_unR {op : UnOp} {x : Option AV} {c : Prop} {z : TV} (h : unR op x = .val c z) : TV.plain z := by
  unfold unR at h
  split at h
  · split at h <;> first | (simp only [OR.val.injEq] at h; obtain ⟨-, rfl⟩ := h; trivial) | cases h
  · split at h <;> first | (simp only [OR.val.injEq] at h; obtain ⟨-, rfl⟩ := h; trivial) | cases h
  · cases h

theorem plain_pickR {x y u : Option AV} {c : Prop} {z : TV} (h : pickR x y u = .val c z) : TV.plain z := by
  unfold pickR at h
  split at h
  · simp only [OR.val.injEq] at h; obtain ⟨-, rfl⟩ := h; trivial
  · cases h

theorem plain_loadR {P : Program} {t : Nat} {l : List AV} {c : Prop} {z : TV} (h : loadR P t l = .val c z) : TV.plain z := by
  unfold loadR at h
  split at h
  · simp only [OR.val.injEq] at h; obtain ⟨-, rfl⟩ := h; trivial
  · split at h
    · simp only [OR.val.injEq] at h; obtain ⟨-, rfl⟩ := h; trivial
    · cases h
  · cases h

theorem plain_sliceR {P : Program} {t : Nat} {x : Option AV} {lo hi : Option (Option AV)} {c : Prop} {z : TV} (h : sliceR P t x lo hi = .val c z) : TV.plain z := by
  unfold sliceR at h
  split at h
  · split at h
    · simp only [if_true] at h
      split at h <;> first | (simp only [OR.val.injEq] at h; obtain ⟨-, rfl⟩ := h; trivial) | cases h
    · simp at h
  · split at h
    · split at h <;> first | (simp only [OR.val.injEq] at h; obtain ⟨-, rfl⟩ := h; trivial) | cases h
    · cases h
  · split at h <;> first | (split at h <;> first | (simp only [OR.val.injEq] at h; obtain ⟨-, rfl⟩ := h; trivial) | cases h) | cases h
  · cases h

theorem plain_lenR {P : Program} {t : Nat} {x : Option AV} {c : Prop} {z : TV} (h : lenR P t x = .val c z) : TV.plain z := by
  unfold lenR at h
  split at h
  · split at h
    · simp only [if_true, OR.val.injEq] at h; obtain ⟨-, rfl⟩ := h; trivial
    · simp at h
  · split at h
    · simp only [OR.val.injEq] at h; obtain ⟨-, rfl⟩ := h; trivial
    · cases h
  · cases h

theorem plain_mxR {b : Bool} {x y : Option AV} {c : Prop} {z : TV} (h : mxR b x y = .val c z) : TV.plain z := by
  unfold mxR at h
  split at h
  · simp only [OR.val.injEq] at h; obtain ⟨-, rfl⟩ := h; trivial
  · cases h

theorem ok_pick (r : RR cx gh σ a w) {x y z : Operand} (ho : o.op = .pick x y z) {c : Prop} {t : TV} (h : pickR (Pv.ev cx.gl σ x).av (Pv.ev cx.gl σ y).av (Pv.ev cx.gl σ z).av = .val c t) (hc : c) : ValOk cx σ a w o t := by
  refine .of_plain r (s := do pure (if ← asBool (a.eval x) then a.eval y else a.eval z)) ?_ (pickR_sound (P := cx.P) (r.av x) (r.av y) (r.av z) h hc) (plain_pickR h)
  simp [execOp, ho]

theorem ok_bin (r : RR cx gh σ a w) {op : BinOp} {t t' : TypeId} {x y : Operand} (ho : o.op = .binOp op t x y t') {c : Prop} {z : TV}
    (h : orR (binR op (Pv.ev cx.gl σ x).av (Pv.ev cx.gl σ y).av) (orR (eqR cx.P op t (isC x || isC y) (Pv.ev cx.gl σ x).av (Pv.ev cx.gl σ y).av) (nilSR cx.P op t (isNilS y) (Pv.ev cx.gl σ x).av)) = .val c z) (hc : c) : ValOk cx σ a w o z := by
  have he : execOp a.eval o = (do pure (.value (← (do eqGuard op t x y (a.eval x) (a.eval y); binOp op t (a.eval x) (a.eval y))))) := by simp [execOp, ho]
  cases hb : binR op (Pv.ev cx.gl σ x).av (Pv.ev cx.gl σ y).av with
  | stuck =>
    rw [hb] at h
    simp only [orR] at h
    cases hq : eqR cx.P op t (isC x || isC y) (Pv.ev cx.gl σ x).av (Pv.ev cx.gl σ y).av with
    | stuck =>
      rw [hq] at h
      simp only [] at h
      have hn : isNilS y = true := by
        cases hn : isNilS y with
        | true => rfl
        | false => rw [hn] at h; unfold nilSR at h; repeat' (split at h) <;> first | cases h | simp at *
      have hy := isNilS_spec hn
      refine .of_plain r he ?_ (plain_nilSR h)
      have := nilSR_sound (xo := x) (r.av x) h hc
      rw [show a.eval y = .slice none 0 0 by rw [hy]; rfl]
      exact this
    | val c' z' => rw [hq] at h; simp only [] at h; rw [← hq] at h; exact .of_plain r he (eqR_sound (r.av x) (r.av y) h hc) (plain_eqR h)
    | eff c' s => rw [hq] at h; cases h
    | call f l => rw [hq] at h; cases h
    | callB f l ks => rw [hq] at h; cases h
    | yld l x => rw [hq] at h; cases h
  | val c' z' =>
    rw [hb] at h
    simp only [orR] at h
    rw [← hb] at h
    exact .of_plain r he (binR_sound (r.av x) (r.av y) h hc) (plain_binR h)
  | eff c' s => rw [hb] at h; cases h
  | call f l => rw [hb] at h; cases h
  | callB f l ks => rw [hb] at h; cases h
  | yld l x => rw [hb] at h; cases h

theorem ok_un (r : RR cx gh σ a w) {op : UnOp} {t : TypeId} {x : Operand} (ho : o.op = .unOp op t x) {c : Prop} {z : TV} (h : unR op (Pv.ev cx.gl σ x).av = .val c z) (hc : c) : ValOk cx σ a w o z :=
  .of_plain r (by simp [execOp, ho]) (unR_sound (r.av x) h hc) (plain_unR h)

theorem ok_fieldAddr (r : RR cx gh σ a w) {t f : Nat} {x : Operand} (ho : o.op = .fieldAddr t x f) {c : Prop} {z : TV} (h : fieldAddrR (foff cx.P t f) (Pv.ev cx.gl σ x) = .val c z) (_ : c) : ValOk cx σ a w o z := by
  have hx := r.ev x
  have he : execOp a.eval o = (do pure (.value (← Instr.fieldAt t (a.eval x) f))) := by simp [execOp, ho]
  unfold fieldAddrR at h
  split at h
  · rename_i k off hk
    split at h
    · rename_i i hi
      simp only [OR.val.injEq] at h
      obtain ⟨-, rfl⟩ := h
      rw [hk] at hx
      refine .of_yl r he ⟨.pointer (some ⟨gh.bl k, off + i, none⟩), ?_, rfl⟩ (fun k' o' e => ?_) (by simp)
      · rw [show a.eval x = .pointer (some ⟨gh.bl k, off, none⟩) from hx]
        exact run_fieldAt hi w
      · injection e with e1 e2; subst e1; exact r.ev_lp x hk
    · cases h
  · rename_i l g hk
    split at h
    · rename_i i hi
      simp only [OR.val.injEq] at h
      obtain ⟨-, rfl⟩ := h
      rw [hk] at hx
      obtain ⟨b, off, vs, hv, -, -⟩ := Rep.ro_iff.1 hx.1
      have hx1 := hx.1
      rw [hv] at hx1
      refine .of_plain r he ⟨.pointer (some ⟨b, off + i, none⟩), ?_, trep_v (hx1.ro_drop i)⟩ trivial
      rw [hv]; exact run_fieldAt hi w
    · cases h
  · rename_i b off g hk
    split at h
    · rename_i i hi
      simp only [OR.val.injEq] at h
      obtain ⟨-, rfl⟩ := h
      rw [hk] at hx
      have hv : a.eval x = .pointer (some ⟨b, off, none⟩) := rep_gp hx.1
      refine .of_plain r he ⟨.pointer (some ⟨b, off + i, none⟩), ?_, trep_v (.gp b (off + i))⟩ trivial
      rw [hv]; exact run_fieldAt hi w
    · cases h
  · cases h

theorem ok_indexAddr (r : RR cx gh σ a w) {t : Nat} {x i : Operand} (ho : o.op = .indexAddr t x i) {c : Prop} {z : TV} (h : indexAddrR cx.P t (Pv.ev cx.gl σ x).av (Pv.ev cx.gl σ i).av = .val c z) (hc : c) : ValOk cx σ a w o z := by
  have he : execOp a.eval o = (do pure (.value (← Instr.indexAt t (a.eval x) (a.eval i)))) := by simp [execOp, ho]
  unfold indexAddrR at h
  split at h
  · rename_i l k n hx hi
    split at h
    · rename_i e hel
      simp only [OR.val.injEq] at h
      obtain ⟨h1, rfl⟩ := h
      subst h1
      obtain ⟨⟨h0, hlt⟩, hlen⟩ := hc
      have hxr := r.av x _ hx
      have hir := rep_int (r.av i _ hi)
      obtain ⟨p, cap, hv, hcap⟩ := hxr.slice_form
      rw [hv] at hxr
      have hrow : l[n.toNat]? = some (row l n.toNat) := by
        have : n.toNat < l.length := by omega
        simp [row, this]
      obtain ⟨b, off, rfl, hro⟩ := hxr.row hrow
      rw [hlen] at hro
      refine .of_plain r he ⟨_, ?_, trep_v hro⟩ trivial
      rw [hv, hir]
      exact run_indexAt hel h0 hlt w
    · cases h
  · cases h

theorem retag_none {r : OR} : retag none r = r := by
  unfold retag
  split <;> rfl

theorem RR.cells_at (r : RR cx gh σ a w) {k : Nat} {cells : List AV} (hk : look k σ.bx = some cells) : ∃ vs : List Value, RepL gh.lim w.heap vs cells ∧ ∀ j u, vs[j]? = some u → cellAt w.heap (gh.bl k) j = some u := by
  obtain ⟨-, -, cs, e, hcs, hrep⟩ := r.boxes k cells hk
  refine ⟨cs.toList, hrep, fun j u hu => ?_⟩
  unfold cellAt
  rw [hcs]
  simpa using hu

theorem tagAt_mem {tb : List (Nat × Nat × Nat × Nat)} {k j : Nat} {p : Nat × Nat} (h : tagAt tb k j = some p) : (k, j, p.1, p.2) ∈ tb := by
  induction tb with
  | nil => cases h
  | cons q tb ih =>
    simp only [tagAt] at h
    split at h
    · rename_i hq
      injection h with h; subst h
      obtain ⟨q1, q2, q3, q4⟩ := q
      obtain ⟨h1, h2⟩ := hq
      simp only at h1 h2
      subst h1; subst h2
      exact List.mem_cons_self ..
    · exact List.mem_cons_of_mem _ (ih h)

theorem ok_load (r : RR cx gh σ a w) {t : Nat} {x : Operand} (ho : o.op = .load t x) {c : Prop} {z : TV} (h : loadOpR cx.P σ t (Pv.ev cx.gl σ x) = .val c z) (hc : c) : ValOk cx σ a w o z := by
  have hx := r.ev x
  have he : execOp a.eval o = (do pure (.value (← Instr.loadAt t (a.eval x)))) := by simp [execOp, ho]
  have hla : ∀ b off, (Instr.loadAt t (.pointer (some ⟨b, off, none⟩))) = loadVar t ⟨b, off, none⟩ := fun b off => rfl
  unfold loadOpR at h
  split at h
  · rename_i l g hk
    rw [hk] at hx
    obtain ⟨b, off, vs, hv, hrl, hcell⟩ := Rep.ro_iff.1 hx.1
    refine .of_plain r he ?_ (plain_loadR h)
    rw [hv, hla]
    exact loadR_sound b off vs hrl (fun j u hu => (hcell j u hu).2) h hc
  · rename_i k off hk
    rw [hk] at hx
    split at h
    · rename_i cells hcells
      obtain ⟨vs, hrl, hcell⟩ := r.cells_at hcells
      have hcell' : ∀ j u, (vs.drop off)[j]? = some u → cellAt w.heap (gh.bl k) (off + j) = some u := fun j u hu => by
        rw [List.getElem?_drop] at hu; exact hcell _ u hu
      have hrun : ∀ {c z}, loadR cx.P t (cells.drop off) = .val c z → c → Yl cx.P gh w (Instr.loadAt t (a.eval x)) z := fun h hc => by
        rw [show a.eval x = .pointer (some ⟨gh.bl k, off, none⟩) from hx, hla]
        exact loadR_sound (gh.bl k) off (vs.drop off) (hrl.drop off) hcell' h hc
      split at h
      · exact .of_plain r he (hrun h hc) (plain_loadR h)
      · rename_i hagg
        cases htag : tagAt σ.tb k off with
        | none => rw [htag, retag_none] at h; exact .of_plain r he (hrun h hc) (plain_loadR h)
        | some p =>
          rw [htag] at h
          unfold retag at h
          split at h
          · rename_i c' y hl
            simp only [OR.val.injEq] at h
            obtain ⟨rfl, rfl⟩ := h
            obtain ⟨v, hv, hr⟩ := hrun hl hc
            have hmem := tagAt_mem htag
            have htb := r.tbs k off p.1 p.2 hmem
            have hvv : v = gh.gv p.1 := by
              rw [show a.eval x = .pointer (some ⟨gh.bl k, off, none⟩) from hx, hla] at hv
              have hcell0 : w.cell? ⟨gh.bl k, off, none⟩ = some (gh.gv p.1) := by rw [cell?_eq]; exact htb.2
              unfold loadVar at hv
              simp [run_isAgg hagg, hcell0] at hv
              exact hv.symm
            refine .of_yl r he ⟨v, hv, ⟨hr.1, fun q hq => ?_⟩⟩ (by simp) (fun y' g e hy => ?_)
            · injection hq with hq; subst hq; exact hvv
            · simp only [TV.v.injEq, Option.some.injEq] at hy
              obtain ⟨-, rfl⟩ := hy
              exact .inr ⟨k, off, hmem⟩
          · rename_i hl
            exact .of_plain r he (hrun h hc) (plain_loadR h)
      · cases h
    · cases h
  · rename_i b off g hk
    rw [hk] at hx
    split at h
    · rename_i cells hcells
      obtain ⟨-, -, cs, e, hcs, hrep⟩ := r.shs b cells hcells
      have hv : a.eval x = .pointer (some ⟨b, off, none⟩) := rep_gp hx.1
      refine .of_plain r he ?_ (plain_loadR h)
      rw [hv, hla]
      refine loadR_sound b off (cs.toList.drop off) (hrep.drop off) (fun j u hu => ?_) h hc
      rw [List.getElem?_drop] at hu
      unfold cellAt
      rw [hcs]
      simpa using hu
    · cases h
  · cases h

theorem ok_index (r : RR cx gh σ a w) {t : Nat} {x i : Operand} (ho : o.op = .index t x i) {c : Prop} {z : TV} (h : indexR cx.P t (Pv.ev cx.gl σ x).av (Pv.ev cx.gl σ i).av = .val c z) (hc : c) : ValOk cx σ a w o z := by
  have he : execOp a.eval o = (do pure (.value (← Instr.index t (a.eval x) (a.eval i)))) := by simp [execOp, ho]
  unfold indexR at h
  split at h
  · rename_i l k n hx hi
    split at h
    · rename_i hu
      simp only [if_true, OR.val.injEq] at h
      obtain ⟨h1, rfl⟩ := h
      subst h1
      have hxr := rep_str (r.av x _ hx)
      have hir := rep_int (r.av i _ hi)
      have hlt : n.toNat < l.length := by omega
      have hget : (⟨l.toArray⟩ : ByteArray)[n.toNat]? = some l[n.toNat] := by
        have h1 : n.toNat < (⟨l.toArray⟩ : ByteArray).size := by rw [ba_size]; exact hlt
        rw [getElem?_pos (⟨l.toArray⟩ : ByteArray) n.toNat h1]
        simp [ByteArray.getElem_eq_getElem_data]
      refine .of_plain r he ⟨.int .u8 (l[n.toNat].toNat : Int), ?_, ?_⟩ trivial
      · rw [hxr, hir]
        simp [Instr.index, asIntOf, run_underlying hu, hc.1, hget]
      · rw [show (l[n.toNat]?).getD 0 = l[n.toNat] by simp [hlt]]
        exact trep_int _ _ _ _
    · simp at h
  · cases h

theorem part_sound {P : Program} {gh : Gh} {w : World} {t : TypeId} {cs : Array Value} {l : List AV} {off : Nat} {c : Prop} {z : TV} (hr : RepL gh.lim w.heap cs.toList l) (h : loadR P t (l.drop off) = .val c z) (hc : c) : Yl P gh w (part t cs off) z := by
  have hr' := hr.drop off
  unfold loadR at h
  unfold part
  split at h
  · rename_i hagg
    simp only [OR.val.injEq] at h
    obtain ⟨h1, rfl⟩ := h
    subst h1
    refine ⟨.agg (cs.extract off (off + esz P t)), ?_, trep_v (Rep.agg_iff.2 ⟨_, rfl, ?_⟩)⟩
    · simp [run_isAgg hagg, run_sizeOf (info_of_underlying (aggO_some hagg))]
    · have := hr'.take (esz P t)
      rw [Array.toList_extract, List.extract_eq_take_drop, Nat.add_sub_cancel_left]
      exact this
  · rename_i hagg
    split at h
    · rename_i x hx0
      simp only [OR.val.injEq] at h
      obtain ⟨h1, rfl⟩ := h
      obtain ⟨v, hv0, hrv⟩ := hr'.get hx0
      rw [List.getElem?_drop, Nat.add_zero, Array.getElem?_toList] at hv0
      refine ⟨v, ?_, trep_v hrv⟩
      simp [run_isAgg hagg, hv0]
    · cases h
  · cases h
theorem ok_field (r : RR cx gh σ a w) {t f : Nat} {x : Operand} (ho : o.op = .field t x f) {c : Prop} {z : TV} (h : fieldR cx.P t f (Pv.ev cx.gl σ x).av = .val c z) (hc : c) : ValOk cx σ a w o z := by
  have he : execOp a.eval o = (do pure (.value (← Instr.field t (a.eval x) f))) := by simp [execOp, ho]
  unfold fieldR at h
  split at h
  · rename_i l hx
    split at h
    · rename_i off hf
      obtain ⟨fs, fl, hu, hfl, hne, rfl, hft⟩ := foff_spec hf
      rw [hft] at h
      obtain ⟨cs, hv, hrl⟩ := Rep.agg_iff.1 (r.av x _ hx)
      obtain ⟨v, h1, h2⟩ := part_sound (P := cx.P) (w := w) hrl h hc
      refine .of_plain r he ⟨v, ?_, h2⟩ (plain_loadR h)
      rw [hv]
      simp [Instr.field, run_underlying hu, hfl, asAgg, h1]
    · cases h
  · cases h

theorem ok_slice (r : RR cx gh σ a w) {t : Nat} {x : Operand} {lo hi : Option Operand} (ho : o.op = .slice t x lo hi none) {c : Prop} {z : TV}
    (h : sliceR cx.P t (Pv.ev cx.gl σ x).av (lo.map fun y => (Pv.ev cx.gl σ y).av) (hi.map fun y => (Pv.ev cx.gl σ y).av) = .val c z) (hc : c) : ValOk cx σ a w o z := by
  refine .of_plain r (s := Instr.sliceAt t (a.eval x) (lo.map a.eval) (hi.map a.eval) none) (by simp [execOp, ho]) ?_ (plain_sliceR h)
  refine sliceR_sound (r.av x) (fun q hq => ?_) (fun hq => ?_) (fun q hq => ?_) (fun hq => ?_) h hc
  · cases lo with
    | none => cases hq
    | some y => simp only [Option.map_some, Option.some.injEq] at hq; exact ⟨_, rfl, fun u hu => r.av y u (by rw [hq]; exact hu)⟩
  · cases lo with
    | none => rfl
    | some y => cases hq
  · cases hi with
    | none => cases hq
    | some y => simp only [Option.map_some, Option.some.injEq] at hq; exact ⟨_, rfl, fun u hu => r.av y u (by rw [hq]; exact hu)⟩
  · cases hi with
    | none => rfl
    | some y => cases hq

theorem ok_nilCheck (r : RR cx gh σ a w) {x : Operand} (ho : o.op = .nilCheck x) {c : Prop} {z : TV} (h : nilCheckR (Pv.ev cx.gl σ x) = .val c z) (_ : c) : ValOk cx σ a w o z := by
  have hx := r.ev x
  have key : ∀ p, a.eval x = .pointer (some p) → execOp a.eval o = pure (.value (a.eval x)) := fun p hp => by simp [execOp, ho, hp]
  unfold nilCheckR at h
  split at h
  · rename_i k off hk
    simp only [OR.val.injEq] at h
    obtain ⟨-, rfl⟩ := h
    have := val_copy (o := o) r x (key _ (by rw [hk] at hx; exact hx))
    rwa [hk] at this
  · rename_i l g hk
    simp only [OR.val.injEq] at h
    obtain ⟨-, rfl⟩ := h
    have hx' := hx
    rw [hk] at hx'
    obtain ⟨b, off, vs, hv, -, -⟩ := Rep.ro_iff.1 hx'.1
    have := val_copy (o := o) r x (key _ hv)
    rwa [hk] at this
  · rename_i b off g hk
    simp only [OR.val.injEq] at h
    obtain ⟨-, rfl⟩ := h
    have hx' := hx
    rw [hk] at hx'
    have hv : a.eval x = .pointer (some ⟨b, off, none⟩) := rep_gp hx'.1
    have := val_copy (o := o) r x (key _ hv)
    rwa [hk] at this
  · cases h

theorem ok_convert (r : RR cx gh σ a w) {src dst : Nat} {x : Operand} (ho : o.op = .convert src dst x) {c : Prop} {z : TV} (h : convertR cx.P src dst (Pv.ev cx.gl σ x).av = .val c z) (_ : c) : ValOk cx σ a w o z := by
  have he : execOp a.eval o = (do pure (.value (← convert src dst (a.eval x)))) := by simp [execOp, ho]
  unfold convertR at h
  split at h
  · rename_i k n hx
    split at h
    · rename_i d k' hs hd
      simp only [OR.val.injEq] at h
      obtain ⟨-, rfl⟩ := h
      have hxr := rep_int (r.av x _ hx)
      have hu : cx.P.underlying dst = some (.int k') := by
        unfold ikind at hd
        split at hd
        · rename_i q hq; injection hd with hd; subst hd; exact hq
        · cases hd
      refine .of_plain r he ⟨.int k' (k'.wrap n), ?_, trep_int _ _ _ _⟩ trivial
      rw [hxr]
      simp [convert, run_underlying hs, run_underlying hu, Conv.intToInt]
    · cases h
  · rename_i rows hx
    split at h
    · rename_i hb
      rw [Bool.and_eq_true] at hb
      obtain ⟨e, hs, he8⟩ : ∃ e, cx.P.underlying src = some (.slice e) ∧ cx.P.underlying e = some (.int .u8) := by
        have h1 := hb.1
        unfold bytesT at h1
        split at h1
        · rename_i e hq
          refine ⟨e, hq, ?_⟩
          split at h1 <;> first | assumption | cases h1
        · cases h1
      have hd : cx.P.underlying dst = some .string := by
        have h1 := hb.2
        unfold strT at h1
        split at h1 <;> first | assumption | cases h1
      split at h
      · rename_i l hl
        simp only [OR.val.injEq] at h
        obtain ⟨-, rfl⟩ := h
        have hrows := rowNums_spec hl
        have hxr := r.av x _ hx
        obtain ⟨p, cap, hv, hcap⟩ := hxr.slice_form
        refine .of_plain r he ⟨.string ⟨(l.map fun n => UInt8.ofNat n.toNat).toArray⟩, ?_, trep_str _ _ _⟩ trivial
        rw [hv] at hxr ⊢
        subst hrows
        by_cases hn : l = []
        · subst hn
          cases p with
          | none => exact run_convert_bytes_nil w src e hs he8 _ _ dst hd
          | some a => exact run_convert_bytes_back w src dst e a cap [] hs he8 hd (fun j hj => absurd hj (Nat.not_lt_zero _))
        · obtain ⟨b, off, vs, rfl, hvl, hvr, hvc⟩ := hxr.slice_cells (sz := 1) (fun y hy => by obtain ⟨n, _, rfl⟩ := List.mem_map.1 hy; rfl) (by simpa using hn)
          have hflat : (l.map fun n => [AV.int .u8 n]).flatten = l.map (AV.int .u8) := by
            clear hxr hv hcap hvl hvr hvc hl hx hn
            induction l with
            | nil => rfl
            | cons x l ih => simp [ih]
          rw [hflat] at hvr
          exact run_convert_bytes_arg w src e hs he8 b off _ cap l (by simp) (fun i hi => by
            have hi' : i < l.length := by simpa using hi
            obtain ⟨u, hu, hru⟩ := hvr.get (j := i) (x := .int .u8 l[i]) (by simp [hi'])
            have := (hvc i u hu).2
            rw [rep_int hru] at this
            rw [cell?_eq, this]
            simp [List.getD, hi']) dst hd
      · cases h
    · cases h
  · rename_i s hx
    split at h
    · rename_i hb
      rw [Bool.and_eq_true] at hb
      have hd : cx.P.underlying dst = some .string := by
        have h1 := hb.1
        unfold strT at h1
        split at h1 <;> first | assumption | cases h1
      obtain ⟨u, hs⟩ := Option.isSome_iff_exists.1 hb.2
      simp only [OR.val.injEq] at h
      obtain ⟨-, rfl⟩ := h
      refine .of_plain r he ⟨.string ⟨s.toArray⟩, ?_, trep_str _ _ _⟩ trivial
      rw [rep_str (r.av x _ hx)]
      simp [convert, run_underlying hs, run_underlying hd]
    · cases h
  · cases h

theorem ok_build (r : RR cx gh σ a w) {t : Nat} {parts : Array (Nat × Operand)} (ho : o.op = .build t parts) {c : Prop} {z : TV} (h : buildR cx.P t (Pv.ev cx.gl σ) parts.toList = .val c z) (hc : c) : ValOk cx σ a w o z := by
  have he : execOp a.eval o = (do pure (.value (← Instr.build t (parts.map fun p => (p.1, a.eval p.2))))) := by simp [execOp, ho]
  unfold buildR at h
  split at h
  · rename_i hk
    split at h
    · rename_i z0 hz0
      split at h
      · rename_i q hq
        simp only [OR.val.injEq] at h
        obtain ⟨h1, rfl⟩ := h
        subst h1
        obtain ⟨i, zv, hi, hz, hzs, hzr, hns⟩ := azero_spec hz0 gh w.heap
        have hks := hk
        unfold knownF at hks
        split at hks
        · rename_i fs hu
          obtain ⟨places, hp1, hp2⟩ := places_of hu hk
          obtain ⟨cs', g1, g2, g3⟩ := fill_sound (P := cx.P) (gh := gh) (h := w.heap) (t := t) (ρ := a.eval) (e := Pv.ev cx.gl σ) (fun x => r.ev x) (places.toArray[·]?) hp2 parts.toList z0 q.1 q.2 zv.cells (nilPos cx.P t) hq hc hzr hns
          have hb : cx.P.built t (parts.map fun p => (p.1, a.eval p.2)).toList = some cs' := by
            unfold Program.built
            simp only [hi, hu, hz, hp1]
            simpa using g1
          refine ⟨.agg cs', w, gh, by rw [he]; simp [run_build w t _ cs' hb], r, ⟨Rep.agg_iff.2 ⟨cs', rfl, g2⟩, fun j hj => ?_⟩, by simp, by simp⟩
          exact g3 j hj
        · cases hks
      · cases h
    · cases h
  · cases h

theorem avs_rep (r : RR cx gh σ a w) : ∀ (l : List Operand) (ys : List AV), avs (Pv.ev cx.gl σ) l = some ys → RepL gh.lim w.heap (l.map a.eval) ys
  | [], ys, h => by simp only [avs, Option.some.injEq] at h; subst h; exact RepL.nil _ _
  | x :: l, ys, h => by
    simp only [avs] at h
    split at h
    · rename_i y l' hy hl
      injection h with h; subst h
      exact RepL.cons (r.av x y hy) (avs_rep r l l' hl)
    · cases h

theorem avsN_rep (r : RR cx gh σ a w) : ∀ (l : List Operand) (ys : List AV), avs (evN cx.gl σ) l = some ys → RepL gh.lim w.heap (l.map a.eval) ys
  | [], ys, h => by simp only [avs, Option.some.injEq] at h; subst h; exact RepL.nil _ _
  | x :: l, ys, h => by
    simp only [avs] at h
    split at h
    · rename_i y l' hy hl
      injection h with h; subst h
      refine RepL.cons ?_ (avsN_rep r l l' hl)
      unfold evN at hy
      split at hy
      · split at hy
        · simp only [TV.av, Option.some.injEq] at hy; subst hy; exact .nilS
        · exact r.av _ y hy
      · exact r.av _ y hy
    · cases h

theorem ok_makeFunc (r : RR cx gh σ a w) {fn : Fn} {first caps : Array Operand} (ho : o.op = .makeFunc fn first caps) {c : Prop} {z : TV} (h : makeFuncR fn (avs (Pv.ev cx.gl σ) first.toList) (avs (Pv.ev cx.gl σ) caps.toList) = .val c z) (_ : c) : ValOk cx σ a w o z := by
  have he : execOp a.eval o = (do pure (.value (← Instr.makeFunc fn (first.map a.eval) (caps.map a.eval)))) := by simp [execOp, ho]
  unfold makeFuncR at h
  split at h
  · rename_i f l hf hl
    simp only [OR.val.injEq] at h
    obtain ⟨-, rfl⟩ := h
    have hf1 := (avs_rep r first.toList [] hf).1
    have hf0 : first = #[] := Array.eq_empty_of_size_eq_zero (by simpa using hf1)
    subst hf0
    refine .of_plain r he ⟨.func (.func f) #[] (caps.map a.eval), by simp [Instr.makeFunc], trep_v (Rep.func_iff.2 ⟨_, rfl, ?_⟩)⟩ trivial
    simpa using avs_rep r caps.toList l hl
  · rename_i f x l hf hl
    simp only [OR.val.injEq] at h
    obtain ⟨-, rfl⟩ := h
    have hl1 := (avs_rep r caps.toList [] hl).1
    have hl0 : caps = #[] := Array.eq_empty_of_size_eq_zero (by simpa using hl1)
    subst hl0
    refine .of_plain r he ⟨.func (.func f) (first.map a.eval) #[], by simp [Instr.makeFunc], trep_v (Rep.bfn_iff.2 ⟨_, rfl, ?_⟩)⟩ trivial
    simpa using avs_rep r first.toList (x :: l) hf
  · cases h

theorem lps_rep (r : RR cx gh σ a w) : ∀ (l : List Operand) (ks : List Nat), lps (Pv.ev cx.gl σ) l = some ks → l.map a.eval = ks.map fun k => Value.pointer (some ⟨gh.bl k, 0, none⟩)
  | [], ks, h => by simp only [lps, Option.some.injEq] at h; subst h; rfl
  | x :: l, ks, h => by
    unfold lps at h
    split at h
    · rename_i k ks' hk hl
      injection h with h; subst h
      have hx := r.ev x
      rw [hk] at hx
      rw [List.map_cons, List.map_cons, lps_rep r l ks' hl]
      congr 1
    · cases h

theorem ok_makeFunc2 (r : RR cx gh σ a w) {fn : Fn} {first caps : Array Operand} (ho : o.op = .makeFunc fn first caps) {c : Prop} {z : TV} (h : orR (makeFuncR fn (avs (Pv.ev cx.gl σ) first.toList) (avs (Pv.ev cx.gl σ) caps.toList)) (makeClR fn first (lps (Pv.ev cx.gl σ) caps.toList)) = .val c z) (hc : c) : ValOk cx σ a w o z := by
  have he : execOp a.eval o = (do pure (.value (← Instr.makeFunc fn (first.map a.eval) (caps.map a.eval)))) := by simp [execOp, ho]
  cases hb : makeFuncR fn (avs (Pv.ev cx.gl σ) first.toList) (avs (Pv.ev cx.gl σ) caps.toList) with
  | stuck =>
    rw [hb] at h
    simp only [orR] at h
    unfold makeClR at h
    split at h
    · rename_i f l hl
      split at h
      · rename_i hf
        simp only [OR.val.injEq] at h
        obtain ⟨-, rfl⟩ := h
        have hf0 : first = #[] := Array.eq_empty_of_size_eq_zero hf
        subst hf0
        refine .of_plain r he ⟨.func (.func f) #[] (caps.map a.eval), by simp [Instr.makeFunc], ?_⟩ trivial
        have := lps_rep r caps.toList l hl
        simp only [TRep]
        congr 1
        apply Array.ext'
        simpa using this
      · cases h
    · cases h
  | val c' z' =>
    rw [hb] at h
    simp only [orR] at h
    rw [← hb] at h
    exact ok_makeFunc r ho h hc
  | eff c' s => rw [hb] at h; cases h
  | call f l => rw [hb] at h; cases h
  | callB f l ks => rw [hb] at h; cases h
  | yld l x => rw [hb] at h; cases h

theorem ok_makeIface (r : RR cx gh σ a w) {t : Nat} {x : Operand} (ho : o.op = .makeInterface t x) {c : Prop} {z : TV} (h : makeIfaceR cx.P t (Pv.ev cx.gl σ x).av = .val c z) (_ : c) : ValOk cx σ a w o z := by
  have he : execOp a.eval o = (do pure (.value (← Instr.makeInterface t (a.eval x)))) := by simp [execOp, ho]
  unfold makeIfaceR at h
  split at h
  · rename_i y hy
    split at h
    · rename_i hcon
      simp only [OR.val.injEq] at h
      obtain ⟨-, rfl⟩ := h
      exact .of_plain r he ⟨_, run_makeInterface w t _ hcon, trep_v (.iface t _ _ (r.av x y hy))⟩ trivial
    · cases h
  · cases h

theorem ok_extract (r : RR cx gh σ a w) {i : Nat} {x : Operand} (ho : o.op = .extract x i) {c : Prop} {z : TV} (h : extractR i (Pv.ev cx.gl σ x).av = .val c z) (_ : c) : ValOk cx σ a w o z := by
  have he : execOp a.eval o = (do pure (.value (← Instr.extract (a.eval x) i))) := by simp [execOp, ho]
  unfold extractR at h
  split at h
  · rename_i l hl
    split at h
    · rename_i y hy
      simp only [OR.val.injEq] at h
      obtain ⟨-, rfl⟩ := h
      obtain ⟨cs, hv, hr⟩ := Rep.tup_iff.1 (r.av x _ hl)
      obtain ⟨v, hv1, hv2⟩ := hr.get hy
      refine .of_plain r he ⟨v, ?_, trep_v hv2⟩ trivial
      rw [hv]
      have : cs[i]? = some v := by simpa using hv1
      simp [Instr.extract, this]
    · cases h
  · cases h

theorem ok_len (r : RR cx gh σ a w) {x : Operand} {t : TypeId} (ho : o.op = .call { callee := .builtin .len, args := #[x], argTypes := #[t] }) {c : Prop} {z : TV} (h : lenR cx.P t (Pv.ev cx.gl σ x).av = .val c z) (hc : c) : ValOk cx σ a w o z := by
  refine .of_plain r (s := Builtin.len_ #[t] o.type #[a.eval x]) ?_ (lenR_sound (r.av x) h hc rfl) (plain_lenR h)
  simp [execOp, ho, resolve, invoke, builtin]

theorem ok_max (r : RR cx gh σ a w) {x y : Operand} {ts : Array TypeId} (ho : o.op = .call { callee := .builtin .max, args := #[x, y], argTypes := ts }) {c : Prop} {z : TV} (h : mxR true (Pv.ev cx.gl σ x).av (Pv.ev cx.gl σ y).av = .val c z) (hc : c) : ValOk cx σ a w o z := by
  refine .of_plain r (s := Builtin.max_ ts o.type #[a.eval x, a.eval y]) ?_ ((mxR_sound (r.av x) (r.av y)).1 h hc) (plain_mxR h)
  simp [execOp, ho, resolve, invoke, builtin]

theorem ok_min (r : RR cx gh σ a w) {x y : Operand} {ts : Array TypeId} (ho : o.op = .call { callee := .builtin .min, args := #[x, y], argTypes := ts }) {c : Prop} {z : TV} (h : mxR false (Pv.ev cx.gl σ x).av (Pv.ev cx.gl σ y).av = .val c z) (hc : c) : ValOk cx σ a w o z := by
  refine .of_plain r (s := Builtin.min_ ts o.type #[a.eval x, a.eval y]) ?_ ((mxR_sound (r.av x) (r.av y)).2 h hc) (plain_mxR h)
  simp [execOp, ho, resolve, invoke, builtin]

end Go.Pv
end

section
/- The operations that write are right. -/
namespace Go.Pv
open Go

variable {cx : Cx} {gh : Gh} {σ : AS} {a : Act} {w : World} {o : Oper}

theorem RR.openB {a : Act} {w : World} (k : Nat) (hint : List (Nat × Nat)) : ∀ (ns : List Nat) (σ : AS) (gh : Gh), RR cx gh σ a w → (look k σ.bx).isSome = true →
    (∀ j ∈ ns, cellAt w.heap (gh.bl k) j = some (.slice none 0 0)) → ∃ gh', RR cx gh' (σ.openB k hint ns) a w
  | [], σ, gh, r, _, _ => ⟨gh, r⟩
  | j :: ns, σ, gh, r, hk, hc => by
    simp only [AS.openB]
    split
    · rename_i e he
      split
      · exact RR.openB k hint ns σ gh r hk (fun i hi => hc i (List.mem_cons_of_mem _ hi))
      · rename_i hu
        have hu' : σ.usesB (gid k j) = false := by simpa using hu
        have r1 := r.regroup (gid k j) (AS.not_uses hu') (.slice none 0 0)
        have hcj := hc j (List.mem_cons_self ..)
        have r2 := r1.tagCell k j (gid k j) e hk (by dsimp only; rw [upd_same]; exact hcj) (by dsimp only; rw [upd_same]; exact OwnOk.nil _ _)
        exact RR.openB k hint ns _ _ r2 hk (fun i hi => hc i (List.mem_cons_of_mem _ hi))
    · exact RR.openB k hint ns σ gh r hk (fun i hi => hc i (List.mem_cons_of_mem _ hi))

theorem eff_assign (r : RR cx gh σ a w) {x : Operand} (ho : o.op = .assign x) (hd : ∀ t, o.dst = some t → t < σ.n ∧ t ∉ σ.fx) :
    (∀ c z, assignR cx.gl σ o.dst x = .val c z → ValOk cx σ a w o z) ∧ (∀ c σ', assignR cx.gl σ o.dst x = .eff c σ' → EffOk cx a w o σ') := by
  have he : execOp a.eval o = pure (.value (a.eval x)) := by simp [execOp, ho]
  cases x with
  | const v =>
    have he' : execOp a.eval o = pure (.value v) := he
    have hv : ∀ {v'}, isNil v' = true → v' = .slice none 0 0 := fun {v'} h => by
      unfold isNil at h
      split at h
      · rfl
      · cases h
    simp only [assignR]
    split
    · rename_i hn
      have hv := hv hn
      subst hv
      have hval : ValOk cx σ a w o (.v (.slice []) none) := val_const r _ _ (.slice0 _ _) he'
      split
      · rename_i d hdd
        split
        · rename_i el hl
          split
          · exact ⟨fun c z h => (by simp only [OR.val.injEq] at h; obtain ⟨-, rfl⟩ := h; exact hval), fun c σ' h => (by cases h)⟩
          · rename_i hu
            refine ⟨fun c z h => (by cases h), fun c σ' h => ?_⟩
            simp only [OR.eff.injEq] at h
            obtain ⟨-, rfl⟩ := h
            have hu' : σ.usesB d = false := by simpa using hu
            have r1 := r.regroup d (AS.not_uses hu') (.slice none 0 0)
            refine .inl ⟨.slice none 0 0, w, by rw [he']; rfl, { gh with gv := upd gh.gv d (.slice none 0 0) }, ?_⟩
            have r2 := r1.putTag (some d) (fun t ht => hd t (by rw [hdd]; exact ht)) d el (x := .slice []) (by dsimp only; rw [upd_same]; exact .slice0 _ _) (by dsimp only; rw [upd_same]; exact OwnOk.nil _ _) (fun e' h => absurd h (AS.not_uses hu' e'))
            rw [hdd]
            dsimp only at r2
            rw [upd_same] at r2
            exact r2
        · exact ⟨fun c z h => (by simp only [OR.val.injEq] at h; obtain ⟨-, rfl⟩ := h; exact hval), fun c σ' h => (by cases h)⟩
      · exact ⟨fun c z h => (by simp only [OR.val.injEq] at h; obtain ⟨-, rfl⟩ := h; exact hval), fun c σ' h => (by cases h)⟩
    · refine ⟨fun c z h => ?_, fun c σ' h => (by cases h)⟩
      simp only [OR.val.injEq] at h
      obtain ⟨-, rfl⟩ := h
      exact val_copy r (.const v) he
  | tmp t =>
    refine ⟨fun c z h => ?_, fun c σ' h => (by cases h)⟩
    simp only [assignR, OR.val.injEq] at h
    obtain ⟨-, rfl⟩ := h
    exact val_copy r _ he
  | global g =>
    refine ⟨fun c z h => ?_, fun c σ' h => (by cases h)⟩
    simp only [assignR, OR.val.injEq] at h
    obtain ⟨-, rfl⟩ := h
    exact val_copy r _ he
  | func g =>
    refine ⟨fun c z h => ?_, fun c σ' h => (by cases h)⟩
    simp only [assignR, OR.val.injEq] at h
    obtain ⟨-, rfl⟩ := h
    exact val_copy r _ he

theorem new_box (r : RR cx gh σ a w) {k : Nat} (hd : k < σ.n ∧ k ∉ σ.fx) (hk : look k σ.bx = none) (hcl : noClP k σ.tm) {cells : List AV} {cs : Array Value} (e : TypeId) (hc : RepL gh.lim w.heap cs.toList cells) (ns : List Nat)
    (hns : ∀ j ∈ ns, cs[j]? = some (.slice none 0 0)) :
    R cx (AS.openB ({ σ with bx := (k, cells) :: σ.bx }.put (some k) (.lp k 0)) k σ.hint ns) (a.put (some k) (.pointer (some ⟨w.heap.size, 0, none⟩))) (w.alloc (.cells cs e)) := by
  have r1 := r.newbox k hk hcl cells cs e hc
  have r2 := r1.put (some k) (fun t ht => by injection ht with ht; subst ht; exact hd) (v := .pointer (some ⟨w.heap.size, 0, none⟩)) (x := .lp k 0) rfl (by simp [TRep]) (fun k' off h => by injection h with h1 h2; subst h1; simp [look]) (by simp)
  refine RR.openB k σ.hint ns _ _ r2 (by simp [AS.put, look]) (fun j hj => ?_)
  have h1 := hns j hj
  dsimp only
  rw [upd_same]
  unfold cellAt
  rw [show (w.alloc (.cells cs e)).heap[w.heap.size]? = some (.cells cs e (0, 0)) from heap_alloc_new w _]
  exact h1

theorem eff_box (r : RR cx gh σ a w) {t : Nat} {x : Operand} (ho : o.op = .box t x) (hd : ∀ t, o.dst = some t → t < σ.n ∧ t ∉ σ.fx) {c : Prop} {σ' : AS} (h : boxR σ o.dst (Pv.ev cx.gl σ x) = .eff c σ') (hcc : c) : EffOk cx a w o σ' := by
  have hrun : (execOp a.eval o).run cx.P w = .ok (.value (.pointer (some ⟨w.heap.size, 0, none⟩))) (w.alloc (.cells (a.eval x).cells t)) := by simp [execOp, ho, Instr.box, newVar, newRow]
  have hx := r.ev x
  unfold boxR at h
  split at h
  · rename_i l ns hx'
    rw [hx'] at hx
    split at h
    · rename_i k hk
      split at h
      · rename_i hl
        simp only [OR.eff.injEq] at h
        obtain ⟨hce, rfl⟩ := h
        subst hce
        refine .inl ⟨_, _, hrun, ?_⟩
        rw [hk]
        exact new_box r (hd k hk) hl hcc.1 t (flatRep hx.1) ns hx.2
      · cases h
    · cases h
  · rename_i y g hx'
    rw [hx'] at hx
    split at h
    · rename_i k hk
      split at h
      · rename_i hl
        simp only [OR.eff.injEq] at h
        obtain ⟨hce, rfl⟩ := h
        subst hce
        refine .inl ⟨_, _, hrun, ?_⟩
        rw [hk]
        exact new_box r (hd k hk) hl hcc.1 t (flatRep hx.1) [] (by simp)
      · cases h
    · cases h
  · cases h

theorem eff_alloc (r : RR cx gh σ a w) {t : Nat} (ho : o.op = .alloc t) (hd : ∀ t, o.dst = some t → t < σ.n ∧ t ∉ σ.fx) {c : Prop} {σ' : AS} (h : allocR cx.P σ o.dst t = .eff c σ') (hcc : c) : EffOk cx a w o σ' := by
  unfold allocR at h
  split at h
  · rename_i z k hz hk
    split at h
    · rename_i hl
      simp only [OR.eff.injEq] at h
      obtain ⟨hce, rfl⟩ := h
      subst hce
      obtain ⟨i, zv, hi, hzv, hzs, hzr, hns⟩ := azero_spec hz gh w.heap
      have hrun : (execOp a.eval o).run cx.P w = .ok (.value (.pointer (some ⟨w.heap.size, 0, none⟩))) (w.alloc (.cells zv.cells t)) := by
        simp [execOp, ho, Instr.alloc, zeroValue, typeInfo, hi, hzv, newVar, newRow]
      refine .inl ⟨_, _, hrun, ?_⟩
      rw [hk]
      exact new_box r (hd k hk) hl hcc t hzr _ hns
    · cases h
  · cases h

theorem RR.put_undef (r : RR cx gh σ a w) (d : Option Nat) (hd : d = none) (v : Value) : RR cx gh σ (a.put d v) w := by subst hd; exact r

theorem run_storeVar {P : Program} {w : World} {t b off : Nat} {v : Value} {cur : Array Value} {e : TypeId} (hcur : w.heap[b]? = some (.cells cur e (0, 0))) (hsz : v.cells.size = esz P t) (hi : (P.info? t).isSome = true)
    (hfit : off + v.cells.toList.length ≤ cur.size) (h1 : ∀ u ∈ v.cells.toList, u.oneCell' = true) :
    (storeVar t ⟨b, off, none⟩ v).run P w = .ok () (w.setRow b (cur.toList.take off ++ v.cells.toList ++ cur.toList.drop (off + v.cells.toList.length)).toArray) := by
  have hst := run_storeCells_at P b off e v.cells.toList 0 cur w hcur (by simpa using hfit) h1
  unfold storeVar
  simp only [Sem.run_bind, run_sizeOf hi, Result.andThen_ok, hsz, ne_eq, not_true, if_false]
  simpa using hst

theorem ones_of {lim : Lim} {h : Array Obj} {vs : List Value} {xs : List AV} (r : RepL lim h vs xs) (h1 : xs.all AV.one = true) : ∀ u ∈ vs, u.oneCell' = true := by
  intro u hu
  obtain ⟨j, hj⟩ := List.getElem?_of_mem hu
  have hlt : j < xs.length := by rw [← r.1]; exact (List.getElem?_eq_some_iff.1 hj).1
  have := r.2 j xs[j] (by simp [hlt])
  rw [List.getD_eq_getElem?_getD, hj] at this
  exact this.oneCell (List.all_eq_true.1 h1 _ (List.getElem_mem hlt))

theorem eff_store (r : RR cx gh σ a w) (hgy : cx.gl.y = none) {t : Nat} {x y : Operand} (ho : o.op = .store t x y) (hd : o.dst = none) (hi : (cx.P.info? t).isSome = true) {c : Prop} {σ' : AS} (h : storeR cx.P σ t (Pv.ev cx.gl σ x) (Pv.ev cx.gl σ y) = .eff c σ') (hc : c) : EffOk cx a w o σ' := by
  have hx := r.ev x
  have hy := r.ev y
  have he : ∀ ad, a.eval x = .pointer (some ad) → execOp a.eval o = (do storeVar t ad (a.eval y); pure .skip) := fun ad hp => by simp [execOp, ho, hp, Instr.storeAt, Instr.sureAddr]
  unfold storeR at h
  split at h
  · cases h
  · rename_i yv hyv
    have hyr := av_rep hy hyv
    have hfl := flat_len hyr
    split at h
    · rename_i k off hk
      rw [hk] at hx
      split at h
      · rename_i cells hcells
        simp only [OR.eff.injEq] at h
        obtain ⟨h1, rfl⟩ := h
        subst h1
        obtain ⟨hlen, hfit, hone⟩ := hc
        have htg : ∀ p, tagOf (Pv.ev cx.gl σ y) = some p → (a.eval y).cells.toList = [gh.gv p.1] ∧ σ.uses p.1 p.2 := by
          intro p hp
          cases hq : Pv.ev cx.gl σ y with
          | v z g =>
            rw [hq] at hp hy
            simp only [tagOf] at hp
            subst hp
            have hv := hy.2 p rfl
            have hu := r.ev_uses y hq
            refine ⟨?_, hu⟩
            obtain ⟨⟨m, xs, hown, -⟩, -⟩ := r.own p.1 p.2 hu
            rw [hv]
            rcases hown.2 with ⟨h0, -⟩ | ⟨g', cap, cur', h0, -⟩ <;> rw [h0] <;> rfl
          | un => rw [hq] at hp; cases hp
          | bld l ns => rw [hq] at hp; cases hp
          | lp k' o' => rw [hq] at hp; cases hp
          | it k9 => rw [hq] at hp; cases hp
          | cl f ks => rw [hq] at hp; cases hp
        obtain ⟨cur, e, hcur, hfit2, r2⟩ := r.store hgy k off hcells (a.eval y).cells.toList (flat yv) (flatRep hyr) hfit (tagOf (Pv.ev cx.gl σ y)) htg
        have hrun := run_storeVar (P := cx.P) (t := t) (v := a.eval y) hcur (by rw [hfl]; exact hlen) hi hfit2 (ones_of (flatRep hyr) hone)
        refine .inr ⟨_, by rw [he ⟨gh.bl k, off, none⟩ hx]; simp only [Sem.run_bind, hrun, Result.andThen_ok, Sem.run_pure]; rfl, ?_⟩
        rw [hlen] at r2
        obtain ⟨gh', r3⟩ := RR.openB k σ.hint ((nsOf (Pv.ev cx.gl σ y)).map (off + ·)) _ _ r2 (by simp [look]) (fun j hj => by
          obtain ⟨j', hj', rfl⟩ := List.mem_map.1 hj
          cases hq : Pv.ev cx.gl σ y with
          | bld l ns =>
            rw [hq] at hj' hy
            have hcell := hy.2 j' hj'
            have hjl : j' < (a.eval y).cells.size := (Array.getElem?_eq_some_iff.1 hcell).1
            unfold cellAt
            rw [setRow_heap w _ cur _ e _ hcur]
            have htl : (cur.toList.take off).length = off := by simp at hfit2 ⊢; omega
            show ((cur.toList.take off ++ (a.eval y).cells.toList ++ cur.toList.drop (off + (a.eval y).cells.toList.length)).toArray)[off + j']? = _
            rw [List.getElem?_toArray, List.append_assoc, List.getElem?_append_right (by omega), htl, List.getElem?_append_left (by simp; omega)]
            simpa using hcell
          | un => rw [hq] at hj'; cases hj'
          | v z g => rw [hq] at hj'; cases hj'
          | lp k' o' => rw [hq] at hj'; cases hj'
          | it k9 => rw [hq] at hj'; cases hj'
          | cl f ks => rw [hq] at hj'; cases hj')
        exact ⟨gh', r3.put_undef o.dst hd _⟩
      · cases h
    · rename_i b off g hk
      rw [hk] at hx
      split at h
      · rename_i cells hcells
        simp only [OR.eff.injEq] at h
        obtain ⟨h1, rfl⟩ := h
        subst h1
        obtain ⟨hlen, hfit, hone⟩ := hc
        obtain ⟨cur, e, hcur, hfit2, r2⟩ := r.storeSh hgy b off hcells (a.eval y).cells.toList (flat yv) (flatRep hyr) hfit
        have hrun := run_storeVar (P := cx.P) (t := t) (v := a.eval y) hcur (by rw [hfl]; exact hlen) hi hfit2 (ones_of (flatRep hyr) hone)
        refine .inr ⟨_, by rw [he ⟨b, off, none⟩ (rep_gp hx.1)]; simp only [Sem.run_bind, hrun, Result.andThen_ok, Sem.run_pure], gh, r2.put_undef o.dst hd _⟩
      · cases h
    · cases h

theorem rowsOf_spec (r : RR cx gh σ a w) : ∀ (parts : List (Nat × Operand)) (i : Nat) (l : List (List AV)), rowsOf (Pv.ev cx.gl σ) i parts = some l →
    l.length = parts.length ∧ RepL gh.lim w.heap (parts.flatMap fun p => (a.eval p.2).cells.toList) l.flatten ∧ ∀ sz, Rows sz l → ∀ (n : Nat) (p : Nat × Operand), parts[n]? = some p → p.1 = i + n ∧ (a.eval p.2).cells.size = sz
  | [], i, l, h => by
    simp only [rowsOf, Option.some.injEq] at h
    subst h
    exact ⟨rfl, RepL.nil _ _, fun _ _ n p hp => by simp at hp⟩
  | (j, x) :: parts, i, l, h => by
    simp only [rowsOf] at h
    split at h
    · rename_i hij
      subst hij
      split at h
      · rename_i y l' hy hl
        injection h with h
        subst h
        obtain ⟨h1, h2, h3⟩ := rowsOf_spec r parts (i + 1) l' hl
        have hyr := r.av x y hy
        refine ⟨by simp [h1], ?_, ?_⟩
        · rw [List.flatMap_cons, List.flatten_cons]
          exact (flatRep hyr).append h2
        · intro sz hs n p hp
          cases n with
          | zero =>
            simp only [List.getElem?_cons_zero, Option.some.injEq] at hp
            subst hp
            exact ⟨rfl, by rw [flat_len hyr]; exact (hs _ (by simp)).1⟩
          | succ n =>
            obtain ⟨g1, g2⟩ := h3 sz (fun q hq => hs q (by simp [hq])) n p (by simpa using hp)
            exact ⟨by omega, g2⟩
      · cases h
    · cases h

theorem fill_rows (ρ : Operand → Value) (sz : Nat) : ∀ (parts : List (Nat × Operand)) (i : Nat) (cells : Array Value), (∀ (n : Nat) (p : Nat × Operand), parts[n]? = some p → p.1 = i + n ∧ (ρ p.2).cells.size = sz) →
    cells.size = (i + parts.length) * sz →
    Instr.fill (fun q => some (q * sz, sz)) cells (parts.map fun p => (p.1, ρ p.2)) = some (cells.toList.take (i * sz) ++ parts.flatMap fun p => (ρ p.2).cells.toList).toArray
  | [], i, cells, _, hc => by
    simp only [List.map_nil, Instr.fill, List.flatMap_nil, List.append_nil]
    rw [List.take_of_length_le (by simp only [Array.length_toList, hc, List.length_nil, Nat.add_zero]; exact Nat.le_refl _)]
  | (j, x) :: parts, i, cells, h, hc => by
    obtain ⟨h1, h2⟩ := h 0 (j, x) rfl
    simp only [Nat.add_zero] at h1
    simp only at h2
    obtain rfl : i = j := h1.symm
    simp only [List.length_cons] at hc
    have hfit : i * sz + (ρ x).cells.size ≤ cells.size := by rw [h2, hc, show i + (parts.length + 1) = i + 1 + parts.length by omega, Nat.add_mul, Nat.add_mul]; omega
    simp only [List.map_cons, Instr.fill]
    rw [if_neg (by rw [h2] at hfit ⊢; simp; omega), fill_part cells (ρ x).cells (i * sz) hfit]
    have hlen : (cells.toList.take (i * sz) ++ (ρ x).cells.toList ++ cells.toList.drop (i * sz + (ρ x).cells.size)).toArray.size = (i + 1 + parts.length) * sz := by
      simp only [List.size_toArray, List.length_append, List.length_take, List.length_drop, Array.length_toList]
      rw [hc, show i + (parts.length + 1) = i + 1 + parts.length by omega] at *
      omega
    rw [fill_rows ρ sz parts (i + 1) _ (fun n p hp => by
      obtain ⟨g1, g2⟩ := h (n + 1) p (by simpa using hp)
      exact ⟨by omega, g2⟩) hlen]
    congr 1
    apply Array.ext'
    simp only [List.flatMap_cons]
    have e1 : (i + 1) * sz = (cells.toList.take (i * sz) ++ (ρ x).cells.toList).length := by
      simp only [List.length_append, List.length_take, Array.length_toList]
      rw [Nat.add_mul, Nat.one_mul, h2]
      omega
    rw [e1, List.take_left]
    simp

theorem eff_buildSlice (r : RR cx gh σ a w) {t len : Nat} {parts : Array (Nat × Operand)} (ho : o.op = .buildSlice t len parts) (hd : ∀ t, o.dst = some t → t < σ.n ∧ t ∉ σ.fx) :
    (∀ c z, buildSliceR cx.P σ o.dst t len (rowsOf (Pv.ev cx.gl σ) 0 parts.toList) = .val c z → c → ValOk cx σ a w o z) ∧
    (∀ c σ', buildSliceR cx.P σ o.dst t len (rowsOf (Pv.ev cx.gl σ) 0 parts.toList) = .eff c σ' → c → EffOk cx a w o σ') := by
  generalize hrows : rowsOf (Pv.ev cx.gl σ) 0 parts.toList = rows
  unfold buildSliceR
  cases he : elemT cx.P t with
  | none => exact ⟨fun c z h => (by cases h), fun c σ' h => (by cases h)⟩
  | some e =>
    cases rows with
    | none => exact ⟨fun c z h => (by cases h), fun c σ' h => (by cases h)⟩
    | some l =>
      simp only []
      split
      · rename_i hcond
        obtain ⟨hbig, hlen, haz, hsz0⟩ := hcond
        obtain ⟨hu, hie⟩ := elemT_spec he
        obtain ⟨z0, hz0⟩ := Option.isSome_iff_exists.1 haz
        obtain ⟨i, zv, hi, hz, hzs, -, -⟩ := azero_spec hz0 gh w.heap
        have hes : esz cx.P e = i.size := by simp [esz, hi]
        obtain ⟨hl1, hl2, hl3⟩ := rowsOf_spec r parts.toList 0 l hrows
        -- the run
        have hrun : Rows (esz cx.P e) l → ∃ cells : Array Value, (execOp a.eval o).run cx.P w = .ok (.value (.slice (some ⟨w.heap.size, 0, none⟩) len len)) (w.alloc (.cells cells e)) ∧ RepL gh.lim w.heap cells.toList l.flatten ∧ cells.size = len * esz cx.P e := by
          intro hr
          have h3 := hl3 _ hr
          refine ⟨(parts.toList.flatMap fun p => (a.eval p.2).cells.toList).toArray, ?_, by simpa using hl2, ?_⟩
          · have hf := fill_rows a.eval (esz cx.P e) parts.toList 0 ((Array.range (len * esz cx.P e)).map (zv.cells[· % zv.cells.size]!)) h3 (by simp; rw [← hlen, hl1]; simp)
            simp only [Nat.zero_mul, List.take_zero, List.nil_append] at hf
            have hparts : (parts.map fun p => (p.1, a.eval p.2)).toList = parts.toList.map fun p => (p.1, a.eval p.2) := by simp
            have hb2 : ¬ (16777216 < len * esz cx.P e) := by omega
            unfold execOp
            simp only [ho]
            unfold Instr.buildSlice
            by_cases h0 : len * esz cx.P e = 0
            · have hl0 : len = 0 := by
                rcases Nat.mul_eq_zero.1 h0 with h | h
                · exact h
                · exact absurd h hsz0
              have hp0 : parts.toList = [] := List.eq_nil_of_length_eq_zero (by rw [← hl1, hlen, hl0])
              have hp1 : parts = #[] := by rw [← Array.toArray_toList (xs := parts), hp0]
              subst hp1
              simp [run_underlying hu, run_sizeOf hie, hl0, Instr.fill, newRow, Array.range_zero']
            · simp only [Sem.run_bind, run_underlying hu, Result.andThen_ok, run_sizeOf hie, gt_iff_lt, show (2 : Nat) ^ 24 = 16777216 from rfl, hb2, if_false, h0, Sem.run_pure, zeroValue, typeInfo, run_program, hi, hz]
              rw [show (Array.map (fun x => match x with | (i, x) => (i, a.eval x)) parts).toList = parts.toList.map fun p => (p.1, a.eval p.2) by simp]
              rw [hf]
              simp [newRow]
          · have hflen : ∀ (m : List (List AV)), Rows (esz cx.P e) m → m.flatten.length = m.length * esz cx.P e := by
              intro m
              induction m with
              | nil => intro _; simp
              | cons x m ih => intro hm; rw [List.flatten_cons, List.length_append, ih (fun y hy => hm y (by simp [hy])), (hm x (by simp)).1, List.length_cons, Nat.add_mul]; omega
            have h4 := hl2.1
            rw [hflen l hr, hlen] at h4
            simpa using h4
        have hrep : ∀ (cells : Array Value) (lim' : Lim), (∀ b, b < w.heap.size → lim' b = gh.lim b) → (∀ j, j < len * esz cx.P e → lim'.ok w.heap.size j) → Rows (esz cx.P e) l → RepL gh.lim w.heap cells.toList l.flatten → cells.size = len * esz cx.P e →
            Rep lim' (w.alloc (.cells cells e)).heap (.slice (some ⟨w.heap.size, 0, none⟩) len len) (.slice l) := by
          intro cells lim' hl hok hr hrl hcs
          have := Rep.slice_mk (lim := lim') (h := (w.alloc (.cells cells e)).heap) (b := w.heap.size) (off := 0) (cap := len) (sz := esz cx.P e) (l := l) (vs := cells.toList) (by omega) (fun x hx => (hr x hx).1)
            (hrl.mono (Keep.of_same hl (fun b hb => heap_alloc_old w _ hb))) (fun j u hu => by
              have hj : j < len * esz cx.P e := by rw [← hcs]; simpa using (List.getElem?_eq_some_iff.1 hu).1
              refine ⟨by rw [Nat.zero_add]; exact hok j hj, ?_⟩
              unfold cellAt
              rw [show (w.alloc (.cells cells e)).heap[w.heap.size]? = some (.cells cells e (0, 0)) from heap_alloc_new w _]
              simpa using hu)
          rwa [hlen] at this
        have hval : Rows (esz cx.P e) l → ValOk cx σ a w o (.v (.slice l) none) := by
          intro hr
          obtain ⟨cells, h1, h2, h3⟩ := hrun hr
          refine ⟨_, _, _, h1, r.newrow _, trep_v (hrep cells _ (fun b hb => limUp_lt hb) (fun j _ n hn => ?_) hr h2 h3), by simp, by simp⟩
          have hn : limUp gh.lim w.heap.size w.heap.size = .upto n := hn
          rw [limUp_ge (Nat.le_refl _)] at hn; cases hn
        split
        · rename_i k hk
          split
          · rename_i el hl
            split
            · rename_i hu'
              obtain ⟨hu', rfl⟩ := hu'
              refine ⟨fun c z h => (by cases h), fun c σ' h hc => ?_⟩
              simp only [OR.eff.injEq] at h
              obtain ⟨h1, rfl⟩ := h
              subst h1
              obtain ⟨cells, h1, h2, h3⟩ := hrun hc
              let lim' : Lim := upd gh.lim w.heap.size (.upto (len * esz cx.P el))
              have hl' : ∀ b, b < w.heap.size → lim' b = gh.lim b := fun b hb => upd_ne _ _ (by omega)
              have r1 := r.grow (w' := w.alloc (.cells cells el)) lim' (Frm.alloc w _) hl'
              have r2 := r1.regroup k (AS.not_uses hu') (.slice (some ⟨w.heap.size, 0, none⟩) len len)
              have hlm : len ≤ maxLen := by
                have : len ≤ len * esz cx.P el := Nat.le_mul_of_pos_right _ (by omega)
                simp only [maxLen]; omega
              have r3 := r2.putTag (some k) (fun t ht => hd t (by rw [hk]; exact ht)) k el (x := .slice l) (by
                  dsimp only; rw [upd_same]
                  exact hrep cells lim' hl' (fun j hj n hn => by simp only [lim', upd_same, LV.upto.injEq] at hn; omega) hc h2 h3) (by
                  dsimp only; rw [upd_same]
                  refine ⟨⟨len, cells.toList, World.ownsRow_lit w cells len r.base hlm h3, fun b hb => ?_⟩, fun b hb => ⟨fun k' hk' => ?_, ?_⟩, fun g' e' hg' hne b hb => ?_⟩
                  · simp only [Value.ownBlock, Option.some.injEq] at hb; subst hb; simp [lim']
                  · simp only [Value.ownBlock, Option.some.injEq] at hb; subst hb
                    have := r.lt_box hk'
                    dsimp only; omega
                  · simp only [Value.ownBlock, Option.some.injEq] at hb; subst hb
                    cases hs : look w.heap.size σ.sh with
                    | none => rfl
                    | some q => have := r.lt_sh (b := w.heap.size) (by simp [hs]); omega
                  · simp only [Value.ownBlock, Option.some.injEq] at hb; subst hb
                    dsimp only
                    rw [upd_ne gh.gv _ hne]
                    intro he'
                    have := (r.lt_own hg' he').1
                    omega) (fun e' h => absurd h (AS.not_uses hu' e'))
              dsimp only at r3
              rw [upd_same] at r3
              rw [← hk] at r3
              exact .inl ⟨_, _, h1, _, by rw [← hk]; exact r3⟩
            · refine ⟨fun c z h hc => ?_, fun c σ' h => (by cases h)⟩
              simp only [OR.val.injEq] at h
              obtain ⟨h1, rfl⟩ := h
              subst h1
              exact hval hc
          · split
            · refine ⟨fun c z h hc => ?_, fun c σ' h => (by cases h)⟩
              simp only [OR.val.injEq] at h
              obtain ⟨h1, rfl⟩ := h
              subst h1
              obtain ⟨cells, h1, h2, h3⟩ := hrun hc
              refine ⟨_, _, _, h1, r.newrow _, trep_v ?_, by simp, by simp⟩
              have hr' := hrep cells _ (fun b hb => limUp_lt hb) (fun j _ n hn => by
                have hn : limUp gh.lim w.heap.size w.heap.size = .upto n := hn
                rw [limUp_ge (Nat.le_refl _)] at hn; cases hn) hc h2 h3
              rw [← hlen] at hr' ⊢
              exact .slX _ _ hr'
            · refine ⟨fun c z h hc => ?_, fun c σ' h => (by cases h)⟩
              simp only [OR.val.injEq] at h
              obtain ⟨h1, rfl⟩ := h
              subst h1
              exact hval hc
        · exact ⟨fun c z h => (by cases h), fun c σ' h => (by cases h)⟩
      · exact ⟨fun c z h => (by cases h), fun c σ' h => (by cases h)⟩

theorem ownsRow_congr {w : World} {base : Nat} {e size : Nat} {v : Value} {n m : Nat} {xs ys : List Value} (h : w.ownsRow base e size v n xs) (h' : w.ownsRow base e size v m ys) : n = m := by
  rcases h.2 with ⟨rfl, rfl⟩ | ⟨g, cap, cur, rfl, _, _, _⟩
  · rcases h'.2 with ⟨_, rfl⟩ | ⟨g, cap, cur, h, _⟩
    · rfl
    · cases h
  · rcases h'.2 with ⟨h, _⟩ | ⟨g, cap, cur, h, _⟩
    · cases h
    · injection h

theorem eff_append (r : RR cx gh σ a w) (hgy : cx.gl.y = none) {t : Nat} {s x : Operand} (ho : o.op = .call { callee := .builtin .append, args := #[s, x], argTypes := #[t, t] }) (hd : ∀ t, o.dst = some t → t < σ.n ∧ t ∉ σ.fx) {c : Prop} {σ' : AS}
    (h : appendR cx.P σ o.dst t (Pv.ev cx.gl σ s) (Pv.ev cx.gl σ x).av = .eff c σ') (hc : c) : EffOk cx a w o σ' := by
  unfold appendR at h
  split at h
  · rename_i l g el ys e hs hx he
    split at h
    · rename_i hcond
      obtain ⟨rfl, hok⟩ := hcond
      simp only [OR.eff.injEq] at h
      obtain ⟨h1, rfl⟩ := h
      subst h1
      obtain ⟨⟨hrowsl, hrows⟩, hbytes⟩ := hc
      obtain ⟨hu, hie⟩ := elemT_spec he
      obtain ⟨i, hi⟩ := Option.isSome_iff_exists.1 hie
      have hes : esz cx.P el = i.size := by simp [esz, hi]
      have heb : ebytes cx.P el = i.bytes := by simp [ebytes, hi]
      unfold appOk at hok
      rw [hi] at hok
      simp only at hok
      cases hz : i.zero with
      | none => rw [hz] at hok; cases hok
      | some z =>
        rw [hz] at hok
        simp only [Bool.and_eq_true, beq_iff_eq, bne_iff_ne, ne_eq] at hok
        have huse := r.ev_uses s hs
        have hsv := r.ev s
        rw [hs] at hsv
        have hv : a.eval s = gh.gv g := hsv.2 _ rfl
        obtain ⟨⟨m, xs, hown, hlim⟩, hap⟩ := r.own g el huse
        have hxr := r.av x _ hx
        obtain ⟨p, cap, hxv, hcap⟩ := hxr.slice_form
        rw [hxv] at hxr
        obtain ⟨q, qcap, hsform, -⟩ := hsv.1.slice_form
        -- the group's length is the list's
        have hm : m = l.length := by
          rw [hv] at hsform
          rcases hown.2 with ⟨h0, h1⟩ | ⟨g', cap', cur, h0, _⟩
          · rw [h0] at hsform; injection hsform with _ h2 _; omega
          · rw [h0] at hsform; injection hsform with _ h2 _
        subst hm
        have hbytes' : (l.length + ys.length) * i.bytes ≤ 140737488355328 := by rw [← heb]; exact hbytes
        have hmax : l.length + ys.length ≤ maxLen := by
          have : l.length + ys.length ≤ (l.length + ys.length) * i.bytes := Nat.le_mul_of_pos_right _ (by omega)
          simp only [maxLen]; omega
        -- the new cells
        obtain ⟨news, hnl, hnr, hncell⟩ : ∃ news : List Value, news.length = ys.length * i.size ∧ RepL gh.lim w.heap news ys.flatten ∧ ∀ ad, p = some ad → ∀ j u, news[j]? = some u → w.cell? (ad.add j) = some u := by
          by_cases hy0 : ys = []
          · subst hy0
            exact ⟨[], by simp, RepL.nil _ _, fun ad _ j u hu => by simp at hu⟩
          · obtain ⟨b, off, vs, hp, hvl, hvr, hvc⟩ := hxr.slice_cells (sz := esz cx.P el) (fun y hy => (hrows y hy).1) hy0
            refine ⟨vs, by rw [hvl, hes], hvr, fun ad had j u hu => ?_⟩
            rw [hp] at had
            injection had with had
            subst had
            rw [Addr.add_lit, cell?_eq]
            exact (hvc j u hu).2
        have hp0 : p = none → ys.length = 0 := by
          intro hpn
          cases ys with
          | nil => rfl
          | cons y ys' =>
            obtain ⟨b, off, hp, _⟩ := hxr.row (i := 0) (x := y) rfl
            rw [hpn] at hp; cases hp
        have hone : ∀ u ∈ news, u.oneCell' = true := by
          refine ones_of hnr ?_
          rw [List.all_eq_true]
          intro y hy
          obtain ⟨rr, hrr, hyr⟩ := List.mem_flatten.1 hy
          exact List.all_eq_true.1 (hrows rr hrr).2 y hyr
        rw [hes] at hown
        obtain ⟨v', w', hrun, hown', hf, hb, hk⟩ := run_append_pv (P := cx.P) w cx.B t o.type el i z hu hi hz hok.1 (gh.gv g) l.length xs hown p ys.length cap news hnl hp0 hncell hone hbytes' hmax r.base
        obtain ⟨gh', r2, hg', hkeep, hlim', hap', hal'⟩ := r.append hgy g el huse v' (l.length + ys.length) (xs ++ news) (by rw [hes]; exact hown') hf hb (fun n xs' hn => by
          have hnl' : n = l.length := by rw [hes] at hn; exact ownsRow_congr hn hown
          subst hnl'
          exact ⟨by omega, fun b o' u h1 h2 h3 => hk b o' u h1 (by rw [hes] at h2; exact h2) h3⟩)
        have hex : (execOp a.eval o).run cx.P w = .ok (.value v') w' := by
          simp only [execOp, ho, resolve, invoke, builtin, Sem.run_bind, Sem.run_pure, Result.andThen_ok, List.map_toArray, List.map_cons, List.map_nil, hv, hxv, hrun]
        -- what the new value reads as
        have hrep : Rep gh'.lim w'.heap v' (.slice (l ++ ys)) := by
          have hxs : RepL gh'.lim w'.heap xs l.flatten := by
            by_cases hl0 : l = []
            · subst hl0
              have : xs = [] := List.eq_nil_of_length_eq_zero (by rw [hown.1]; simp)
              subst this
              exact RepL.nil _ _
            · have hsr := hsv.1
              rw [hv] at hsr
              rcases hown.2 with ⟨h0, h1⟩ | ⟨g', cap', cur, h0, _, hg, _, _, hcs, htake⟩
              · exact absurd (List.eq_nil_of_length_eq_zero h1) hl0
              · rw [h0] at hsr
                obtain ⟨b, off, vs, hp, hvl, hvr, hvc⟩ := hsr.slice_cells (sz := esz cx.P el) (fun y hy => (hrowsl y hy).1) hl0
                simp only [Option.some.injEq, Addr.mk.injEq, and_true] at hp
                obtain ⟨rfl, rfl⟩ := hp
                have hvx : vs = xs := by
                  apply List.ext_getElem?
                  intro j
                  rcases Nat.lt_or_ge j vs.length with hj | hj
                  · have h1 := (hvc j vs[j] (by simp [hj])).2
                    unfold cellAt at h1
                    rw [hg, Nat.zero_add] at h1
                    rw [← htake, List.getElem?_take, if_pos (by rw [hvl, hes] at hj; exact hj)]
                    simp only [] at h1
                    rw [List.getElem?_eq_getElem hj]
                    simpa using h1.symm
                  · rw [List.getElem?_eq_none hj, List.getElem?_eq_none (by rw [hown.1, ← hes, ← hvl]; exact hj)]
                subst hvx
                exact hvr.mono hkeep
          have hall : RepL gh'.lim w'.heap (xs ++ news) (l ++ ys).flatten := by
            rw [List.flatten_append]
            exact hxs.append (hnr.mono hkeep)
          rcases hown'.2 with ⟨h0, h1⟩ | ⟨g', cap', cur, h0, _, hg, hnc, _, hcs, htake⟩
          · have hl0 : l = [] := List.eq_nil_of_length_eq_zero (by omega)
            have hy0 : ys = [] := List.eq_nil_of_length_eq_zero (by omega)
            subst hl0; subst hy0
            rw [h0]
            exact .slice0 _ _
          · have hlimg := hlim' g' (by rw [h0]; rfl)
            rw [h0]
            have := Rep.slice_mk (lim := gh'.lim) (h := w'.heap) (b := g') (off := 0) (cap := cap') (sz := esz cx.P el) (l := l ++ ys) (vs := xs ++ news) (by simp; omega) (fun y hy => by
              rcases List.mem_append.1 hy with hy | hy
              · exact (hrowsl y hy).1
              · exact (hrows y hy).1) hall (fun j u hu => by
              have hj : j < (l.length + ys.length) * i.size := by rw [← hown'.1]; exact (List.getElem?_eq_some_iff.1 hu).1
              refine ⟨fun n hn => ?_, ?_⟩
              · rw [hlimg] at hn
                injection hn with hn
                rw [Nat.zero_add, ← hn, hes]; exact hj
              · unfold cellAt
                rw [hg, Nat.zero_add]
                simp only []
                rw [← htake, List.getElem?_take, if_pos hj] at hu
                simpa using hu)
            rwa [List.length_append] at this
        have hu0 : ∀ e', ¬ (σ.purge g).uses g e' := fun e' h => (AS.uses_purge h).2 rfl
        have r3 := r2.putTag o.dst (fun t ht => hd t ht) g el (x := .slice (l ++ ys)) (by rw [hg']; exact hrep) (by
          rw [hg']
          refine ⟨⟨l.length + ys.length, xs ++ news, by rw [hes]; exact hown', hlim'⟩, fun b hb => hap' b hb, fun g2 e2 h2 _ b hb => hal' g2 e2 h2 b hb⟩) (fun e' h => absurd h (hu0 e'))
        rw [hg'] at r3
        exact .inl ⟨v', w', hex, gh', r3⟩
    · cases h
  · rename_i l g ys e hs hx he
    split at h
    · rename_i hok
      obtain ⟨hok, hsz0⟩ := hok
      simp only [OR.eff.injEq] at h
      obtain ⟨h1, rfl⟩ := h
      subst h1
      obtain ⟨⟨hl0, hrowsl, hrows⟩, hbytes⟩ := hc
      obtain ⟨hu, hie⟩ := elemT_spec he
      obtain ⟨i, hi⟩ := Option.isSome_iff_exists.1 hie
      have hes : esz cx.P e = i.size := by simp [esz, hi]
      have heb : ebytes cx.P e = i.bytes := by simp [ebytes, hi]
      unfold appOk at hok
      rw [hi] at hok
      simp only at hok
      cases hz : i.zero with
      | none => rw [hz] at hok; cases hok
      | some z =>
        rw [hz] at hok
        simp only [Bool.and_eq_true, beq_iff_eq, bne_iff_ne, ne_eq] at hok
        have hsv := r.ev s
        rw [hs] at hsv
        obtain ⟨ps, hsf, hsr⟩ := hsv.1.slX_inv
        rw [hsf] at hsr
        obtain ⟨b, off, vs, hp, hvl, hvr, hvc⟩ := hsr.slice_cells (sz := esz cx.P e) (fun y hy => (hrowsl y hy).1) hl0
        subst hp
        have hxr := r.av x _ hx
        obtain ⟨p, cap, hxv, hcap⟩ := hxr.slice_form
        rw [hxv] at hxr
        by_cases hy0 : ys = []
        · subst hy0
          have hrun : (Builtin.append_ #[t, t] o.type #[.slice (some ⟨b, off, none⟩) l.length l.length, .slice p 0 cap]).run cx.P w = .ok (.slice (some ⟨b, off, none⟩) l.length l.length) w := by
            cases p with
            | none => simp [Builtin.append_, run_underlying hu, sizeOf, typeInfo, hi, Builtin.lenOf, Builtin.firstCells, storeCells]
            | some a =>
              have hfc := run_firstCells_some (P := cx.P) w i.size 0 a 0 cap [] (by simp) (by simp)
              simp [Builtin.append_, run_underlying hu, sizeOf, typeInfo, hi, Builtin.lenOf, hfc, storeCells]
          have hex : (execOp a.eval o).run cx.P w = .ok (.value (.slice (some ⟨b, off, none⟩) l.length l.length)) w := by
            simp only [execOp, ho, resolve, invoke, builtin, Sem.run_bind, Sem.run_pure, Result.andThen_ok, List.map_toArray, List.map_cons, List.map_nil, hsf, hxv, hrun, List.length_nil]
          exact .inl ⟨_, w, hex, gh, by rw [List.append_nil]; exact r.put_v o.dst (fun t ht => hd t ht) hsr⟩
        · obtain ⟨b2, off2, us, hp2, hul, hur, huc⟩ := hxr.slice_cells (sz := esz cx.P e) (fun y hy => (hrows y hy).1) hy0
          subst hp2
          have hym : 0 < ys.length := by
            cases ys with
            | nil => exact absurd rfl hy0
            | cons y q => simp
          have hmax : l.length + ys.length ≤ maxLen := by
            have : l.length + ys.length ≤ (l.length + ys.length) * i.bytes := Nat.le_mul_of_pos_right _ (by omega)
            rw [heb] at hbytes
            simp only [maxLen]; omega
          have hsz : 0 < i.size := by rw [← hes]; omega
          · obtain ⟨v', w', hrun, hown, hgr⟩ := run_append_arg_grows (P := cx.P) w t o.type e i z i.size i.bytes hu hi hz rfl rfl hok.1 hsz ⟨b, off, none⟩ l.length l.length vs (by rw [hvl, hes]) (fun j u hj => by rw [Addr.add_lit, cell?_eq]; exact (hvc j u hj).2)
              ⟨b2, off2, none⟩ ys.length cap us (by rw [hul, hes]) (fun j u hj => by rw [Addr.add_lit, cell?_eq]; exact (huc j u hj).2) (by omega) hmax (by rw [← heb]; exact hbytes)
            have hex : (execOp a.eval o).run cx.P w = .ok (.value v') w' := by
              simp only [execOp, ho, resolve, invoke, builtin, Sem.run_bind, Sem.run_pure, Result.andThen_ok, List.map_toArray, List.map_cons, List.map_nil, hsf, hxv, hrun]
            have hfr : Frm w.heap.size (fun _ => False) w w' := ⟨hgr.os, hgr.tape, hgr.output, hgr.size, fun k hk _ => hgr.block k hk (by simp)⟩
            have hlu : ∀ b, b < w.heap.size → limUp gh.lim w.heap.size b = gh.lim b := fun b hb => limUp_lt hb
            have r1 := r.grow (limUp gh.lim w.heap.size) hfr hlu
            have hkeep : Keep gh.lim w.heap (limUp gh.lim w.heap.size) w'.heap := Keep.of_same hlu (fun b hb => hfr.block b hb id)
            have hall : RepL (limUp gh.lim w.heap.size) w'.heap (vs ++ us) (l ++ ys).flatten := by
              rw [List.flatten_append]
              exact (hvr.mono hkeep).append (hur.mono hkeep)
            have hrep : Rep (limUp gh.lim w.heap.size) w'.heap v' (.slice (l ++ ys)) := by
              rcases hown.2 with ⟨h0, h1⟩ | ⟨g', cap', cur, h0, hbg, hg, hnc, _, hcs, htake⟩
              · omega
              · rw [h0]
                have := Rep.slice_mk (lim := limUp gh.lim w.heap.size) (h := w'.heap) (b := g') (off := 0) (cap := cap') (sz := esz cx.P e) (l := l ++ ys) (vs := vs ++ us) (by simp; omega) (fun y hy => by
                  rcases List.mem_append.1 hy with hy | hy
                  · exact (hrowsl y hy).1
                  · exact (hrows y hy).1) hall (fun j u hj => by
                  have hlt : j < (l.length + ys.length) * i.size := by rw [← hown.1]; exact (List.getElem?_eq_some_iff.1 hj).1
                  refine ⟨fun n hn => ?_, ?_⟩
                  · rw [limUp_ge hbg] at hn; cases hn
                  · unfold cellAt
                    rw [hg, Nat.zero_add]
                    simp only []
                    rw [← htake, List.getElem?_take, if_pos hlt] at hj
                    simpa using hj)
                rwa [List.length_append] at this
            exact .inl ⟨v', w', hex, _, r1.put_v o.dst (fun t ht => hd t ht) hrep⟩
    · cases h
  · cases h

end Go.Pv
end
