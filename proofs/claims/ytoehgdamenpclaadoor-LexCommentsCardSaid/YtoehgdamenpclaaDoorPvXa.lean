/- Listed variables that hold a type's handle; lists of tokens as arguments. -/
import Derived.Test.YtoehgdamenpclaaDoorPvX
import Derived.Test.YtoehgdamenpclaaDoorPvLb
namespace Go.Pv
open Go Go.ChangeShapes Go.WideShapes Go.RowKit

theorem laidMetH_split {P : Program} {l : List (String × DataW Unit)} {w : World} (h : laidMetH P l w) : laidMet P (l.filter fun x => x.2.handleName?.isNone) w ∧ handlesMet P (l.filter fun x => x.2.handleName?.isSome) w := by
  unfold laidMetH at h
  split at h
  · rename_i hf
    rw [hf]
    refine ⟨?_, fun x hx => by cases hx⟩
    have e : (l.filter fun x => x.2.handleName?.isNone) = l := by
      rw [List.filter_eq_self]
      intro x hx
      cases hn : x.2.handleName? with
      | none => rfl
      | some s =>
        have : x ∈ l.filter fun x => x.2.handleName?.isSome := List.mem_filter.2 ⟨hx, by rw [hn]; rfl⟩
        rw [hf] at this; cases this
    rw [e]; exact h
  · rename_i hf
    rw [hf]; exact h
/-- A type's handle in a variable. -/
theorem glAt_handle {P : Program} {n : String} {w : World} {g rt ty sz gs : Nat} {nm : List UInt8} {d : DataW Unit} (hg : P.globalNamed n = some g) (hd : d.handleName? = some nm) (hdf : d.funcsIn? = none)
    (hrt : (P.cutTypes.find? (·.1 == "internal/reflectlite.rtype")).map (·.2) = some rt) (hsz : P.types.size = sz) (hone : ((List.range sz).filter fun t => P.rowNamed t nm) = [ty]) (hh : typeHandle P ty = .pointer (some ⟨gs, ty, none⟩))
    {l : List (String × DataW Unit)} (hl : handlesMet P l w) (hm : (n, d) ∈ l) : GlAt allL w.heap g [.iface rt (.agg [.gp gs ty])] := by
  have h := hl _ hm
  simp only [hdf] at h
  obtain ⟨name, u, ty', e1, e2, e3, e4, e5⟩ := h
  obtain rfl := Option.some.inj (hd.symm.trans e1)
  obtain rfl := Option.some.inj (hrt.symm.trans e2)
  have hmem : ty' ∈ (List.range sz).filter fun t => P.rowNamed t nm := List.mem_filter.2 ⟨List.mem_range.2 (by rw [← hsz]; exact e3), e4⟩
  rw [hone] at hmem
  obtain rfl := List.mem_singleton.1 hmem
  rw [hh] at e5
  have hcell : ∀ i, cellAt w.heap g i = (#[Value.iface rt (.agg #[.pointer (some ⟨gs, ty', none⟩)])] : Array Value)[i]? := fun i => by
    have := World.var?_cell hg e5 i
    rwa [cell?_eq] at this
  refine ⟨Rep.ro_iff.2 ⟨g, 0, [.iface rt (.agg #[.pointer (some ⟨gs, ty', none⟩)])], rfl, .cons (.iface _ _ _ (Rep.agg_iff.2 ⟨_, rfl, .cons (.gp _ _) (.nil _ _)⟩)) (.nil _ _), fun j u hu => ⟨allL_ok _ _, ?_⟩⟩, fun _ => ⟨allL_ok _ _, ?_⟩⟩
  · rw [Nat.zero_add, hcell]; simpa using hu
  · rw [hcell]; rfl

theorem tok_of {H : Type} {P : Program} {S I T : Nat} (hS : P.underlying S = some .string) (hI : P.underlying I = some (.int .i64)) (hF : ftypes P T = some [I, S, I]) {n : Nat} {d : DataW H} (h : typed P n T d) (hw : (d.weights P T).all (· ≤ reachBytes) = true) : ∃ t : Tk, avOf d = encK t ∧ True := by
  obtain ⟨m, ps, rfl, rfl, hps, hwe⟩ := typed_struct hF h
  rw [hwe] at hw
  match ps, hps with
  | [a, b, c], ⟨ha, hb', hc, _⟩ =>
    obtain ⟨w1, hw⟩ := weightsEach_cons hw
    obtain ⟨w2, hw⟩ := weightsEach_cons hw
    obtain ⟨s, hs1, hs2⟩ := str_of hS hb' w2
    obtain ⟨p, rfl, -⟩ := typed_int hI ha
    obtain ⟨q, rfl, -⟩ := typed_int hI hc
    exact ⟨(p, s, q), by simp [avOf, avFlat, hs1, encK], trivial⟩
theorem toks_of {H : Type} {P : Program} {S I L T : Nat} (hS : P.underlying S = some .string) (hI : P.underlying I = some (.int .i64)) (hL : P.underlying L = some (.slice T)) (hF : ftypes P T = some [I, S, I]) (hb : 0 < P.bytesOf T) (n : Nat) (d : DataW H) (h : typed P n L d) (hw : (d.weights P L).all (· ≤ reachBytes) = true) : ∃ l : List Tk, avOf d = [.slice (l.map encK)] ∧ l.length ≤ 140737488355328 := by
  obtain ⟨q, rfl, hq⟩ := typed_slice hL h
  rcases hq with rfl | ⟨es, sp, rfl, hq⟩
  · exact ⟨[], rfl, by simp⟩
  · obtain ⟨g1, g2⟩ := weights_slice hL hb hw
    obtain ⟨l, e1, e2, -⟩ := rows_of (enc := encK) (good := fun _ => True) es (fun x hx => tok_of hS hI hF (hq x hx) (g2 x hx))
    exact ⟨l, by simp [avOf, e1], by omega⟩
end Go.Pv
