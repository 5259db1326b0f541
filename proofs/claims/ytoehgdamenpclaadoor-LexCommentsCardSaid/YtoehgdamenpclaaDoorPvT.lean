/- The library's contracts, as contracts of this kind. -/
import Derived.Test.YtoehgdamenpclaaDoorPvQ
import Derived.Test.YtoehgdamenpclaaDoorPvS
import Derived.Lib.Join
import Derived.Below
namespace Go.Pv
open Go Go.RowKit

theorem valid_calls {P : Program} {gl : Gl} {f : FuncId} {args : List AV} {r : AV} (hok : fnOk P f = true)
    (h : ∀ (lim : Lim) (w : World) (cargs : List Value), RepL lim w.heap cargs args → Calls P f cargs.toArray w fun e w' => ∃ v, e = .returned v ∧ Below w.heap.size w w' ∧ ∀ lim', (∀ b, b < w.heap.size → lim' b = lim b) → Rep lim' w'.heap v r) : Valid P gl f args r := by
  refine ⟨hok, fun lim w cargs _ hargs _ => (h lim w cargs hargs).mono fun e w' => ?_⟩
  rintro ⟨v, rfl, hb, hr⟩
  exact ⟨v, r, [], lim, rfl, ⟨hb.os, hb.tape, hb.output, hb.size, fun k hk _ => hb.block k hk⟩, fun _ _ => rfl, hr lim (fun _ _ => rfl), fun b c h => (by cases h), ⟨rfl, rfl⟩, fun _ h => h, fun b h => (by cases h)⟩

theorem valid_callsG {P : Program} {gl : Gl} {f : FuncId} {args : List AV} {r : AV} (hok : fnOk P f = true)
    (h : ∀ (lim : Lim) (w : World) (cargs : List Value), GlOk gl lim w.heap → RepL lim w.heap cargs args → Calls P f cargs.toArray w fun e w' => ∃ v, e = .returned v ∧ Below w.heap.size w w' ∧ ∀ lim', (∀ b, b < w.heap.size → lim' b = lim b) → Rep lim' w'.heap v r) : Valid P gl f args r := by
  refine ⟨hok, fun lim w cargs hgl hargs _ => (h lim w cargs hgl hargs).mono fun e w' => ?_⟩
  rintro ⟨v, rfl, hb, hr⟩
  exact ⟨v, r, [], lim, rfl, ⟨hb.os, hb.tape, hb.output, hb.size, fun k hk _ => hb.block k hk⟩, fun _ _ => rfl, hr lim (fun _ _ => rfl), fun b c h => (by cases h), ⟨rfl, rfl⟩, fun _ h => h, fun b h => (by cases h)⟩

/-- Pointers of which nothing is said. -/
theorem rep_any (lim : Lim) (h : Array Obj) (b off : Nat) : Rep lim h (.pointer (some ⟨b, off, none⟩)) (.ro []) := .ro b off [] (fun _ => undef) (fun j hj => absurd hj (Nat.not_lt_zero _)) (fun j x hx => by simp at hx)

/-- A slice of strings in the memory. -/
theorem strs_cells {lim : Lim} {w : World} {v : Value} {l : List Str} (r : Rep lim w.heap v (.slice (l.map encS))) (hl : l ≠ []) :
    ∃ b off cap, v = .slice (some ⟨b, off, none⟩) l.length cap ∧ l.length ≤ cap ∧ b < w.heap.size ∧ ∀ (j : Nat) (x : ByteArray), (l.map fun s => (⟨s.toArray⟩ : ByteArray))[j]? = some x → w.cell? ⟨b, off + j, none⟩ = some (Value.string x) := by
  obtain ⟨p, cap, hv, hcap⟩ := r.slice_form
  rw [hv] at r
  obtain ⟨b, off, vs, hp, hvl, hvr, hvc⟩ := r.slice_cells (sz := 1) (fun x hx => by obtain ⟨s, _, rfl⟩ := List.mem_map.1 hx; rfl) (by simpa using hl)
  have hflat : (l.map encS).flatten = l.map AV.str := by
    clear r hv hcap hvl hvr hl
    induction l with
    | nil => rfl
    | cons x l ih => simp [encS, ih]
  have hget : ∀ (j : Nat) (s : Str), l[j]? = some s → vs[j]? = some (Value.string ⟨s.toArray⟩) := by
    intro j s hs
    rw [hflat] at hvr
    obtain ⟨u, hu, hru⟩ := hvr.get (j := j) (x := .str s) (by simp [hs])
    rw [hu, rep_str hru]
  refine ⟨b, off, cap, by rw [hv, hp]; simp, by simpa using hcap, ?_, fun j x hx => ?_⟩
  · cases l with
    | nil => exact absurd rfl hl
    | cons s l => exact cellAt_lt (hvc 0 _ (hget 0 s rfl)).2
  · rw [List.getElem?_map] at hx
    cases hs : l[j]? with
    | none => rw [hs] at hx; cases hx
    | some s =>
      rw [hs] at hx
      injection hx with hx
      subst hx
      rw [cell?_eq]
      exact (hvc j _ (hget j s hs)).2

theorem join_valid {P : Program} {gl : Gl} {f : FuncId} (hok : fnOk P f = true)
    (h0 : ∀ (a : Option Addr) (c : Nat) (sep : ByteArray) (w : World), Calls P f #[.slice a 0 c, .string sep] w fun e w' => e = .returned (.string ⟨#[]⟩) ∧ w' = w)
    (h1 : ∀ (bk o c : Nat) (xs : List ByteArray) (sep : ByteArray) (w : World), (∀ (j : Nat) x, xs[j]? = some x → w.cell? ⟨bk, o + j, none⟩ = some (Value.string x)) → bk < w.heap.size → xs.length ≤ 140737488355328 → xs.length ≤ c → (Lib.join (xs.map (·.data.toList)) sep.data.toList).length ≤ 140737488355328 →
      Calls P f #[.slice (some ⟨bk, o, none⟩) xs.length c, .string sep] w fun e w' => e = .returned (.string ⟨(Lib.join (xs.map (·.data.toList)) sep.data.toList).toArray⟩) ∧ Below w.heap.size w w')
    (l : List Str) (sep : Str) (hn : l.length ≤ 140737488355328) (hlen : (Lib.join l sep).length ≤ 140737488355328) : Valid P gl f [.slice (l.map encS), .str sep] (.str (Lib.join l sep)) := by
  refine valid_calls hok fun lim w cargs hargs => ?_
  obtain ⟨v, u, rfl⟩ : ∃ v u, cargs = [v, u] := by
    have := hargs.1
    match cargs, this with
    | [v, u], _ => exact ⟨v, u, rfl⟩
  have hv := hargs.head
  have hu := rep_str hargs.tail.head
  subst hu
  by_cases hl : l = []
  · subst hl
    obtain ⟨p, cap, hv', -⟩ := Rep.slice_form (l := []) hv
    rw [hv']
    refine (h0 p cap ⟨sep.toArray⟩ w).mono fun e w' => ?_
    rintro ⟨rfl, rfl⟩
    exact ⟨_, rfl, Below.refl _ _, fun _ _ => .str []⟩
  · obtain ⟨b, off, cap, rfl, hcap, hb, hc⟩ := strs_cells hv hl
    have := h1 b off cap (l.map fun s => ⟨s.toArray⟩) ⟨sep.toArray⟩ w hc hb (by simpa using hn) (by simpa using hcap) (by simpa [Function.comp_def] using hlen)
    simp only [List.length_map, List.map_map, Function.comp_def, List.map_id'] at this
    refine this.mono fun e w' => ?_
    rintro ⟨rfl, hbel⟩
    exact ⟨_, rfl, hbel, fun _ _ => .str _⟩

end Go.Pv
