import Derived.Test.YtocmdbojefgpbaaGreatDoorPt
import Derived.Test.YtocmdbojefgpbaaGreatDoorPvPb
import Derived.Test.YtocmdbojefgpbaaGreatDoorPvY
import Derived.Shelf.Strings.SlTrimAscii
import Derived.Test.YtocmdbojefgpbaaGreatDoorXMgE
import Derived.Test.YtocmdbojefgpbaaGreatDoorPvP
import Derived.Test.YtocmdbojefgpbaaGreatDoorPvDb
import Derived.Test.YtocmdbojefgpbaaGreatDoorPvKd
import Derived.Test.YtocmdbojefgpbaaGreatDoorXNaC
import Derived.Test.YtocmdbojefgpbaaGreatDoorXTyI
import Derived.Test.YtocmdbojefgpbaaGreatDoorXExA
section
/- Names of instances: reading. -/
set_option linter.all false
set_option maxHeartbeats 1000000
set_option maxRecDepth 10000
namespace Go.Proofs.YtocmdbojefgpbaaGreatDoor
open Go Go.Pv
variable (g : Nat → Option (List AV)) (rnd : Bool)

theorem c_mangle_reader_take (b : Nat) (x y : Str) : ValidC Tryz.prog (G0 g false) 56 [.str y] b [.str (x)] (.bool (Lib.hasPrefix x y)) [.str (Lib.trimPrefix x y)] := by

 refine validC_of [] Tryz.func56 rfl (by kernel_rfl) ?_
 refine sr fun Z z => ?_
 simp [Tryz.f56]
 refine z _ ?_
 clear z Z
 refine sr fun Z z => ?_
 simp
 repeat refine sg ?_
 refine RVn_call (c_strings_CutPrefix g false x y) ?_
 simp
 repeat refine sg ?_
 refine z _ ?_
 clear z Z
 refine sr fun Z z => ?_
 simp
 refine z _ ?_
 clear z Z
 refine AT_ret ?_
 simp [Tryz.f56]

theorem c_strings_TrimLeft (s : Str) : Valid Tryz.prog (G0 g false) 75 [.str s, .str digitsL] (.str (s.drop (digsM s).length)) := by
  refine valid_callsG (by kernel_rfl) fun lim w cargs hgl hargs => ?_
  obtain ⟨v, u, rfl⟩ : ∃ v u, cargs = [v, u] := by
    have := hargs.1
    match cargs, this with
    | [v, u], _ => exact ⟨v, u, rfl⟩
  have hv := rep_str hargs.head
  have hu := rep_str hargs.tail.head
  subst hv; subst hu
  refine (Any.strings_TrimLeft_laid Tryz.lays161 (by kernel_rfl) ⟨s.toArray⟩ ⟨digitsL.toArray⟩ w (by decide) (fun j c hc => ?_)).mono fun e w2 => ?_
  · have hd : ∀ c ∈ digitsL, c.toNat < 128 := by decide
    exact hd c (List.mem_of_getElem? (by simpa using hc))
  · rintro ⟨rfl, hb⟩
    exact ⟨_, rfl, hb, fun _ _ => by rw [show Lib.trimLeftS s.toArray.toList digitsL.toArray.toList = s.drop (digsM s).length by simp [trim_digits]]; exact .str _⟩

theorem c_mangle_reader_word (b : Nat) (x : Str) (hx : x.length ≤ 1000000) : ValidC Tryz.prog (G0 g false) 58 [] b [.str (x)] (.str (wordM x).1) [.str ((wordM x).2)] := by

 refine validC_of [(3, 5)] Tryz.func58 rfl (by kernel_rfl) ?_
 refine sr fun Z z => ?_
 simp [rowNums_encU, ofNum_encU, ofNum_encU2, Tryz.f58]
 refine z _ ?_
 clear z Z
 refine AT_scope ?_
 refine sr fun Z z => ?_
 simp [rowNums_encU, ofNum_encU, ofNum_encU2]
 refine z _ ?_
 clear z Z
 refine AT_seq_k fun K1 hK1 => ?_
 refine AT_label ?_
 try simp only [nrm, reduceIte, Nat.reduceEqDiff]
 refine hK1 _ ?_
 refine AT_seq_k fun K2 hK2 => ?_
 refine AT_block ?_
 refine AT_loop_q [0,3] [] (fun j s => ∃ acc y rs, wordM x = (acc ++ (wordM y).1, (wordM y).2) ∧ acc.length + y.length ≤ x.length ∧ (∀ k : Nat, k ≠ b → Pv.look k rs = none) ∧ j = y.length ∧ s = { n := 38, tm := [(0, .v (.gp b 0) none), (3, .v (.slice (acc.map encU)) (some (3, 5)))], bx := [], tb := [], sh := (b, [.str y]) :: rs, hint := [(3, 5)] }) (x.length) (by first | rfl | simp) ?_ ?_
 exact ⟨[], x, [], by simp, by simp, fun _ _ => rfl, rfl, by simp⟩
 rintro j s ⟨acc, y, rs, hq, hl, hrs, rfl, rfl⟩ K3 hK3
 refine AT_str (Gives.shb hrs) ?_
 refine AT_seq_k fun K4 hK4 => ?_
 rcases y with _ | ⟨c, r⟩
 refine sr fun Z z => ?_
 simp [rowNums_encU, ofNum_encU, ofNum_encU2]
 repeat (refine ⟨by first | omega | exact Rows_map _ _ encU_cells _ | exact ⟨Rows_map _ _ encU_cells _, by omega⟩ | exact ⟨Rows_map _ _ encU_cells _, by simp at *; omega⟩ | (simp at *; omega), ?_⟩)
 refine z _ ?_
 clear z Z
 refine cF (by simp) ?_
 refine AT_exit ?_
 try simp only [nrm, reduceIte, Nat.reduceEqDiff]
 refine hK2 _ ?_
 refine sr fun Z z => ?_
 simp [rowNums_encU, ofNum_encU, ofNum_encU2]
 repeat (refine ⟨by first | omega | exact Rows_map _ _ encU_cells _ | exact ⟨Rows_map _ _ encU_cells _, by omega⟩ | exact ⟨Rows_map _ _ encU_cells _, by simp at *; omega⟩ | (simp at *; omega), ?_⟩)
 refine z _ ?_
 clear z Z
 refine AT_ret ?_
 simp [rowNums_encU, ofNum_encU, ofNum_encU2, Tryz.f58]
 rw [hq]; simp [wordM, *]
 by_cases hc : c = 95
 subst hc
 rcases r with _ | ⟨d, q⟩
 have hp : Lib.hasPrefix [95] [95, 95] = false := by decide
 have ht : Lib.trimPrefix [95] [95, 95] = [95] := by decide
 refine sr fun Z z => ?_
 simp [rowNums_encU, ofNum_encU, ofNum_encU2, hp, ht]
 repeat (refine ⟨by first | omega | exact Rows_map _ _ encU_cells _ | exact ⟨Rows_map _ _ encU_cells _, by omega⟩ | exact ⟨Rows_map _ _ encU_cells _, by simp at *; omega⟩ | (simp at *; omega), ?_⟩)
 refine z _ ?_
 clear z Z
 refine cT (by simp [hp, ht]) ?_
 refine AT_skip ?_
 try simp only [nrm, reduceIte, Nat.reduceEqDiff]
 refine hK4 _ ?_
 refine AT_block ?_
 refine sr fun Z z => ?_
 simp [rowNums_encU, ofNum_encU, ofNum_encU2, hp, ht]
 repeat (refine ⟨by first | omega | exact Rows_map _ _ encU_cells _ | exact ⟨Rows_map _ _ encU_cells _, by omega⟩ | exact ⟨Rows_map _ _ encU_cells _, by simp at *; omega⟩ | (simp at *; omega), ?_⟩)
 refine z _ ?_
 clear z Z
 refine AT_block ?_
 refine sr fun Z z => ?_
 simp [rowNums_encU, ofNum_encU, ofNum_encU2, hp, ht]
 repeat (refine ⟨by first | omega | exact Rows_map _ _ encU_cells _ | exact ⟨Rows_map _ _ encU_cells _, by omega⟩ | exact ⟨Rows_map _ _ encU_cells _, by simp at *; omega⟩ | (simp at *; omega), ?_⟩)
 refine RVn_callC (c_mangle_reader_take g b _ [95, 95]) rfl ?_
 simp [rowNums_encU, ofNum_encU, ofNum_encU2, hp, ht]
 repeat (refine ⟨by first | omega | exact Rows_map _ _ encU_cells _ | exact ⟨Rows_map _ _ encU_cells _, by omega⟩ | exact ⟨Rows_map _ _ encU_cells _, by simp at *; omega⟩ | (simp at *; omega), ?_⟩)
 refine z _ ?_
 clear z Z
 refine cF (by simp [hp, ht]) ?_
 refine sr fun Z z => ?_
 simp [rowNums_encU, ofNum_encU, ofNum_encU2, hp, ht]
 repeat (refine ⟨by first | omega | exact Rows_map _ _ encU_cells _ | exact ⟨Rows_map _ _ encU_cells _, by omega⟩ | exact ⟨Rows_map _ _ encU_cells _, by simp at *; omega⟩ | (simp at *; omega), ?_⟩)
 refine z _ ?_
 clear z Z
 refine cT (by simp [hp, ht]) ?_
 refine AT_exit ?_
 try simp only [nrm, reduceIte, Nat.reduceEqDiff]
 refine hK2 _ ?_
 refine sr fun Z z => ?_
 simp [rowNums_encU, ofNum_encU, ofNum_encU2, hp, ht]
 repeat (refine ⟨by first | omega | exact Rows_map _ _ encU_cells _ | exact ⟨Rows_map _ _ encU_cells _, by omega⟩ | exact ⟨Rows_map _ _ encU_cells _, by simp at *; omega⟩ | (simp at *; omega), ?_⟩)
 refine z _ ?_
 clear z Z
 refine AT_ret ?_
 simp [rowNums_encU, ofNum_encU, ofNum_encU2, Tryz.f58]
 rw [hq]; simp [wordM, *]
 by_cases hd : d = 95
 subst hd
 have hp : Lib.hasPrefix (95 :: 95 :: q) [95, 95] = true := by simp [Lib.hasPrefix]
 have ht : Lib.trimPrefix (95 :: 95 :: q) [95, 95] = q := by simp [Lib.trimPrefix, Lib.hasPrefix]
 obtain ⟨y2, hy2⟩ : ∃ y2 : Str, y2 = q := ⟨_, rfl⟩
 obtain ⟨acc2, ha2⟩ : ∃ a : Str, a = acc ++ [95] := ⟨_, rfl⟩
 have hyl : y2.length < ((95 : UInt8) :: 95 :: q).length := by subst hy2; simp; omega
 refine sr fun Z z => ?_
 simp [rowNums_encU, ofNum_encU, ofNum_encU2, hp, ht]
 repeat (refine ⟨by first | omega | exact Rows_map _ _ encU_cells _ | exact ⟨Rows_map _ _ encU_cells _, by omega⟩ | exact ⟨Rows_map _ _ encU_cells _, by simp at *; omega⟩ | (simp at *; omega), ?_⟩)
 refine z _ ?_
 clear z Z
 refine cT (by simp [hp, ht]) ?_
 refine AT_skip ?_
 try simp only [nrm, reduceIte, Nat.reduceEqDiff]
 refine hK4 _ ?_
 refine AT_block ?_
 refine sr fun Z z => ?_
 simp [rowNums_encU, ofNum_encU, ofNum_encU2, hp, ht]
 repeat (refine ⟨by first | omega | exact Rows_map _ _ encU_cells _ | exact ⟨Rows_map _ _ encU_cells _, by omega⟩ | exact ⟨Rows_map _ _ encU_cells _, by simp at *; omega⟩ | (simp at *; omega), ?_⟩)
 refine z _ ?_
 clear z Z
 refine AT_block ?_
 refine sr fun Z z => ?_
 simp [rowNums_encU, ofNum_encU, ofNum_encU2, hp, ht]
 repeat (refine ⟨by first | omega | exact Rows_map _ _ encU_cells _ | exact ⟨Rows_map _ _ encU_cells _, by omega⟩ | exact ⟨Rows_map _ _ encU_cells _, by simp at *; omega⟩ | (simp at *; omega), ?_⟩)
 refine RVn_callC (c_mangle_reader_take g b _ [95, 95]) rfl ?_
 simp [rowNums_encU, ofNum_encU, ofNum_encU2, hp, ht]
 repeat (refine ⟨by first | omega | exact Rows_map _ _ encU_cells _ | exact ⟨Rows_map _ _ encU_cells _, by omega⟩ | exact ⟨Rows_map _ _ encU_cells _, by simp at *; omega⟩ | (simp at *; omega), ?_⟩)
 refine z _ ?_
 clear z Z
 refine cT (by simp [hp, ht]) ?_
 refine AT_region_q fun Z z => ?_
 simp [rowNums_encU, ofNum_encU, ofNum_encU2, hp, ht]
 repeat (refine ⟨by first | omega | exact Rows_map _ _ encU_cells _ | exact ⟨Rows_map _ _ encU_cells _, by omega⟩ | exact ⟨Rows_map _ _ encU_cells _, by simp at *; omega⟩ | (simp at *; omega), ?_⟩)
 refine z _ ?_
 clear z Z
 try simp only [nrm, reduceIte, Nat.reduceEqDiff]
 refine hK3 _ (by first | rfl | simp) (y2.length) (by omega) ?_
 have hqq : wordM x = (acc2 ++ (wordM y2).1, (wordM y2).2) := by
   subst hy2; subst ha2
   first | (· rw [hq, hwn]; simp) | (· rw [hq]; simp [wordM])
 have hll : acc2.length + y2.length ≤ x.length := by subst hy2; subst ha2; simp at hl ⊢; omega
 subst hy2; subst ha2
 first
 | (· refine ⟨_, _, [], hqq, hll, fun _ _ => rfl, rfl, ?_⟩
      simp [encU])
 | (· refine ⟨_, _, [(b, [.str (c :: y2)])], hqq, hll, fun k hk => by simp [Pv.look, Ne.symm hk], rfl, ?_⟩
      simp [encU])
 have hp : Lib.hasPrefix (95 :: d :: q) [95, 95] = false := by rw [hpC]; simpa using fun h : 95 = d => hd h.symm
 have ht : Lib.trimPrefix (95 :: d :: q) [95, 95] = 95 :: d :: q := by simp [Lib.trimPrefix, hp]
 refine sr fun Z z => ?_
 simp [rowNums_encU, ofNum_encU, ofNum_encU2, hp, ht]
 repeat (refine ⟨by first | omega | exact Rows_map _ _ encU_cells _ | exact ⟨Rows_map _ _ encU_cells _, by omega⟩ | exact ⟨Rows_map _ _ encU_cells _, by simp at *; omega⟩ | (simp at *; omega), ?_⟩)
 refine z _ ?_
 clear z Z
 refine cT (by simp [hp, ht]) ?_
 refine AT_skip ?_
 try simp only [nrm, reduceIte, Nat.reduceEqDiff]
 refine hK4 _ ?_
 refine AT_block ?_
 refine sr fun Z z => ?_
 simp [rowNums_encU, ofNum_encU, ofNum_encU2, hp, ht]
 repeat (refine ⟨by first | omega | exact Rows_map _ _ encU_cells _ | exact ⟨Rows_map _ _ encU_cells _, by omega⟩ | exact ⟨Rows_map _ _ encU_cells _, by simp at *; omega⟩ | (simp at *; omega), ?_⟩)
 refine z _ ?_
 clear z Z
 refine AT_block ?_
 refine sr fun Z z => ?_
 simp [rowNums_encU, ofNum_encU, ofNum_encU2, hp, ht]
 repeat (refine ⟨by first | omega | exact Rows_map _ _ encU_cells _ | exact ⟨Rows_map _ _ encU_cells _, by omega⟩ | exact ⟨Rows_map _ _ encU_cells _, by simp at *; omega⟩ | (simp at *; omega), ?_⟩)
 refine RVn_callC (c_mangle_reader_take g b _ [95, 95]) rfl ?_
 simp [rowNums_encU, ofNum_encU, ofNum_encU2, hp, ht]
 repeat (refine ⟨by first | omega | exact Rows_map _ _ encU_cells _ | exact ⟨Rows_map _ _ encU_cells _, by omega⟩ | exact ⟨Rows_map _ _ encU_cells _, by simp at *; omega⟩ | (simp at *; omega), ?_⟩)
 refine z _ ?_
 clear z Z
 refine cF (by simp [hp, ht]) ?_
 refine sr fun Z z => ?_
 simp [rowNums_encU, ofNum_encU, ofNum_encU2, hp, ht]
 repeat (refine ⟨by first | omega | exact Rows_map _ _ encU_cells _ | exact ⟨Rows_map _ _ encU_cells _, by omega⟩ | exact ⟨Rows_map _ _ encU_cells _, by simp at *; omega⟩ | (simp at *; omega), ?_⟩)
 refine z _ ?_
 clear z Z
 refine cT (by simp [hp, ht]) ?_
 refine AT_exit ?_
 try simp only [nrm, reduceIte, Nat.reduceEqDiff]
 refine hK2 _ ?_
 refine sr fun Z z => ?_
 simp [rowNums_encU, ofNum_encU, ofNum_encU2, hp, ht]
 repeat (refine ⟨by first | omega | exact Rows_map _ _ encU_cells _ | exact ⟨Rows_map _ _ encU_cells _, by omega⟩ | exact ⟨Rows_map _ _ encU_cells _, by simp at *; omega⟩ | (simp at *; omega), ?_⟩)
 refine z _ ?_
 clear z Z
 refine AT_ret ?_
 simp [rowNums_encU, ofNum_encU, ofNum_encU2, Tryz.f58]
 rw [hq]; simp [wordM, *]
 have hp : Lib.hasPrefix (c :: r) [95, 95] = false := hp_ne hc r 95
 have hwn := wordM_ne hc r
 have ht : Lib.trimPrefix (c :: r) [95, 95] = c :: r := by simp [Lib.trimPrefix, hp]
 have hcn : ((c.toNat : Int) == 95) = false := by simpa using fun h : (c.toNat : Int) = 95 => hc (UInt8.toNat_inj.1 (by simp; omega))
 obtain ⟨y2, hy2⟩ : ∃ y2 : Str, y2 = r := ⟨_, rfl⟩
 obtain ⟨acc2, ha2⟩ : ∃ a : Str, a = acc ++ [c] := ⟨_, rfl⟩
 have hyl : y2.length < (c :: r).length := by subst hy2; simp
 refine sr fun Z z => ?_
 simp [rowNums_encU, ofNum_encU, ofNum_encU2, hp, ht, hcn]
 repeat (refine ⟨by first | omega | exact Rows_map _ _ encU_cells _ | exact ⟨Rows_map _ _ encU_cells _, by omega⟩ | exact ⟨Rows_map _ _ encU_cells _, by simp at *; omega⟩ | (simp at *; omega), ?_⟩)
 refine z _ ?_
 clear z Z
 refine cT (by simp [hp, ht, hcn]) ?_
 refine AT_skip ?_
 try simp only [nrm, reduceIte, Nat.reduceEqDiff]
 refine hK4 _ ?_
 refine AT_block ?_
 refine sr fun Z z => ?_
 simp [rowNums_encU, ofNum_encU, ofNum_encU2, hp, ht, hcn]
 repeat (refine ⟨by first | omega | exact Rows_map _ _ encU_cells _ | exact ⟨Rows_map _ _ encU_cells _, by omega⟩ | exact ⟨Rows_map _ _ encU_cells _, by simp at *; omega⟩ | (simp at *; omega), ?_⟩)
 refine z _ ?_
 clear z Z
 refine AT_block ?_
 refine sr fun Z z => ?_
 simp [rowNums_encU, ofNum_encU, ofNum_encU2, hp, ht, hcn]
 repeat (refine ⟨by first | omega | exact Rows_map _ _ encU_cells _ | exact ⟨Rows_map _ _ encU_cells _, by omega⟩ | exact ⟨Rows_map _ _ encU_cells _, by simp at *; omega⟩ | (simp at *; omega), ?_⟩)
 refine RVn_callC (c_mangle_reader_take g b _ [95, 95]) rfl ?_
 simp [rowNums_encU, ofNum_encU, ofNum_encU2, hp, ht, hcn]
 repeat (refine ⟨by first | omega | exact Rows_map _ _ encU_cells _ | exact ⟨Rows_map _ _ encU_cells _, by omega⟩ | exact ⟨Rows_map _ _ encU_cells _, by simp at *; omega⟩ | (simp at *; omega), ?_⟩)
 refine z _ ?_
 clear z Z
 refine cF (by simp [hp, ht, hcn]) ?_
 refine sr fun Z z => ?_
 simp [rowNums_encU, ofNum_encU, ofNum_encU2, hp, ht, hcn]
 repeat (refine ⟨by first | omega | exact Rows_map _ _ encU_cells _ | exact ⟨Rows_map _ _ encU_cells _, by omega⟩ | exact ⟨Rows_map _ _ encU_cells _, by simp at *; omega⟩ | (simp at *; omega), ?_⟩)
 refine z _ ?_
 clear z Z
 refine cF (by simp [hp, ht, hcn]) ?_
 refine sr fun Z z => ?_
 simp [rowNums_encU, ofNum_encU, ofNum_encU2, hp, ht, hcn]
 repeat (refine ⟨by first | omega | exact Rows_map _ _ encU_cells _ | exact ⟨Rows_map _ _ encU_cells _, by omega⟩ | exact ⟨Rows_map _ _ encU_cells _, by simp at *; omega⟩ | (simp at *; omega), ?_⟩)
 refine z _ ?_
 clear z Z
 refine AT_region_q fun Z z => ?_
 simp [rowNums_encU, ofNum_encU, ofNum_encU2, hp, ht, hcn]
 repeat (refine ⟨by first | omega | exact Rows_map _ _ encU_cells _ | exact ⟨Rows_map _ _ encU_cells _, by omega⟩ | exact ⟨Rows_map _ _ encU_cells _, by simp at *; omega⟩ | (simp at *; omega), ?_⟩)
 refine z _ ?_
 clear z Z
 try simp only [nrm, reduceIte, Nat.reduceEqDiff]
 refine hK3 _ (by first | rfl | simp) (y2.length) (by omega) ?_
 have hqq : wordM x = (acc2 ++ (wordM y2).1, (wordM y2).2) := by
   subst hy2; subst ha2
   first | (· rw [hq, hwn]; simp) | (· rw [hq]; simp [wordM])
 have hll : acc2.length + y2.length ≤ x.length := by subst hy2; subst ha2; simp at hl ⊢; omega
 subst hy2; subst ha2
 first
 | (· refine ⟨_, _, [], hqq, hll, fun _ _ => rfl, rfl, ?_⟩
      simp [encU])
 | (· refine ⟨_, _, [(b, [.str (c :: y2)])], hqq, hll, fun k hk => by simp [Pv.look, Ne.symm hk], rfl, ?_⟩
      simp [encU])

theorem c_mangle_reader_local (b : Nat) (x : Str) (hx : x.length ≤ 100000) (htab : g 3 = some pow10A) (hers : ∃ x, g 1 = some [.iface 159 x]) (herr : ∃ x, g 2 = some [.iface 159 x]) : ValidC Tryz.prog (G0 g false) 57 [] b [.str (x)] (.tup [.agg (encTy (.mk (36 :: digsM x) [] 0)), .bool (locOf (36 :: digsM x)).isSome]) [.str (x.drop (digsM x).length)] := by
 have hdl := digs_len x
 have htd := take_digits x
 have hn : (x.length : Int) - ((x.length - (digsM x).length : Nat) : Int) = (digsM x).length := by omega
 refine validC_of [] Tryz.func57 rfl (by kernel_rfl) ?_
 refine sr fun Z z => ?_
 simp [hn, htd, encTy_mk, Tryz.f57]
 refine z _ ?_
 clear z Z
 refine AT_seq_draw Pt.mixed (by kernel_rfl) fun Z z => ?_
 simp [hn, htd, encTy_mk]
 repeat refine sg ?_
 refine RVdn_call (c_strings_TrimLeft g x) ?_
 simp [hn, htd, encTy_mk]
 repeat refine sg ?_
 refine z _ ?_
 clear z Z
 refine sr fun Z z => ?_
 simp [hn, htd, encTy_mk]
 repeat refine sg ?_
 refine z _ ?_
 clear z Z
 refine sr fun Z z => ?_
 simp [hn, htd, encTy_mk]
 repeat refine sg ?_
 refine z _ ?_
 clear z Z
 refine sr fun Z z => ?_
 simp [hn, htd, encTy_mk]
 repeat refine sg ?_
 refine RVn_call (c_name_Index g false (36 :: digsM x) (by simp; omega) htab hers herr) ?_
 simp [hn, htd, encTy_mk]
 repeat refine sg ?_
 refine z _ ?_
 clear z Z
 refine sr fun Z z => ?_
 simp [hn, htd, encTy_mk]
 repeat refine sg ?_
 refine z _ ?_
 clear z Z
 refine AT_ret ?_
 simp [hn, htd, encTy_mk, Tryz.f57]

end Go.Proofs.YtocmdbojefgpbaaGreatDoor
end

section
/- Names of instances: reading a type. -/
set_option linter.all false
set_option maxHeartbeats 1000000
set_option maxRecDepth 10000
namespace Go.Proofs.YtocmdbojefgpbaaGreatDoor
open Go Go.Pv
variable (g : Nat → Option (List AV)) (rnd : Bool)

theorem c_mangle_reader_read (b : Nat) (htab : g 3 = some pow10A) (hers : ∃ x, g 1 = some [.iface 159 x]) (herr : ∃ x, g 2 = some [.iface 159 x]) (hres : g 0 = some reservedA) : ∀ (n : Nat) (x : Str), x.length < n → x.length ≤ 100000 → ValidC Tryz.prog (G0 g false) 35 [] b [.str (x)] (.tup [.agg (encTy (readM n x).1.1), .bool (readM n x).1.2]) [.str ((readM n x).2)] := by
 intro n
 induction n with
 | zero => intro x h; omega
 | succ q ih =>
 intro x hxq hxl
 have hwl := word_len x
 refine validC_of [(104001, 24)] Tryz.func35 rfl (by kernel_rfl) ?_
 refine sr fun Z z => ?_
 simp [encTy_mk, Tryz.f35]
 refine z _ ?_
 clear z Z
 refine AT_seq_k fun K1 hK1 => ?_
 cases hv : Lib.hasPrefix x [95, 86]
 have ht : Lib.trimPrefix x [95, 86] = x := by unfold Lib.trimPrefix; rw [hv]; rfl
 cases hi : isName (wordM x).1
 have hr : readM (q + 1) x = ((.mk [] [] 0, false), (wordM x).2) := by rw [readM, hv, hi]; rfl
 refine sr fun Z z => ?_
 simp [encTy_mk, hv, ht, hi, hr]
 repeat (refine ⟨by first | omega | assumption | exact Rows_map _ _ encTy_cells _ | exact ⟨Rows_map _ _ encTy_cells _, by omega⟩ | (simp at *; omega), ?_⟩)
 refine RVn_callC (c_mangle_reader_take g b x [95, 86]) rfl ?_
 simp [encTy_mk, hv, ht, hi, hr]
 repeat (refine ⟨by first | omega | assumption | exact Rows_map _ _ encTy_cells _ | exact ⟨Rows_map _ _ encTy_cells _, by omega⟩ | (simp at *; omega), ?_⟩)
 refine z _ ?_
 clear z Z
 refine cF (by simp [hv, ht, hi, hr]) ?_
 refine AT_skip ?_
 try simp only [nrm, reduceIte, Nat.reduceEqDiff]
 refine hK1 _ ?_
 refine sr fun Z z => ?_
 simp [encTy_mk, hv, ht, hi, hr]
 repeat (refine ⟨by first | omega | assumption | exact Rows_map _ _ encTy_cells _ | exact ⟨Rows_map _ _ encTy_cells _, by omega⟩ | (simp at *; omega), ?_⟩)
 refine RVn_callC (c_mangle_reader_word g b x (by omega)) rfl ?_
 simp [encTy_mk, hv, ht, hi, hr]
 repeat (refine ⟨by first | omega | assumption | exact Rows_map _ _ encTy_cells _ | exact ⟨Rows_map _ _ encTy_cells _, by omega⟩ | (simp at *; omega), ?_⟩)
 refine z _ ?_
 clear z Z
 refine AT_seq_k fun K2 hK2 => ?_
 refine sr fun Z z => ?_
 simp [encTy_mk, hv, ht, hi, hr]
 repeat (refine ⟨by first | omega | assumption | exact Rows_map _ _ encTy_cells _ | exact ⟨Rows_map _ _ encTy_cells _, by omega⟩ | (simp at *; omega), ?_⟩)
 refine RVn_call (c_name_Is g false (wordM x).1 (by omega) hres) ?_
 simp [encTy_mk, hv, ht, hi, hr]
 repeat (refine ⟨by first | omega | assumption | exact Rows_map _ _ encTy_cells _ | exact ⟨Rows_map _ _ encTy_cells _, by omega⟩ | (simp at *; omega), ?_⟩)
 refine z _ ?_
 clear z Z
 refine cT (by simp [hv, ht, hi, hr]) ?_
 refine sr fun Z z => ?_
 simp [encTy_mk, hv, ht, hi, hr]
 repeat (refine ⟨by first | omega | assumption | exact Rows_map _ _ encTy_cells _ | exact ⟨Rows_map _ _ encTy_cells _, by omega⟩ | (simp at *; omega), ?_⟩)
 refine z _ ?_
 clear z Z
 refine AT_ret ?_
 simp [encTy_mk, Tryz.f35]
 first
 | (· simp [hr, encTy_mk])
 | (· rw [hr, hq, argsM, hok]; simp [encTy_mk])
 | (· rw [hr, hq, argsM, hok, hC]; simp [encTy_mk])
 cases hL : Lib.hasPrefix (wordM x).2 [95, 76]
 have ht2 : Lib.trimPrefix (wordM x).2 [95, 76] = (wordM x).2 := by unfold Lib.trimPrefix; rw [hL]; rfl
 have hr : readM (q + 1) x = ((.mk (wordM x).1 [] 0, true), (wordM x).2) := by rw [readM, hv, hi, hL]; rfl
 refine sr fun Z z => ?_
 simp [encTy_mk, hv, ht, hi, hL, ht2, hr]
 repeat (refine ⟨by first | omega | assumption | exact Rows_map _ _ encTy_cells _ | exact ⟨Rows_map _ _ encTy_cells _, by omega⟩ | (simp at *; omega), ?_⟩)
 refine RVn_callC (c_mangle_reader_take g b x [95, 86]) rfl ?_
 simp [encTy_mk, hv, ht, hi, hL, ht2, hr]
 repeat (refine ⟨by first | omega | assumption | exact Rows_map _ _ encTy_cells _ | exact ⟨Rows_map _ _ encTy_cells _, by omega⟩ | (simp at *; omega), ?_⟩)
 refine z _ ?_
 clear z Z
 refine cF (by simp [hv, ht, hi, hL, ht2, hr]) ?_
 refine AT_skip ?_
 try simp only [nrm, reduceIte, Nat.reduceEqDiff]
 refine hK1 _ ?_
 refine sr fun Z z => ?_
 simp [encTy_mk, hv, ht, hi, hL, ht2, hr]
 repeat (refine ⟨by first | omega | assumption | exact Rows_map _ _ encTy_cells _ | exact ⟨Rows_map _ _ encTy_cells _, by omega⟩ | (simp at *; omega), ?_⟩)
 refine RVn_callC (c_mangle_reader_word g b x (by omega)) rfl ?_
 simp [encTy_mk, hv, ht, hi, hL, ht2, hr]
 repeat (refine ⟨by first | omega | assumption | exact Rows_map _ _ encTy_cells _ | exact ⟨Rows_map _ _ encTy_cells _, by omega⟩ | (simp at *; omega), ?_⟩)
 refine z _ ?_
 clear z Z
 refine AT_seq_k fun K3 hK3 => ?_
 refine sr fun Z z => ?_
 simp [encTy_mk, hv, ht, hi, hL, ht2, hr]
 repeat (refine ⟨by first | omega | assumption | exact Rows_map _ _ encTy_cells _ | exact ⟨Rows_map _ _ encTy_cells _, by omega⟩ | (simp at *; omega), ?_⟩)
 refine RVn_call (c_name_Is g false (wordM x).1 (by omega) hres) ?_
 simp [encTy_mk, hv, ht, hi, hL, ht2, hr]
 repeat (refine ⟨by first | omega | assumption | exact Rows_map _ _ encTy_cells _ | exact ⟨Rows_map _ _ encTy_cells _, by omega⟩ | (simp at *; omega), ?_⟩)
 refine z _ ?_
 clear z Z
 refine cF (by simp [hv, ht, hi, hL, ht2, hr]) ?_
 refine AT_skip ?_
 try simp only [nrm, reduceIte, Nat.reduceEqDiff]
 refine hK3 _ ?_
 refine AT_seq_k fun K4 hK4 => ?_
 refine sr fun Z z => ?_
 simp [encTy_mk, hv, ht, hi, hL, ht2, hr]
 repeat (refine ⟨by first | omega | assumption | exact Rows_map _ _ encTy_cells _ | exact ⟨Rows_map _ _ encTy_cells _, by omega⟩ | (simp at *; omega), ?_⟩)
 refine RVn_callC (c_mangle_reader_take g b (wordM x).2 [95, 76]) rfl ?_
 simp [encTy_mk, hv, ht, hi, hL, ht2, hr]
 repeat (refine ⟨by first | omega | assumption | exact Rows_map _ _ encTy_cells _ | exact ⟨Rows_map _ _ encTy_cells _, by omega⟩ | (simp at *; omega), ?_⟩)
 refine z _ ?_
 clear z Z
 refine cT (by simp [hv, ht, hi, hL, ht2, hr]) ?_
 refine sr fun Z z => ?_
 simp [encTy_mk, hv, ht, hi, hL, ht2, hr]
 repeat (refine ⟨by first | omega | assumption | exact Rows_map _ _ encTy_cells _ | exact ⟨Rows_map _ _ encTy_cells _, by omega⟩ | (simp at *; omega), ?_⟩)
 refine z _ ?_
 clear z Z
 refine AT_ret ?_
 simp [encTy_mk, Tryz.f35]
 first
 | (· simp [hr, encTy_mk])
 | (· rw [hr, hq, argsM, hok]; simp [encTy_mk])
 | (· rw [hr, hq, argsM, hok, hC]; simp [encTy_mk])
 have hth := trim_hit hL
 obtain ⟨y0, hy0⟩ : ∃ y, y = Lib.trimPrefix (wordM x).2 [95, 76] := ⟨_, rfl⟩
 have ht2 := hy0.symm
 rw [ht2] at hth
 simp only [List.length_cons, List.length_nil] at hth
 have hr : readM (q + 1) x = argsM (readM q) (wordM x).1 q [] y0 := by rw [readM, hv, hi, hL, ht2]; rfl
 refine sr fun Z z => ?_
 simp [encTy_mk, hv, ht, hi, hL, ht2]
 repeat (refine ⟨by first | omega | assumption | exact Rows_map _ _ encTy_cells _ | exact ⟨Rows_map _ _ encTy_cells _, by omega⟩ | (simp at *; omega), ?_⟩)
 refine RVn_callC (c_mangle_reader_take g b x [95, 86]) rfl ?_
 simp [encTy_mk, hv, ht, hi, hL, ht2]
 repeat (refine ⟨by first | omega | assumption | exact Rows_map _ _ encTy_cells _ | exact ⟨Rows_map _ _ encTy_cells _, by omega⟩ | (simp at *; omega), ?_⟩)
 refine z _ ?_
 clear z Z
 refine cF (by simp [hv, ht, hi, hL, ht2]) ?_
 refine AT_skip ?_
 try simp only [nrm, reduceIte, Nat.reduceEqDiff]
 refine hK1 _ ?_
 refine sr fun Z z => ?_
 simp [encTy_mk, hv, ht, hi, hL, ht2]
 repeat (refine ⟨by first | omega | assumption | exact Rows_map _ _ encTy_cells _ | exact ⟨Rows_map _ _ encTy_cells _, by omega⟩ | (simp at *; omega), ?_⟩)
 refine RVn_callC (c_mangle_reader_word g b x (by omega)) rfl ?_
 simp [encTy_mk, hv, ht, hi, hL, ht2]
 repeat (refine ⟨by first | omega | assumption | exact Rows_map _ _ encTy_cells _ | exact ⟨Rows_map _ _ encTy_cells _, by omega⟩ | (simp at *; omega), ?_⟩)
 refine z _ ?_
 clear z Z
 refine AT_seq_k fun K5 hK5 => ?_
 refine sr fun Z z => ?_
 simp [encTy_mk, hv, ht, hi, hL, ht2]
 repeat (refine ⟨by first | omega | assumption | exact Rows_map _ _ encTy_cells _ | exact ⟨Rows_map _ _ encTy_cells _, by omega⟩ | (simp at *; omega), ?_⟩)
 refine RVn_call (c_name_Is g false (wordM x).1 (by omega) hres) ?_
 simp [encTy_mk, hv, ht, hi, hL, ht2]
 repeat (refine ⟨by first | omega | assumption | exact Rows_map _ _ encTy_cells _ | exact ⟨Rows_map _ _ encTy_cells _, by omega⟩ | (simp at *; omega), ?_⟩)
 refine z _ ?_
 clear z Z
 refine cF (by simp [hv, ht, hi, hL, ht2]) ?_
 refine AT_skip ?_
 try simp only [nrm, reduceIte, Nat.reduceEqDiff]
 refine hK5 _ ?_
 refine AT_seq_k fun K6 hK6 => ?_
 refine sr fun Z z => ?_
 simp [encTy_mk, hv, ht, hi, hL, ht2]
 repeat (refine ⟨by first | omega | assumption | exact Rows_map _ _ encTy_cells _ | exact ⟨Rows_map _ _ encTy_cells _, by omega⟩ | (simp at *; omega), ?_⟩)
 refine RVn_callC (c_mangle_reader_take g b (wordM x).2 [95, 76]) rfl ?_
 simp [encTy_mk, hv, ht, hi, hL, ht2]
 repeat (refine ⟨by first | omega | assumption | exact Rows_map _ _ encTy_cells _ | exact ⟨Rows_map _ _ encTy_cells _, by omega⟩ | (simp at *; omega), ?_⟩)
 refine z _ ?_
 clear z Z
 refine cF (by simp [hv, ht, hi, hL, ht2]) ?_
 refine AT_skip ?_
 try simp only [nrm, reduceIte, Nat.reduceEqDiff]
 refine hK6 _ ?_
 refine AT_block ?_
 refine AT_loop_q [0,2,4] [2,4] (fun j s => ∃ y acc k, argsM (readM q) (wordM x).1 q [] y0 = argsM (readM q) (wordM x).1 (k + 1) acc y ∧ (y.length < k + 1 ∧ k < q) ∧ acc.length + y.length ≤ x.length ∧ j = k ∧ s = { n := 45, tm := [(0, .v (.gp b 0) none), (2, .lp 2 0), (4, .lp 4 0)], bx := [(2, [.str [], .slice [], .int .i64 0]), (4, [.str (wordM x).1, .slice ((acc).map encTy), .int .i64 0])], tb := [(4, 1, 104001, 24)], sh := [(b, [.str y])], hint := [(104001, 24)] }) (q - 1) (by first | rfl | simp) ?_ ?_
 exact ⟨y0, [], q - 1, by rw [show q - 1 + 1 = q by omega], ⟨by omega, by omega⟩, by simp; omega, rfl, by simp⟩
 rintro j s ⟨y, acc, k, hq, ⟨hyk, hkq⟩, hal, rfl, rfl⟩ K7 hK7
 refine AT_block ?_
 cases hok : (readM q y).1.2
 refine sr fun Z z => ?_
 have hrl := read_len q y
 simp [encTy_mk, hv, ht, hi, hL, ht2, hok]
 repeat (refine ⟨by first | omega | assumption | exact Rows_map _ _ encTy_cells _ | exact ⟨Rows_map _ _ encTy_cells _, by omega⟩ | (simp at *; omega), ?_⟩)
 refine RVn_callC (ih y (by omega) (by omega)) rfl ?_
 simp [encTy_mk, hv, ht, hi, hL, ht2, hok]
 repeat (refine ⟨by first | omega | assumption | exact Rows_map _ _ encTy_cells _ | exact ⟨Rows_map _ _ encTy_cells _, by omega⟩ | (simp at *; omega), ?_⟩)
 refine z _ ?_
 clear z Z
 refine AT_seq_k fun K8 hK8 => ?_
 refine sr fun Z z => ?_
 simp [encTy_mk, hv, ht, hi, hL, ht2, hok]
 refine z _ ?_
 clear z Z
 refine cT (by simp [hv, ht, hi, hL, ht2, hok]) ?_
 refine sr fun Z z => ?_
 simp [encTy_mk, hv, ht, hi, hL, ht2, hok]
 repeat (refine ⟨by first | omega | assumption | exact Rows_map _ _ encTy_cells _ | exact ⟨Rows_map _ _ encTy_cells _, by omega⟩ | (simp at *; omega), ?_⟩)
 refine z _ ?_
 clear z Z
 refine AT_ret ?_
 simp [encTy_mk, Tryz.f35]
 first
 | (· simp [hr, encTy_mk])
 | (· rw [hr, hq, argsM, hok]; simp [encTy_mk])
 | (· rw [hr, hq, argsM, hok, hC]; simp [encTy_mk])
 cases hC : Lib.hasPrefix (readM q y).2 [95, 67]
 have ht3 : Lib.trimPrefix (readM q y).2 [95, 67] = (readM q y).2 := by unfold Lib.trimPrefix; rw [hC]; rfl
 refine sr fun Z z => ?_
 have hrl := read_len q y
 simp [encTy_mk, hv, ht, hi, hL, ht2, hok, hC, ht3]
 repeat (refine ⟨by first | omega | assumption | exact Rows_map _ _ encTy_cells _ | exact ⟨Rows_map _ _ encTy_cells _, by omega⟩ | (simp at *; omega), ?_⟩)
 refine RVn_callC (ih y (by omega) (by omega)) rfl ?_
 simp [encTy_mk, hv, ht, hi, hL, ht2, hok, hC, ht3]
 repeat (refine ⟨by first | omega | assumption | exact Rows_map _ _ encTy_cells _ | exact ⟨Rows_map _ _ encTy_cells _, by omega⟩ | (simp at *; omega), ?_⟩)
 refine z _ ?_
 clear z Z
 refine AT_seq_k fun K9 hK9 => ?_
 refine sr fun Z z => ?_
 simp [encTy_mk, hv, ht, hi, hL, ht2, hok, hC, ht3]
 refine z _ ?_
 clear z Z
 refine cF (by simp [hv, ht, hi, hL, ht2, hok, hC, ht3]) ?_
 refine AT_skip ?_
 try simp only [nrm, reduceIte, Nat.reduceEqDiff]
 refine hK9 _ ?_
 refine sr fun Z z => ?_
 simp [encTy_mk, hv, ht, hi, hL, ht2, hok, hC, ht3]
 repeat (refine ⟨by first | omega | assumption | exact Rows_map _ _ encTy_cells _ | exact ⟨Rows_map _ _ encTy_cells _, by omega⟩ | (simp at *; omega), ?_⟩)
 refine z _ ?_
 clear z Z
 refine sr fun Z z => ?_
 simp [encTy_mk, hv, ht, hi, hL, ht2, hok, hC, ht3]
 repeat (refine ⟨by first | omega | assumption | exact Rows_map _ _ encTy_cells _ | exact ⟨Rows_map _ _ encTy_cells _, by omega⟩ | (simp at *; omega), ?_⟩)
 refine RVn_callC (c_mangle_reader_take g b (readM q y).2 [95, 67]) rfl ?_
 simp [encTy_mk, hv, ht, hi, hL, ht2, hok, hC, ht3]
 repeat (refine ⟨by first | omega | assumption | exact Rows_map _ _ encTy_cells _ | exact ⟨Rows_map _ _ encTy_cells _, by omega⟩ | (simp at *; omega), ?_⟩)
 refine z _ ?_
 clear z Z
 refine cT (by simp [hv, ht, hi, hL, ht2, hok, hC, ht3]) ?_
 refine AT_seq_any [0, 2, 3, 4] [2, 4] (fun z9 => z9 = { n := 45, tm := [(0, .v (.gp b 0) none), (2, .lp 2 0), (3, .v (.bool (Lib.hasPrefix (readM q y).2 [95, 82])) none), (4, .lp 4 0)], bx := [(2, [.str (wordM x).1, .slice ((acc ++ [(readM q y).1.1]).map encTy), .int .i64 0]), (4, [.str (wordM x).1, .slice ((acc ++ [(readM q y).1.1]).map encTy), .int .i64 0])], tb := [(4, 1, 104001, 24)], sh := [(b, [.str (Lib.trimPrefix (readM q y).2 [95, 82])])], hint := [(104001, 24)] }) Pt.mixed (fun K hK hQ => ?_) ?_
 refine ANY_take 1 (by rfl) hQ rfl rfl (by simp) (.inl ⟨_, rfl, rfl⟩) (by kernel_rfl) (by kernel_rfl) (by kernel_rfl) ?_
 refine ANY_ready [0, 2] (by kernel_rfl) (by simp) ?_
 refine AnyAll.cons rfl (fun Z hZ => ?_) ?_
 simp [encTy_mk, hv, ht, hi, hL, ht2, hok, hC, ht3]
 repeat (refine ⟨by first | omega | assumption | exact Rows_map _ _ encTy_cells _ | exact ⟨Rows_map _ _ encTy_cells _, by omega⟩ | (simp at *; omega), ?_⟩)
 refine hZ _ ?_
 clear hZ Z
 refine ANY_one 2 (by kernel_rfl) rfl fun Z hZ => ?_
 simp [encTy_mk, hv, ht, hi, hL, ht2, hok, hC, ht3]
 repeat (refine ⟨by first | omega | assumption | exact Rows_map _ _ encTy_cells _ | exact ⟨Rows_map _ _ encTy_cells _, by omega⟩ | (simp at *; omega), ?_⟩)
 refine RVn_callC (c_mangle_reader_take g b (readM q y).2 [95, 82]) rfl ?_
 simp [encTy_mk, hv, ht, hi, hL, ht2, hok, hC, ht3]
 repeat (refine ⟨by first | omega | assumption | exact Rows_map _ _ encTy_cells _ | exact ⟨Rows_map _ _ encTy_cells _, by omega⟩ | (simp at *; omega), ?_⟩)
 refine hZ _ ?_
 clear hZ Z
 refine ANY_one 3 (by kernel_rfl) rfl fun Z hZ => ?_
 simp [encTy_mk, hv, ht, hi, hL, ht2, hok, hC, ht3]
 repeat (refine ⟨by first | omega | assumption | exact Rows_map _ _ encTy_cells _ | exact ⟨Rows_map _ _ encTy_cells _, by omega⟩ | (simp at *; omega), ?_⟩)
 refine hZ _ ?_
 clear hZ Z
 refine ANY_one 4 (by kernel_rfl) rfl fun Z hZ => ?_
 simp [encTy_mk, hv, ht, hi, hL, ht2, hok, hC, ht3]
 repeat (refine ⟨by first | omega | assumption | exact Rows_map _ _ encTy_cells _ | exact ⟨Rows_map _ _ encTy_cells _, by omega⟩ | (simp at *; omega), ?_⟩)
 refine hZ _ ?_
 clear hZ Z
 refine ANY_done (by kernel_rfl) ?_
 refine hK _ (by first | rfl | simp) ?_
 simp
 refine AnyAll.cons rfl (fun Z hZ => ?_) ?_
 simp [encTy_mk, hv, ht, hi, hL, ht2, hok, hC, ht3]
 repeat (refine ⟨by first | omega | assumption | exact Rows_map _ _ encTy_cells _ | exact ⟨Rows_map _ _ encTy_cells _, by omega⟩ | (simp at *; omega), ?_⟩)
 refine RVn_callC (c_mangle_reader_take g b (readM q y).2 [95, 82]) rfl ?_
 simp [encTy_mk, hv, ht, hi, hL, ht2, hok, hC, ht3]
 repeat (refine ⟨by first | omega | assumption | exact Rows_map _ _ encTy_cells _ | exact ⟨Rows_map _ _ encTy_cells _, by omega⟩ | (simp at *; omega), ?_⟩)
 refine hZ _ ?_
 clear hZ Z
 refine ANY_one 0 (by kernel_rfl) rfl fun Z hZ => ?_
 simp [encTy_mk, hv, ht, hi, hL, ht2, hok, hC, ht3]
 repeat (refine ⟨by first | omega | assumption | exact Rows_map _ _ encTy_cells _ | exact ⟨Rows_map _ _ encTy_cells _, by omega⟩ | (simp at *; omega), ?_⟩)
 refine hZ _ ?_
 clear hZ Z
 refine ANY_one 3 (by kernel_rfl) rfl fun Z hZ => ?_
 simp [encTy_mk, hv, ht, hi, hL, ht2, hok, hC, ht3]
 repeat (refine ⟨by first | omega | assumption | exact Rows_map _ _ encTy_cells _ | exact ⟨Rows_map _ _ encTy_cells _, by omega⟩ | (simp at *; omega), ?_⟩)
 refine hZ _ ?_
 clear hZ Z
 refine ANY_one 4 (by kernel_rfl) rfl fun Z hZ => ?_
 simp [encTy_mk, hv, ht, hi, hL, ht2, hok, hC, ht3]
 repeat (refine ⟨by first | omega | assumption | exact Rows_map _ _ encTy_cells _ | exact ⟨Rows_map _ _ encTy_cells _, by omega⟩ | (simp at *; omega), ?_⟩)
 refine hZ _ ?_
 clear hZ Z
 refine ANY_done (by kernel_rfl) ?_
 refine hK _ (by first | rfl | simp) ?_
 simp
 exact AnyAll.nil
 rintro _ rfl
 refine AT_ret ?_
 simp [encTy_mk, Tryz.f35]
 first
 | (· simp [hr, encTy_mk])
 | (· rw [hr, hq, argsM, hok]; simp [encTy_mk])
 | (· rw [hr, hq, argsM, hok, hC]; simp [encTy_mk])
 have hth3 := trim_hit hC
 simp only [List.length_cons, List.length_nil] at hth3
 refine sr fun Z z => ?_
 have hrl := read_len q y
 simp [encTy_mk, hv, ht, hi, hL, ht2, hok, hC]
 repeat (refine ⟨by first | omega | assumption | exact Rows_map _ _ encTy_cells _ | exact ⟨Rows_map _ _ encTy_cells _, by omega⟩ | (simp at *; omega), ?_⟩)
 refine RVn_callC (ih y (by omega) (by omega)) rfl ?_
 simp [encTy_mk, hv, ht, hi, hL, ht2, hok, hC]
 repeat (refine ⟨by first | omega | assumption | exact Rows_map _ _ encTy_cells _ | exact ⟨Rows_map _ _ encTy_cells _, by omega⟩ | (simp at *; omega), ?_⟩)
 refine z _ ?_
 clear z Z
 refine AT_seq_k fun K10 hK10 => ?_
 refine sr fun Z z => ?_
 simp [encTy_mk, hv, ht, hi, hL, ht2, hok, hC]
 refine z _ ?_
 clear z Z
 refine cF (by simp [hv, ht, hi, hL, ht2, hok, hC]) ?_
 refine AT_skip ?_
 try simp only [nrm, reduceIte, Nat.reduceEqDiff]
 refine hK10 _ ?_
 refine sr fun Z z => ?_
 simp [encTy_mk, hv, ht, hi, hL, ht2, hok, hC]
 repeat (refine ⟨by first | omega | assumption | exact Rows_map _ _ encTy_cells _ | exact ⟨Rows_map _ _ encTy_cells _, by omega⟩ | (simp at *; omega), ?_⟩)
 refine z _ ?_
 clear z Z
 refine sr fun Z z => ?_
 simp [encTy_mk, hv, ht, hi, hL, ht2, hok, hC]
 repeat (refine ⟨by first | omega | assumption | exact Rows_map _ _ encTy_cells _ | exact ⟨Rows_map _ _ encTy_cells _, by omega⟩ | (simp at *; omega), ?_⟩)
 refine RVn_callC (c_mangle_reader_take g b (readM q y).2 [95, 67]) rfl ?_
 simp [encTy_mk, hv, ht, hi, hL, ht2, hok, hC]
 repeat (refine ⟨by first | omega | assumption | exact Rows_map _ _ encTy_cells _ | exact ⟨Rows_map _ _ encTy_cells _, by omega⟩ | (simp at *; omega), ?_⟩)
 refine z _ ?_
 clear z Z
 refine cF (by simp [hv, ht, hi, hL, ht2, hok, hC]) ?_
 refine AT_skip ?_
 try simp only [nrm, reduceIte, Nat.reduceEqDiff]
 refine hK7 _ (by first | rfl | simp) (j - 1) (by omega) ?_
 refine ⟨Lib.trimPrefix (readM q y).2 [95, 67], acc ++ [(readM q y).1.1], j - 1, ?_, ⟨by omega, by omega⟩, by simp; omega, rfl, by simp⟩
 rw [hq, argsM, hok, hC, show j - 1 + 1 = j by omega]; rfl
 have ht : Lib.trimPrefix x [95, 86] = x.drop 2 := by unfold Lib.trimPrefix; rw [hv]; rfl
 have hr : readM (q + 1) x = ((.mk (36 :: digsM (x.drop 2)) [] 0, (locOf (36 :: digsM (x.drop 2))).isSome), (x.drop 2).drop (digsM (x.drop 2)).length) := by rw [readM, hv]; rfl
 refine sr fun Z z => ?_
 simp [encTy_mk, hv, ht, hr]
 repeat (refine ⟨by first | omega | assumption | exact Rows_map _ _ encTy_cells _ | exact ⟨Rows_map _ _ encTy_cells _, by omega⟩ | (simp at *; omega), ?_⟩)
 refine RVn_callC (c_mangle_reader_take g b x [95, 86]) rfl ?_
 simp [encTy_mk, hv, ht, hr]
 repeat (refine ⟨by first | omega | assumption | exact Rows_map _ _ encTy_cells _ | exact ⟨Rows_map _ _ encTy_cells _, by omega⟩ | (simp at *; omega), ?_⟩)
 refine z _ ?_
 clear z Z
 refine cT (by simp [hv, ht, hr]) ?_
 refine sr fun Z z => ?_
 simp [encTy_mk, hv, ht, hr]
 repeat (refine ⟨by first | omega | assumption | exact Rows_map _ _ encTy_cells _ | exact ⟨Rows_map _ _ encTy_cells _, by omega⟩ | (simp at *; omega), ?_⟩)
 refine RVn_callC ((by have h := c_mangle_reader_local g b (x.drop 2) (by simp; omega) htab hers herr; simp only [encTy_mk] at h; exact h)) rfl ?_
 simp [encTy_mk, hv, ht, hr]
 repeat (refine ⟨by first | omega | assumption | exact Rows_map _ _ encTy_cells _ | exact ⟨Rows_map _ _ encTy_cells _, by omega⟩ | (simp at *; omega), ?_⟩)
 refine z _ ?_
 clear z Z
 refine AT_ret ?_
 simp [encTy_mk, Tryz.f35]
 first
 | (· simp [hr, encTy_mk])
 | (· rw [hr, hq, argsM, hok]; simp [encTy_mk])
 | (· rw [hr, hq, argsM, hok, hC]; simp [encTy_mk])

theorem c_mangle_Parse (x : Str) (hxl : x.length ≤ 100000) (htab : g 3 = some pow10A) (hers : ∃ x, g 1 = some [.iface 159 x]) (herr : ∃ x, g 2 = some [.iface 159 x]) (hres : g 0 = some reservedA) : Valid Tryz.prog (G0 g false) 11 [.str x] (.tup [.agg (encTy (parseM x).1), .bool (parseM x).2]) := by
 have hrl := read_len (x.length + 1) x
 refine valid_of [] Tryz.func11 rfl (by kernel_rfl) ?_
 refine sr fun Z z => ?_
 simp [encTy_mk, Tryz.f11]
 refine z _ ?_
 clear z Z
 refine sr fun Z z => ?_
 simp [encTy_mk]
 repeat refine sg ?_
 refine z _ ?_
 clear z Z
 cases hok : (readM (x.length + 1) x).1.2
 have hpm : parseM x = (.mk [] [] 0, false) := by unfold parseM; rw [if_pos (.inl hok)]
 refine AT_esc 9 rfl (by simp) (noClP_of (by simp)) fun b => ?_
 simp
 refine sr fun Z z => ?_
 simp [encTy_mk, hok]
 repeat refine sg ?_
 refine RVn_callC (c_mangle_reader_read g b htab hers herr hres (x.length + 1) x (by omega) hxl) rfl ?_
 simp [encTy_mk, hok]
 repeat refine sg ?_
 refine z _ ?_
 clear z Z
 refine AT_seq_k fun K1 hK1 => ?_
 refine sr fun Z z => ?_
 simp [encTy_mk, hok]
 repeat refine sg ?_
 refine z _ ?_
 clear z Z
 refine cT (by simp [hok]) ?_
 refine sr fun Z z => ?_
 simp [encTy_mk, hok]
 repeat refine sg ?_
 refine z _ ?_
 clear z Z
 refine AT_ret ?_
 simp [encTy_mk, Tryz.f11]
 first
 | (· simp [hpm, encTy_mk])
 | (· simp [hpm, encTy_def])
 | (rw [hpm]; rfl)
 by_cases hre : (readM (x.length + 1) x).2 = []
 have hpm : parseM x = ((readM (x.length + 1) x).1.1, true) := by unfold parseM; rw [if_neg (by simp [hok, hre])]
 refine AT_esc 9 rfl (by simp) (noClP_of (by simp)) fun b => ?_
 simp
 refine sr fun Z z => ?_
 simp [encTy_mk, hok, hre]
 repeat refine sg ?_
 refine RVn_callC (c_mangle_reader_read g b htab hers herr hres (x.length + 1) x (by omega) hxl) rfl ?_
 simp [encTy_mk, hok, hre]
 repeat refine sg ?_
 refine z _ ?_
 clear z Z
 refine AT_seq_k fun K2 hK2 => ?_
 refine sr fun Z z => ?_
 simp [encTy_mk, hok, hre]
 repeat refine sg ?_
 refine z _ ?_
 clear z Z
 refine cF (by simp [hok, hre]) ?_
 refine AT_skip ?_
 try simp only [nrm, reduceIte, Nat.reduceEqDiff]
 refine hK2 _ ?_
 refine sr fun Z z => ?_
 simp [encTy_mk, hok, hre]
 repeat refine sg ?_
 refine z _ ?_
 clear z Z
 refine AT_ret ?_
 simp [encTy_mk, Tryz.f11]
 first
 | (· simp [hpm, encTy_mk])
 | (· simp [hpm, encTy_def])
 | (rw [hpm]; rfl)
 have hpm : parseM x = (.mk [] [] 0, false) := by unfold parseM; rw [if_pos (.inr hre)]
 refine AT_esc 9 rfl (by simp) (noClP_of (by simp)) fun b => ?_
 simp
 refine sr fun Z z => ?_
 simp [encTy_mk, hok, hre]
 repeat refine sg ?_
 refine RVn_callC (c_mangle_reader_read g b htab hers herr hres (x.length + 1) x (by omega) hxl) rfl ?_
 simp [encTy_mk, hok, hre]
 repeat refine sg ?_
 refine z _ ?_
 clear z Z
 refine AT_seq_k fun K3 hK3 => ?_
 refine sr fun Z z => ?_
 simp [encTy_mk, hok, hre]
 repeat refine sg ?_
 refine z _ ?_
 clear z Z
 refine cT (by simp [hok, hre]) ?_
 refine sr fun Z z => ?_
 simp [encTy_mk, hok, hre]
 repeat refine sg ?_
 refine z _ ?_
 clear z Z
 refine AT_ret ?_
 simp [encTy_mk, Tryz.f11]
 first
 | (· simp [hpm, encTy_mk])
 | (· simp [hpm, encTy_def])
 | (rw [hpm]; rfl)

end Go.Proofs.YtocmdbojefgpbaaGreatDoor
end

section
/- Names of instances: dummy names of signatures without parameters. -/
set_option linter.all false
set_option maxHeartbeats 1000000
set_option maxRecDepth 10000
namespace Go.Proofs.YtocmdbojefgpbaaGreatDoor
open Go Go.Pv
variable (g : Nat → Option (List AV)) (rnd : Bool)

theorem c_bind_Names_z : Valid Tryz.prog (G0 g rnd) 65 [.slice []] (.slice []) := by

 refine valid_of [] Tryz.func65 rfl (by kernel_rfl) ?_
 refine sr fun Z z => ?_
 simp [Tryz.f65]
 refine z _ ?_
 clear z Z
 refine sr fun Z z => ?_
 simp
 refine z _ ?_
 clear z Z
 refine AT_seq_k fun K1 hK1 => ?_
 refine sr fun Z z => ?_
 simp
 repeat refine sg ?_
 refine z _ ?_
 clear z Z
 refine AT_block ?_
 refine AT_loop_q [3,6,7,8] [] (fun j s => ∃ (u : Unit), j = 0 ∧ s = { n := 19, tm := [(3, .v (.slice []) none), (6, .v (.slice []) none), (7, .v (.int .i64 0) none), (8, .v (.int .i64 0) none)], bx := [], tb := [], sh := [], hint := [] }) (0) (by first | rfl | simp) ?_ ?_
 exact ⟨(), rfl, by simp⟩
 rintro j s ⟨u, rfl, rfl⟩ K2 hK2
 refine sr fun Z z => ?_
 simp
 repeat refine sg ?_
 refine z _ ?_
 clear z Z
 refine AT_seq_k fun K3 hK3 => ?_
 refine cF (by simp) ?_
 refine AT_exit ?_
 try simp only [nrm, reduceIte, Nat.reduceEqDiff]
 refine hK1 _ ?_
 refine sr fun Z z => ?_
 simp
 refine z _ ?_
 clear z Z
 refine AT_ret ?_
 simp [Tryz.f65]

theorem c_bind_Subst_1_z (t : Ty) (hw : wt t ≤ 1099511627776) : Valid Tryz.prog (G0 g rnd) 86 [.agg [.str t.name, .slice (t.args.map encTy), .int .i64 t.pos], .ro [.slice []], .ro [.slice []]] (.agg [.str t.name, .slice (t.args.map encTy), .int .i64 t.pos]) := by

 refine valid_of [] Tryz.func86 rfl (by kernel_rfl) ?_
 refine sr fun Z z => ?_
 simp [Tryz.f86]
 refine z _ ?_
 clear z Z
 refine sr fun Z z => ?_
 simp
 repeat refine sg ?_
 refine RVn_call ((by have h := c_types_Subst_n g rnd t hw; simp only [encTy_def] at h; exact h)) ?_
 simp
 repeat refine sg ?_
 refine z _ ?_
 clear z Z
 refine AT_ret ?_
 simp [Tryz.f86]

theorem c_bind_mapped_z (n : Str) (t : Ty) (p : Int) (fid : Nat) (caps : List AV) (hf : Valid Tryz.prog (G0 g rnd) fid ([.agg [.str t.name, .slice (t.args.map encTy), .int .i64 t.pos]] ++ caps) (.agg [.str t.name, .slice (t.args.map encTy), .int .i64 t.pos])) : Valid Tryz.prog (G0 g rnd) 85 [.agg [.str n, .slice [], .slice [], .str t.name, .slice (t.args.map encTy), .int .i64 t.pos, .int .i64 p], .func fid caps] (.agg [.str n, .slice [], .slice [], .str t.name, .slice (t.args.map encTy), .int .i64 t.pos, .int .i64 p]) := by

 refine valid_of [] Tryz.func85 rfl (by kernel_rfl) ?_
 refine sr fun Z z => ?_
 simp [Tryz.f85]
 refine z _ ?_
 clear z Z
 refine AT_seq_draw_m true [] Pt.mixed (by kernel_rfl) ⟨by simp [Im, okP, AS.get, look, TV.strip], fun _ => NoC_of (by simp [isCl])⟩ fun Z z => ?_
 simp
 repeat refine sg ?_
 refine RVdn_call (hf) ?_
 simp
 repeat refine sg ?_
 refine z _ ?_
 clear z Z
 refine AT_seq_k fun K1 hK1 => ?_
 refine sr fun Z z => ?_
 simp
 repeat refine sg ?_
 refine z _ ?_
 clear z Z
 refine AT_block ?_
 refine AT_loop_q [2,4,5,20,21,22] [2,4,5] (fun j s => ∃ (u : Unit), j = 0 ∧ s = { n := 64, tm := [(2, .lp 2 0), (4, .lp 4 0), (5, .lp 5 0), (20, .v (.slice []) none), (21, .v (.int .i64 0) none), (22, .v (.int .i64 0) none)], bx := [(2, [.str n, .slice [], .slice [], .str t.name, .slice (t.args.map encTy), .int .i64 t.pos, .int .i64 p]), (4, [.str [], .slice [], .slice [], .str [], .slice [], .int .i64 0, .int .i64 0]), (5, [.str n, .slice [], .slice [], .str t.name, .slice (t.args.map encTy), .int .i64 t.pos, .int .i64 p])], tb := [], sh := [], hint := [] }) (0) (by first | rfl | simp) ?_ ?_
 exact ⟨(), rfl, by simp⟩
 rintro j s ⟨u, rfl, rfl⟩ K2 hK2
 refine sr fun Z z => ?_
 simp
 repeat refine sg ?_
 refine z _ ?_
 clear z Z
 refine AT_seq_k fun K3 hK3 => ?_
 refine cF (by simp) ?_
 refine AT_exit ?_
 try simp only [nrm, reduceIte, Nat.reduceEqDiff]
 refine hK1 _ ?_
 refine AT_seq_k fun K4 hK4 => ?_
 refine sr fun Z z => ?_
 simp
 repeat refine sg ?_
 refine z _ ?_
 clear z Z
 refine AT_block ?_
 refine AT_loop_q [2,4,5,42,43,44] [2,4,5] (fun j s => ∃ (u : Unit), j = 0 ∧ s = { n := 64, tm := [(2, .lp 2 0), (4, .lp 4 0), (5, .lp 5 0), (42, .v (.slice []) none), (43, .v (.int .i64 0) none), (44, .v (.int .i64 0) none)], bx := [(2, [.str n, .slice [], .slice [], .str t.name, .slice (t.args.map encTy), .int .i64 t.pos, .int .i64 p]), (4, [.str [], .slice [], .slice [], .str [], .slice [], .int .i64 0, .int .i64 0]), (5, [.str n, .slice [], .slice [], .str t.name, .slice (t.args.map encTy), .int .i64 t.pos, .int .i64 p])], tb := [], sh := [], hint := [] }) (0) (by first | rfl | simp) ?_ ?_
 exact ⟨(), rfl, by simp⟩
 rintro j s ⟨u, rfl, rfl⟩ K5 hK5
 refine sr fun Z z => ?_
 simp
 repeat refine sg ?_
 refine z _ ?_
 clear z Z
 refine AT_seq_k fun K6 hK6 => ?_
 refine cF (by simp) ?_
 refine AT_exit ?_
 try simp only [nrm, reduceIte, Nat.reduceEqDiff]
 refine hK4 _ ?_
 refine sr fun Z z => ?_
 simp
 repeat refine sg ?_
 refine z _ ?_
 clear z Z
 refine AT_ret ?_
 simp [Tryz.f85]

theorem c_bind_Subst_z (n : Str) (t : Ty) (p : Int) (hw : wt t ≤ 1099511627776) : Valid Tryz.prog (G0 g rnd) 64 [.agg [.str n, .slice [], .slice [], .str t.name, .slice (t.args.map encTy), .int .i64 t.pos, .int .i64 p], .slice [], .slice []] (.agg [.str n, .slice [], .slice [], .str t.name, .slice (t.args.map encTy), .int .i64 t.pos, .int .i64 p]) := by

 refine valid_of [(200004, 0), (200005, 0)] Tryz.func64 rfl (by kernel_rfl) ?_
 refine sr fun Z z => ?_
 simp [Tryz.f64]
 refine z _ ?_
 clear z Z
 refine sr fun Z z => ?_
 simp
 repeat refine sg ?_
 refine RVn_call (c_bind_mapped_z g rnd n t p 86 [.ro [.slice []], .ro [.slice []]] (c_bind_Subst_1_z g rnd t hw)) ?_
 simp
 repeat refine sg ?_
 refine z _ ?_
 clear z Z
 refine AT_ret ?_
 simp [Tryz.f64]

theorem c_bind_Canon_z (n : Str) (t : Ty) (p : Int) (hw : wt t ≤ 1099511627776) : Valid Tryz.prog (G0 g rnd) 42 [.agg [.str n, .slice [], .slice [], .str t.name, .slice (t.args.map encTy), .int .i64 t.pos, .int .i64 p]] (.agg [.str n, .slice [], .slice [], .str t.name, .slice (t.args.map encTy), .int .i64 t.pos, .int .i64 p]) := by

 refine valid_of [] Tryz.func42 rfl (by kernel_rfl) ?_
 refine sr fun Z z => ?_
 simp [Tryz.f42]
 refine z _ ?_
 clear z Z
 refine sr fun Z z => ?_
 simp
 refine z _ ?_
 clear z Z
 refine AT_seq_k fun K1 hK1 => ?_
 refine sr fun Z z => ?_
 simp
 repeat refine sg ?_
 refine z _ ?_
 clear z Z
 refine AT_block ?_
 refine AT_loop_q [1,2,3,10,11] [1,2] (fun j s => ∃ (u : Unit), j = 0 ∧ s = { n := 54, tm := [(1, .lp 1 0), (2, .lp 2 0), (3, .v (.slice []) none), (10, .v (.int .i64 0) none), (11, .v (.int .i64 0) none)], bx := [(1, [.str n, .slice [], .slice [], .str t.name, .slice (t.args.map encTy), .int .i64 t.pos, .int .i64 p]), (2, [.str [], .slice [], .slice [], .str [], .slice [], .int .i64 0, .int .i64 0])], tb := [], sh := [], hint := [] }) (0) (by first | rfl | simp) ?_ ?_
 exact ⟨(), rfl, by simp⟩
 rintro j s ⟨u, rfl, rfl⟩ K2 hK2
 refine sr fun Z z => ?_
 simp
 repeat refine sg ?_
 refine z _ ?_
 clear z Z
 refine AT_seq_k fun K3 hK3 => ?_
 refine cF (by simp) ?_
 refine AT_exit ?_
 try simp only [nrm, reduceIte, Nat.reduceEqDiff]
 refine hK1 _ ?_
 refine AT_seq_draw_m true [] Pt.mixed (by kernel_rfl) ⟨by simp [Im, okP, AS.get, look, TV.strip], fun _ => NoC_of (by simp [isCl])⟩ fun Z z => ?_
 simp
 repeat refine sg ?_
 refine RVdn_call (c_bind_Names_z g rnd) ?_
 simp
 repeat refine sg ?_
 refine RVdn_call (c_bind_Subst_z g rnd n t p hw) ?_
 simp
 repeat refine sg ?_
 refine z _ ?_
 clear z Z
 refine AT_seq_k fun K4 hK4 => ?_
 refine sr fun Z z => ?_
 simp
 repeat refine sg ?_
 refine z _ ?_
 clear z Z
 refine AT_block ?_
 refine AT_loop_q [2,5,29,30] [2,5] (fun j s => ∃ (u : Unit), j = 0 ∧ s = { n := 54, tm := [(2, .lp 2 0), (5, .lp 5 0), (29, .v (.int .i64 0) none), (30, .v (.int .i64 0) none)], bx := [(2, [.str [], .slice [], .slice [], .str [], .slice [], .int .i64 0, .int .i64 0]), (5, [.str n, .slice [], .slice [], .str t.name, .slice (t.args.map encTy), .int .i64 t.pos, .int .i64 p])], tb := [], sh := [], hint := [] }) (0) (by first | rfl | simp) ?_ ?_
 exact ⟨(), rfl, by simp⟩
 rintro j s ⟨u, rfl, rfl⟩ K5 hK5
 refine sr fun Z z => ?_
 simp
 repeat refine sg ?_
 refine z _ ?_
 clear z Z
 refine AT_seq_k fun K6 hK6 => ?_
 refine cF (by simp) ?_
 refine AT_exit ?_
 try simp only [nrm, reduceIte, Nat.reduceEqDiff]
 refine hK4 _ ?_
 refine AT_seq_k fun K7 hK7 => ?_
 refine sr fun Z z => ?_
 simp
 repeat refine sg ?_
 refine z _ ?_
 clear z Z
 refine AT_block ?_
 refine AT_loop_q [2,5,43,44] [2,5] (fun j s => ∃ (u : Unit), j = 0 ∧ s = { n := 54, tm := [(2, .lp 2 0), (5, .lp 5 0), (43, .v (.int .i64 0) none), (44, .v (.int .i64 0) none)], bx := [(2, [.str [], .slice [], .slice [], .str [], .slice [], .int .i64 0, .int .i64 0]), (5, [.str n, .slice [], .slice [], .str t.name, .slice (t.args.map encTy), .int .i64 t.pos, .int .i64 p])], tb := [], sh := [], hint := [] }) (0) (by first | rfl | simp) ?_ ?_
 exact ⟨(), rfl, by simp⟩
 rintro j s ⟨u, rfl, rfl⟩ K8 hK8
 refine sr fun Z z => ?_
 simp
 repeat refine sg ?_
 refine z _ ?_
 clear z Z
 refine AT_seq_k fun K9 hK9 => ?_
 refine cF (by simp) ?_
 refine AT_exit ?_
 try simp only [nrm, reduceIte, Nat.reduceEqDiff]
 refine hK7 _ ?_
 refine sr fun Z z => ?_
 simp
 repeat refine sg ?_
 refine z _ ?_
 clear z Z
 refine AT_ret ?_
 simp [Tryz.f42]

theorem c_mangle_Dummy_z (n : Str) (t : Ty) (p : Int) (hn : n.length ≤ 100000) (hw : wt t ≤ 100000) (hml : ∃ m, g 4 = some [.int .i64 m]) (htab : g 3 = some pow10A) (hers : ∃ x, g 1 = some [.iface 159 x]) (herr : ∃ x, g 2 = some [.iface 159 x]) : Valid Tryz.prog (G0 g rnd) 19 [.agg [.str n, .slice [], .slice [], .str t.name, .slice (t.args.map encTy), .int .i64 t.pos, .int .i64 p]] (.str (escS n ++ [95, 83] ++ mgT t ++ [95, 69])) := by
 have hel := escS_len n
 have hml2 := mgT_len t
 refine valid_of [] Tryz.func19 rfl (by kernel_rfl) ?_
 refine sr fun Z z => ?_
 simp [Tryz.f19]
 refine z _ ?_
 clear z Z
 refine sr fun Z z => ?_
 simp
 repeat refine sg ?_
 refine RVn_call (c_bind_Canon_z g rnd n t p (by omega)) ?_
 simp
 repeat refine sg ?_
 refine z _ ?_
 clear z Z
 refine sr fun Z z => ?_
 simp
 repeat refine sg ?_
 refine RVn_call (c_mangle_escape g rnd n (by omega) hml) ?_
 simp
 repeat refine sg ?_
 refine z _ ?_
 clear z Z
 refine AT_seq_k fun K1 hK1 => ?_
 refine sr fun Z z => ?_
 simp
 repeat refine sg ?_
 refine z _ ?_
 clear z Z
 refine AT_block ?_
 refine AT_loop_q [3,4,16,17,18] [3] (fun j s => ∃ (u : Unit), j = 0 ∧ s = { n := 49, tm := [(3, .lp 3 0), (4, .v (.str (escS n ++ [95, 83])) none), (16, .v (.slice []) none), (17, .v (.int .i64 0) none), (18, .v (.int .i64 0) none)], bx := [(3, [.str n, .slice [], .slice [], .str t.name, .slice (t.args.map encTy), .int .i64 t.pos, .int .i64 p])], tb := [], sh := [], hint := [] }) (0) (by first | rfl | simp) ?_ ?_
 exact ⟨(), rfl, by simp⟩
 rintro j s ⟨u, rfl, rfl⟩ K2 hK2
 refine sr fun Z z => ?_
 simp
 repeat refine sg ?_
 refine z _ ?_
 clear z Z
 refine AT_seq_k fun K3 hK3 => ?_
 refine cF (by simp) ?_
 refine AT_exit ?_
 try simp only [nrm, reduceIte, Nat.reduceEqDiff]
 refine hK1 _ ?_
 refine AT_seq_k fun K4 hK4 => ?_
 refine sr fun Z z => ?_
 simp
 repeat refine sg ?_
 refine z _ ?_
 clear z Z
 refine AT_block ?_
 refine AT_loop_q [3,4,30,31,32] [3] (fun j s => ∃ (u : Unit), j = 0 ∧ s = { n := 49, tm := [(3, .lp 3 0), (4, .v (.str (escS n ++ [95, 83])) none), (30, .v (.slice []) none), (31, .v (.int .i64 0) none), (32, .v (.int .i64 0) none)], bx := [(3, [.str n, .slice [], .slice [], .str t.name, .slice (t.args.map encTy), .int .i64 t.pos, .int .i64 p])], tb := [], sh := [], hint := [] }) (0) (by first | rfl | simp) ?_ ?_
 exact ⟨(), rfl, by simp⟩
 rintro j s ⟨u, rfl, rfl⟩ K5 hK5
 refine sr fun Z z => ?_
 simp
 repeat refine sg ?_
 refine z _ ?_
 clear z Z
 refine AT_seq_k fun K6 hK6 => ?_
 refine cF (by simp) ?_
 refine AT_exit ?_
 try simp only [nrm, reduceIte, Nat.reduceEqDiff]
 refine hK4 _ ?_
 refine sr fun Z z => ?_
 simp
 repeat refine sg ?_
 refine RVn_call ((by have h := c_mangle_Type g rnd hml htab hers herr t hw; simp only [encTy_def] at h; exact h)) ?_
 simp
 repeat refine sg ?_
 refine z _ ?_
 clear z Z
 refine AT_ret ?_
 simp [Tryz.f19]

end Go.Proofs.YtocmdbojefgpbaaGreatDoor
end
