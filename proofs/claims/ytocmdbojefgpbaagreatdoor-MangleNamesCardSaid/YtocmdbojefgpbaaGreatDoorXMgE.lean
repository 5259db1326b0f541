import Derived.Test.YtocmdbojefgpbaaGreatDoorPt
import Derived.Test.YtocmdbojefgpbaaGreatDoorPvPb
import Derived.Test.YtocmdbojefgpbaaGreatDoorPvY
import Derived.Test.YtocmdbojefgpbaaGreatDoorPvKb
import Derived.Test.YtocmdbojefgpbaaGreatDoorXLbJ
import Derived.Test.YtocmdbojefgpbaaGreatDoorXNaC
import Derived.Test.YtocmdbojefgpbaaGreatDoorXTyI
import Derived.Test.YtocmdbojefgpbaaGreatDoorXShelf
import Derived.Test.YtocmdbojefgpbaaGreatDoorPvKd
import Derived.Test.YtocmdbojefgpbaaGreatDoorPvOc
import Derived.Test.YtocmdbojefgpbaaGreatDoorPvOk
import Derived.Test.YtocmdbojefgpbaaGreatDoorXExD
section
/- Names of instances. -/
set_option linter.all false
set_option maxHeartbeats 1000000
set_option maxRecDepth 10000
namespace Go.Proofs.YtocmdbojefgpbaaGreatDoor
open Go Go.Pv
variable (g : Nat → Option (List AV)) (rnd : Bool)

theorem intCell {G : Nat} {gl : Gl} {lim : Lim} {w : World} {m : Int} (h : gl.g G = some [.int .i64 m]) (hgl : GlOk gl lim w.heap) : w.cell? ⟨G, 0, none⟩ = some (.int .i64 m) := by
  obtain ⟨b, off, vs, hp, hv, hc⟩ := Rep.ro_iff.1 (hgl G _ h).1
  simp only [Value.pointer.injEq, Option.some.injEq, Addr.mk.injEq, and_true] at hp
  obtain ⟨rfl, rfl⟩ := hp
  obtain ⟨u, hu, hr⟩ := hv.get (j := 0) (x := .int .i64 m) rfl
  have h2 := (hc 0 u hu).2
  have h3 := rep_int hr
  subst h3
  rw [cell?_eq]; exact h2

theorem c_strings_ReplaceAll (s : Str) (hs : s.length ≤ 1000000) (hml : ∃ m, g 4 = some [.int .i64 m]) : Valid Tryz.prog (G0 g rnd) 54 [.str s, .str [95], .str [95, 95]] (.str (escS s)) := by
  refine valid_callsG (by kernel_rfl) fun lim w cargs hgl hargs => ?_
  obtain ⟨v, u, x, rfl⟩ : ∃ v u x, cargs = [v, u, x] := by
    have := hargs.1
    match cargs, this with
    | [v, u, x], _ => exact ⟨v, u, x, rfl⟩
  have hv := rep_str hargs.head
  have hu := rep_str hargs.tail.head
  have hx := rep_str hargs.tail.tail.head
  subst hv; subst hu; subst hx
  obtain ⟨m, hm⟩ := hml
  have hc := count_le (s.length + 1) s
  refine (Tryz.strings_ReplaceAll ⟨s.toArray⟩ ⟨#[95]⟩ ⟨#[95, 95]⟩ m w (by simp [ByteArray.size]; omega) (intCell hm hgl) (by decide) ?_).mono fun e w2 => ?_
  · show s.toArray.size + Lib.count s.toArray.toList [95] * 2 ≤ _
    have h2 : Lib.count s [95] ≤ s.length + 1 := hc
    simp
    omega
  · rintro ⟨rfl, hb⟩
    exact ⟨_, rfl, hb, fun _ _ => by rw [show Lib.replaceAll s.toArray.toList [95] [95, 95] = escS s by simp [esc_replaceAll]]; exact .str _⟩

@[simp] theorem rows_tm (l : List Ty) (k : Nat) : Pv.Rows 1 (List.take k (l.map (encS ∘ mgT))) := Rows_take (fun r hr => by obtain ⟨x, _, rfl⟩ := List.mem_map.1 hr; exact ⟨rfl, rfl⟩) k

theorem c_mangle_escape (s : Str) (hs : s.length ≤ 1000000) (hml : ∃ m, g 4 = some [.int .i64 m]) : Valid Tryz.prog (G0 g rnd) 33 [.str s] (.str (escS s)) := by

 refine valid_of [] Tryz.func33 rfl (by kernel_rfl) ?_
 refine sr fun Z z => ?_
 simp [Tryz.f33]
 refine z _ ?_
 clear z Z
 refine sr fun Z z => ?_
 simp
 repeat refine sg ?_
 refine RVn_call (c_strings_ReplaceAll g rnd s hs hml) ?_
 simp
 repeat refine sg ?_
 refine z _ ?_
 clear z Z
 refine AT_ret ?_
 simp [Tryz.f33]

theorem c_mangle_list (l : List Ty) (hl : wts l ≤ 100000) (hs : ∀ t ∈ l, Valid Tryz.prog (G0 g rnd) 10 [.agg (encTy t)] (.str (mgT t))) : Valid Tryz.prog (G0 g rnd) 34 [.slice (l.map encTy)] (.str (brM (l.map mgT))) := by
 have hln := wts_len l
 have hml := mgs_len l
 refine valid_of [(3, 9)] Tryz.func34 rfl (by kernel_rfl) ?_
 refine sr fun Z z => ?_
 simp [row_map, Tryz.f34]
 refine z _ ?_
 clear z Z
 refine AT_seq_k fun K1 hK1 => ?_
 refine sr fun Z z => ?_
 simp [row_map]
 repeat refine sg ?_
 refine z _ ?_
 clear z Z
 refine AT_cond (g := none) rfl (fun hb8 => ?_) (fun hb8 => ?_)
 try simp [row_map] at hb8
 refine sr fun Z z => ?_
 simp [row_map, hb8]
 refine z _ ?_
 clear z Z
 refine AT_ret ?_
 simp [row_map, Tryz.f34]
 first
 | (have h0 : l = [] := by simpa using hb8
    subst h0; rfl)
 | (have h0 : l ≠ [] := by simpa using hb8
    simp [brM, h0])
 try simp [row_map] at hb8
 refine AT_skip ?_
 try simp only [nrm, reduceIte, Nat.reduceEqDiff]
 refine hK1 _ ?_
 refine sr fun Z z => ?_
 simp [row_map, hb8]
 refine z _ ?_
 clear z Z
 refine AT_seq_k fun K2 hK2 => ?_
 refine sr fun Z z => ?_
 simp [row_map, hb8]
 repeat refine sg ?_
 refine z _ ?_
 clear z Z
 refine AT_block ?_
 refine AT_loop_q [3,9,10,11] [] (fun j s => ∃ k, k ≤ l.length ∧ j = l.length - k ∧ s = { n := 25, tm := [(3, .v (.slice (((l.take k).map mgT).map encS)) (some (3, 9))), (9, .v (.slice (l.map encTy)) none), (10, .v (.int .i64 l.length) none), (11, .v (.int .i64 k) none)], bx := [], tb := [], sh := [], hint := [(3, 9)] }) (l.length) (by first | rfl | simp) ?_ ?_
 exact ⟨0, by simp⟩
 rintro j s ⟨k, hk, rfl, rfl⟩ K3 hK3
 refine sr fun Z z => ?_
 simp [row_map, hb8]
 repeat refine sg ?_
 refine z _ ?_
 clear z Z
 refine AT_seq_k fun K4 hK4 => ?_
 refine AT_cond (g := none) rfl (fun hb12 => ?_) (fun hb12 => ?_)
 try simp [row_map, hb8] at hb12
 refine AT_skip ?_
 try simp only [nrm, reduceIte, Nat.reduceEqDiff]
 refine hK4 _ ?_
 refine AT_seq_k fun K5 hK5 => ?_
 refine AT_block ?_
 refine sr fun Z z => ?_
 simp [row_map, hb8, hb12]
 repeat refine sg ?_
 refine z _ ?_
 clear z Z
 refine AT_region_q fun Z z => ?_
 simp [row_map, hb8, hb12]
 repeat refine sg ?_
 refine RVn_call (hs l[k] (by simp)) ?_
 simp [row_map, hb8, hb12]
 repeat refine sg ?_
 refine z _ ?_
 clear z Z
 try simp only [nrm, reduceIte, Nat.reduceEqDiff]
 refine hK5 _ ?_
 refine AT_region_q fun Z z => ?_
 simp [row_map, hb8, hb12]
 repeat refine sg ?_
 refine z _ ?_
 clear z Z
 try simp only [nrm, reduceIte, Nat.reduceEqDiff]
 refine hK3 _ (by first | rfl | simp) (l.length - (k+1)) (by omega) ?_
 have hs2 := take_map_succ (encS ∘ mgT) l k hb12
 exact ⟨k+1, by omega, by omega, by simp [hs2, encS]⟩
 try simp [row_map, hb8] at hb12
 refine AT_exit ?_
 try simp only [nrm, reduceIte, Nat.reduceEqDiff]
 refine hK2 _ ?_
 refine sr fun Z z => ?_
 have hkl : k = l.length := by omega
 subst hkl
 have htk : List.take l.length (l.map (encS ∘ mgT)) = (l.map mgT).map encS := by rw [List.map_map]; exact List.take_of_length_le (by simp)
 simp [row_map, htk, hb8, hb12]
 repeat refine sg ?_
 refine RVn_call ((by have h := c_strings_Join g rnd (l.map mgT) [95, 67] (by simp; omega) (by omega); rw [List.map_map] at h; exact h)) ?_
 simp [row_map, htk, hb8, hb12]
 repeat refine sg ?_
 refine z _ ?_
 clear z Z
 refine AT_ret ?_
 simp [row_map, Tryz.f34]
 first
 | (have h0 : l = [] := by simpa using hb8
    subst h0; rfl)
 | (have h0 : l ≠ [] := by simpa using hb8
    simp [brM, h0])

theorem c_mangle_Type (hml : ∃ m, g 4 = some [.int .i64 m]) (htab : g 3 = some pow10A) (hers : ∃ x, g 1 = some [.iface 159 x]) (herr : ∃ x, g 2 = some [.iface 159 x]) : ∀ t : Ty, wt t ≤ 100000 → Valid Tryz.prog (G0 g rnd) 10 [.agg (encTy t)] (.str (mgT t)) := by
 intro t
 induction t using Ty.ind with
 | h n ts p ih =>
 intro hw
 have hw2 : n.length + 1 + wts ts ≤ 100000 := by simpa [wt] using hw
 have hln := wts_len ts
 have hel := escS_len n
 have hbl := brM_len ts
 have hmk := mgT_mk n ts p
 refine valid_of [] Tryz.func10 rfl (by kernel_rfl) ?_
 refine sr fun Z z => ?_
 simp [row_map, Tryz.f10]
 refine z _ ?_
 clear z Z
 refine AT_seq_k fun K1 hK1 => ?_
 obtain ⟨o9, ho⟩ : ∃ o, locOf n = o := ⟨_, rfl⟩
 cases o9 with
 | none => ?_
 | some k9 => ?_
 have hli := locR_none ho
 have hi := ho
 refine sr fun Z z => ?_
 simp [row_map, hli, hi]
 repeat refine sg ?_
 refine RVn_call (c_name_Index g rnd n (by omega) htab hers herr) ?_
 simp [row_map, hli, hi]
 repeat refine sg ?_
 refine z _ ?_
 clear z Z
 refine sr fun Z z => ?_
 simp [row_map, hli, hi]
 repeat refine sg ?_
 refine z _ ?_
 clear z Z
 refine cF (by simp [hli, hi]) ?_
 refine AT_skip ?_
 try simp only [nrm, reduceIte, Nat.reduceEqDiff]
 refine hK1 _ ?_
 refine AT_seq_draw Pt.mixed (by kernel_rfl) fun Z z => ?_
 simp [row_map, hli, hi]
 repeat refine sg ?_
 refine RVdn_call (c_mangle_escape g rnd n (by omega) hml) ?_
 simp [row_map, hli, hi]
 repeat refine sg ?_
 refine RVdn_call (c_mangle_list g rnd ts (by omega) (fun t ht => ih t ht (Nat.le_trans (wts_mem ht) (by omega)))) ?_
 simp [row_map, hli, hi]
 repeat refine sg ?_
 refine z _ ?_
 clear z Z
 refine AT_ret ?_
 simp [row_map, Tryz.f10]
 first
 | (· rw [hmk, ho]; simp [h0])
 | (· rw [hmk, ho]; simp)
 have hli := locR_of ho
 have hlj := locI_of ho
 have hi := ho
 have hk9 := (locOf_some ho).2
 have hdl := decD_len 18 k9 (pow19 (by omega))
 by_cases h0 : ts = []
 have h0b : ((ts.length : Int) == 0) = true := by simpa using h0
 refine sr fun Z z => ?_
 simp [row_map, hli, hlj, hi, h0b]
 repeat refine sg ?_
 refine RVn_call (c_name_Index g rnd n (by omega) htab hers herr) ?_
 simp [row_map, hli, hlj, hi, h0b]
 repeat refine sg ?_
 refine z _ ?_
 clear z Z
 refine sr fun Z z => ?_
 simp [row_map, hli, hlj, hi, h0b]
 repeat refine sg ?_
 refine z _ ?_
 clear z Z
 refine cT (by simp [hli, hlj, hi, h0b]) ?_
 refine sr fun Z z => ?_
 simp [row_map, hli, hlj, hi, h0b]
 repeat refine sg ?_
 refine RVn_call ((by have h := c_strconv_Itoa g rnd (k9 : Int) (by omega) (by omega) htab; rw [itoa_decD (by omega)] at h; simpa using h)) ?_
 simp [row_map, hli, hlj, hi, h0b]
 repeat refine sg ?_
 refine z _ ?_
 clear z Z
 refine AT_ret ?_
 simp [row_map, Tryz.f10]
 first
 | (· rw [hmk, ho]; simp [h0])
 | (· rw [hmk, ho]; simp)
 have h0b : ((ts.length : Int) == 0) = false := by simpa using h0
 refine sr fun Z z => ?_
 simp [row_map, hli, hlj, hi, h0b]
 repeat refine sg ?_
 refine RVn_call (c_name_Index g rnd n (by omega) htab hers herr) ?_
 simp [row_map, hli, hlj, hi, h0b]
 repeat refine sg ?_
 refine z _ ?_
 clear z Z
 refine sr fun Z z => ?_
 simp [row_map, hli, hlj, hi, h0b]
 repeat refine sg ?_
 refine z _ ?_
 clear z Z
 refine cF (by simp [hli, hlj, hi, h0b]) ?_
 refine AT_skip ?_
 try simp only [nrm, reduceIte, Nat.reduceEqDiff]
 refine hK1 _ ?_
 refine AT_seq_draw Pt.mixed (by kernel_rfl) fun Z z => ?_
 simp [row_map, hli, hlj, hi, h0b]
 repeat refine sg ?_
 refine RVdn_call (c_mangle_escape g rnd n (by omega) hml) ?_
 simp [row_map, hli, hlj, hi, h0b]
 repeat refine sg ?_
 refine RVdn_call (c_mangle_list g rnd ts (by omega) (fun t ht => ih t ht (Nat.le_trans (wts_mem ht) (by omega)))) ?_
 simp [row_map, hli, hlj, hi, h0b]
 repeat refine sg ?_
 refine z _ ?_
 clear z Z
 refine AT_ret ?_
 simp [row_map, Tryz.f10]
 first
 | (· rw [hmk, ho]; simp [h0])
 | (· rw [hmk, ho]; simp)

end Go.Proofs.YtocmdbojefgpbaaGreatDoor
end

section
/- Names of instances: the reference. -/
set_option linter.all false
set_option maxHeartbeats 1000000
set_option maxRecDepth 10000
namespace Go.Proofs.YtocmdbojefgpbaaGreatDoor
open Go Go.Pv
variable (g : Nat → Option (List AV)) (rnd : Bool)

theorem c_mangle_Method (m : Str) (l : List Ty) (hm : m.length ≤ 100000) (hl : wts l ≤ 100000) (hml : ∃ m, g 4 = some [.int .i64 m]) (htab : g 3 = some pow10A) (hers : ∃ x, g 1 = some [.iface 159 x]) (herr : ∃ x, g 2 = some [.iface 159 x]) : Valid Tryz.prog (G0 g rnd) 20 [.str m, .slice (l.map encTy)] (.str (mgM m l)) := by
 have hel := escS_len m
 have hbl := brM_len l
 refine valid_of [] Tryz.func20 rfl (by kernel_rfl) ?_
 refine sr fun Z z => ?_
 simp [Tryz.f20]
 refine z _ ?_
 clear z Z
 refine sr fun Z z => ?_
 simp
 repeat refine sg ?_
 refine RVn_call (c_mangle_escape g rnd m (by omega) hml) ?_
 simp
 repeat refine sg ?_
 refine RVn_call (c_mangle_list g rnd l hl (fun t ht => c_mangle_Type g rnd hml htab hers herr t (Nat.le_trans (wts_mem ht) hl))) ?_
 simp
 repeat refine sg ?_
 refine z _ ?_
 clear z Z
 refine AT_ret ?_
 simp [Tryz.f20]
 rfl

theorem c_mangle_Plain (t : Ty) (hw : wt t ≤ 100000) (hml : ∃ m, g 4 = some [.int .i64 m]) (htab : g 3 = some pow10A) (hers : ∃ x, g 1 = some [.iface 159 x]) (herr : ∃ x, g 2 = some [.iface 159 x]) : Valid Tryz.prog (G0 g rnd) 12 [.agg (encTy t)] (.agg (encTy (.mk (mgT t) [] t.pos))) := by
 obtain ⟨n, ts, p⟩ := t
 refine valid_of [] Tryz.func12 rfl (by kernel_rfl) ?_
 refine sr fun Z z => ?_
 simp [encTy_mk, Ty.pos, Tryz.f12]
 refine z _ ?_
 clear z Z
 refine AT_seq_draw Pt.mixed (by kernel_rfl) fun Z z => ?_
 simp [encTy_mk, Ty.pos]
 repeat refine sg ?_
 refine RVdn_call ((by have h := c_mangle_Type g rnd hml htab hers herr (.mk n ts p) hw; simp only [encTy_mk] at h; exact h)) ?_
 simp [encTy_mk, Ty.pos]
 repeat refine sg ?_
 refine z _ ?_
 clear z Z
 refine AT_ret ?_
 simp [encTy_mk, Ty.pos, Tryz.f12]

theorem c_mangle_Top : Valid Tryz.prog (G0 g rnd) 25 [] (.str [84, 111, 112, 95, 84]) := by

 refine valid_of [] Tryz.func25 rfl (by kernel_rfl) ?_
 refine sr fun Z z => ?_
 simp [Tryz.f25]
 refine z _ ?_
 clear z Z
 refine sr fun Z z => ?_
 simp
 refine z _ ?_
 clear z Z
 refine AT_ret ?_
 simp [Tryz.f25]

theorem c_ref20x_Right : ∀ t : Ty, wt t ≤ 100000 → Valid Tryz.prog (G0 g rnd) 9 [.agg (encTy t)] (.bool (r20 t)) := by
 intro t
 induction t using Ty.ind with
 | h n ts p ih =>
 intro hw
 have hw2 : n.length + 1 + wts ts ≤ 100000 := by simpa [wt] using hw
 have hln := wts_len ts
 have hmk := r20_mk n ts p
 refine valid_of [] Tryz.func9 rfl (by kernel_rfl) ?_
 refine sr fun Z z => ?_
 simp [row_map, Tryz.f9]
 refine z _ ?_
 clear z Z
 refine AT_seq_k fun K1 hK1 => ?_
 obtain ⟨o9, ho⟩ : ∃ o, locOf n = o := ⟨_, rfl⟩
 cases o9 with
 | none => ?_
 | some k9 => ?_
 have hli := locR_none ho
 have hi := ho
 refine sr fun Z z => ?_
 simp [row_map, hli]
 repeat refine sg ?_
 refine RVn_call (c_ref01x_Index g rnd n (by omega)) ?_
 simp [row_map, hli]
 repeat refine sg ?_
 refine z _ ?_
 clear z Z
 refine cF (by simp [hli]) ?_
 refine AT_skip ?_
 try simp only [nrm, reduceIte, Nat.reduceEqDiff]
 refine hK1 _ ?_
 refine AT_seq_k fun K2 hK2 => ?_
 refine sr fun Z z => ?_
 simp [row_map, hli]
 refine z _ ?_
 clear z Z
 refine AT_block ?_
 refine AT_loop_q [1,3] [1] (fun j s => ∃ k, k ≤ ts.length ∧ ts.all r20 = (ts.drop k).all r20 ∧ j = ts.length - k ∧ s = { n := 29, tm := [(1, .lp 1 0), (3, .v (.int .i64 k) none)], bx := [(1, encTy (.mk n ts p))], tb := [], sh := [], hint := [] }) (ts.length) (by first | rfl | simp) ?_ ?_
 exact ⟨0, by simp⟩
 rintro j s ⟨k, hk, hc, rfl, rfl⟩ K3 hK3
 refine AT_seq_k fun K4 hK4 => ?_
 refine sr fun Z z => ?_
 simp [row_map, hli]
 repeat refine sg ?_
 refine z _ ?_
 clear z Z
 refine AT_cond (g := none) rfl (fun hb16 => ?_) (fun hb16 => ?_)
 try simp [row_map, hli] at hb16
 refine AT_skip ?_
 try simp only [nrm, reduceIte, Nat.reduceEqDiff]
 refine hK4 _ ?_
 refine AT_seq_k fun K5 hK5 => ?_
 refine AT_block ?_
 refine sr fun Z z => ?_
 have hda := List.drop_eq_getElem_cons hb16
 simp [row_map, hli, hb16]
 repeat refine sg ?_
 refine RVn_call (ih ts[k] (by simp) (by have := wts_mem (l := ts) (t := ts[k]) (by simp); omega)) ?_
 simp [row_map, hli, hb16]
 repeat refine sg ?_
 refine z _ ?_
 clear z Z
 refine AT_cond (g := none) rfl (fun hb25 => ?_) (fun hb25 => ?_)
 try simp [row_map, hli, hb16] at hb25
 refine sr fun Z z => ?_
 simp [row_map, hli, hb16, hb25]
 refine z _ ?_
 clear z Z
 refine AT_ret ?_
 simp [row_map, Tryz.f9]
 first
 | (rw [hmk, ho, hc, hda, List.all_cons, hb25]; rfl)
 | (· rw [hmk, ho, hc, List.drop_eq_nil_of_le hb16]; simp)
 | (· rw [hmk, ho]; simp)
 | (· rw [hmk, ho]; cases ts <;> simp)
 try simp [row_map, hli, hb16] at hb25
 refine AT_skip ?_
 try simp only [nrm, reduceIte, Nat.reduceEqDiff]
 refine hK5 _ ?_
 refine AT_region_q fun Z z => ?_
 simp [row_map, hli, hb16, hb25]
 repeat refine sg ?_
 refine z _ ?_
 clear z Z
 try simp only [nrm, reduceIte, Nat.reduceEqDiff]
 refine hK3 _ (by first | rfl | simp) (ts.length - (k+1)) (by omega) ?_
 refine ⟨k+1, by omega, ?_, by omega, by simp⟩
 rw [hc, hda, List.all_cons, hb25, Bool.true_and]
 try simp [row_map, hli] at hb16
 refine AT_exit ?_
 try simp only [nrm, reduceIte, Nat.reduceEqDiff]
 refine hK2 _ ?_
 refine sr fun Z z => ?_
 simp [row_map, hli, hb16]
 repeat refine sg ?_
 refine RVn_call (c_ref01x_Is g rnd n (by omega)) ?_
 simp [row_map, hli, hb16]
 repeat refine sg ?_
 refine z _ ?_
 clear z Z
 refine AT_ret ?_
 simp [row_map, Tryz.f9]
 first
 | (rw [hmk, ho, hc, hda, List.all_cons, hb25]; rfl)
 | (· rw [hmk, ho, hc, List.drop_eq_nil_of_le hb16]; simp)
 | (· rw [hmk, ho]; simp)
 | (· rw [hmk, ho]; cases ts <;> simp)
 have hli := locR_of ho
 have hi := ho
 refine sr fun Z z => ?_
 simp [row_map, hli]
 repeat refine sg ?_
 refine RVn_call (c_ref01x_Index g rnd n (by omega)) ?_
 simp [row_map, hli]
 repeat refine sg ?_
 refine z _ ?_
 clear z Z
 refine cT (by simp [hli]) ?_
 refine sr fun Z z => ?_
 simp [row_map, hli]
 repeat refine sg ?_
 refine z _ ?_
 clear z Z
 refine AT_ret ?_
 simp [row_map, Tryz.f9]
 first
 | (rw [hmk, ho, hc, hda, List.all_cons, hb25]; rfl)
 | (· rw [hmk, ho, hc, List.drop_eq_nil_of_le hb16]; simp)
 | (· rw [hmk, ho]; simp)
 | (· rw [hmk, ho]; cases ts <;> simp)

end Go.Proofs.YtocmdbojefgpbaaGreatDoor
end

section
/- Names of instances: expressions. -/
set_option linter.all false
set_option maxHeartbeats 1000000
set_option maxRecDepth 10000
namespace Go.Proofs.YtocmdbojefgpbaaGreatDoor
open Go Go.Pv
variable (g : Nat → Option (List AV)) (rnd : Bool)

theorem c_mangle_Expr (hml : ∃ m, g 4 = some [.int .i64 m]) (htab : g 3 = some pow10A) (hers : ∃ x, g 1 = some [.iface 159 x]) (herr : ∃ x, g 2 = some [.iface 159 x]) : ∀ e : Exp, wtE e ≤ 100000 → Valid Tryz.prog (G0 g rnd) 28 [.agg (encE e)] (.agg (encE (mgE e))) := by
 intro e
 induction e using Exp.ind with
 | h kd n t ta l p ih =>
 intro hw
 have hw2 : n.length + 1 + wt t + wts ta + wtEs l ≤ 100000 := by simpa [wtE_mk] using hw
 have hln := wtEs_len l
 have hla := wts_len ta
 refine valid_of [(103006, 49)] Tryz.func28 rfl (by kernel_rfl) ?_
 refine sr fun Z z => ?_
 simp [row_map, encE_mk, encTy_def, Tryz.f28]
 refine z _ ?_
 clear z Z
 refine sr fun Z z => ?_
 simp [row_map, encE_mk, encTy_def]
 repeat refine sg ?_
 refine RVn_call ((by have h := c_expr_Clone g rnd (.mk kd n t ta l p) (by omega); simp only [encE_mk] at h; exact h)) ?_
 simp [row_map, encE_mk, encTy_def]
 repeat refine sg ?_
 refine z _ ?_
 clear z Z
 refine AT_seq_regionX ?_
 refine Or.inl ?_
 simp [nextV, orV]
 refine RVx_spec (spec_storeNil (k := 3) (off := 6) rfl rfl rfl rfl rfl (by kernel_rfl) (by kernel_rfl) (by simp) rfl) ?_
 rintro _ rfl
 refine AT_str (Gives.openN 3 6 49 rfl rfl (by simp)) ?_
 simp only [List.set_cons_succ, List.set_cons_zero]
 refine AT_seq_k fun K1 hK1 => ?_
 refine sr fun Z z => ?_
 simp [row_map, encE_mk, encTy_def]
 repeat refine sg ?_
 refine z _ ?_
 clear z Z
 refine AT_block ?_
 refine AT_loop_q [1,2,3,10,11,12] [1,2,3] (fun j s => ∃ k, k ≤ l.length ∧ j = l.length - k ∧ s = { n := 43, tm := [(1, .lp 1 0), (2, .lp 2 0), (3, .lp 3 0), (10, .v (.slice (l.map encE)) none), (11, .v (.int .i64 l.length) none), (12, .v (.int .i64 k) none)], bx := [(1, encE (.mk kd n t ta l p)), (2, [.int .i64 0, .str [], .str [], .slice [], .int .i64 0, .slice [], .slice [], .int .i64 0]), (3, [.int .i64 kd, .str n, .str t.name, .slice (t.args.map encTy), .int .i64 t.pos, .slice (ta.map encTy), .slice (((l.take k).map mgE).map encE), .int .i64 p])], tb := [(3, 6, 103006, 49)], sh := [], hint := [(103006, 49)] }) (l.length) (by first | rfl | simp) ?_ ?_
 exact ⟨0, by simp [encE_mk, encTy_def]⟩
 rintro j s ⟨k, hk, rfl, rfl⟩ K2 hK2
 refine sr fun Z z => ?_
 simp [row_map, encE_mk, encTy_def]
 repeat refine sg ?_
 refine z _ ?_
 clear z Z
 refine AT_seq_k fun K3 hK3 => ?_
 refine AT_cond (g := none) rfl (fun hb13 => ?_) (fun hb13 => ?_)
 try simp [row_map, encE_mk, encTy_def] at hb13
 refine AT_skip ?_
 try simp only [nrm, reduceIte, Nat.reduceEqDiff]
 refine hK3 _ ?_
 refine AT_seq_k fun K4 hK4 => ?_
 refine AT_block ?_
 refine sr fun Z z => ?_
 simp [row_map, encE_mk, encTy_def, hb13]
 repeat refine sg ?_
 refine z _ ?_
 clear z Z
 refine AT_draw_q Pt.mixed (by kernel_rfl) fun Z z => ?_
 simp [row_map, encE_mk, encTy_def, hb13]
 repeat refine sg ?_
 refine RVdn_call (ih l[k] (by simp) (by have := wtEs_mem (l := l) (e := l[k]) (by simp); omega)) ?_
 simp [row_map, encE_mk, encTy_def, hb13]
 repeat refine sg ?_
 refine z _ ?_
 clear z Z
 try simp only [nrm, reduceIte, Nat.reduceEqDiff]
 refine hK4 _ ?_
 refine AT_region_q fun Z z => ?_
 simp [row_map, encE_mk, encTy_def, hb13]
 repeat refine sg ?_
 refine z _ ?_
 clear z Z
 try simp only [nrm, reduceIte, Nat.reduceEqDiff]
 refine hK2 _ (by first | rfl | simp) (l.length - (k+1)) (by omega) ?_
 have hs2 := take_map_succ (encE ∘ mgE) l k hb13
 exact ⟨k+1, by omega, by omega, by simp [hs2, encE_mk]⟩
 try simp [row_map, encE_mk, encTy_def] at hb13
 refine AT_exit ?_
 try simp only [nrm, reduceIte, Nat.reduceEqDiff]
 refine hK1 _ ?_
 refine AT_seq_k fun K5 hK5 => ?_
 by_cases h3 : kd = 3
 have hk3 : (kd == 3) = true := by simp; omega
 have hk5 : (kd == 5) = false := by simp; omega
 have hk2 : (kd == 2) = false := by simp; omega
 refine sr fun Z z => ?_
 simp [row_map, encE_mk, encTy_def, hb13, hk3, hk5, hk2]
 repeat refine sg ?_
 refine z _ ?_
 clear z Z
 refine AT_block ?_
 refine AT_seq_k fun K6 hK6 => ?_
 refine sr fun Z z => ?_
 simp [row_map, encE_mk, encTy_def, hb13, hk3, hk5, hk2]
 repeat refine sg ?_
 refine z _ ?_
 clear z Z
 refine cT (by simp [hb13, hk3, hk5, hk2]) ?_
 refine AT_skip ?_
 try simp only [nrm, reduceIte, Nat.reduceEqDiff]
 refine hK6 _ ?_
 refine cT (by simp [hb13, hk3, hk5, hk2]) ?_
 refine AT_region_q fun Z z => ?_
 simp [row_map, encE_mk, encTy_def, hb13, hk3, hk5, hk2]
 repeat refine sg ?_
 refine RVn_call ((by have h := c_mangle_Plain g rnd t (by omega) hml htab hers herr; simp only [encTy_mk, encTy_def] at h; exact h)) ?_
 simp [row_map, encE_mk, encTy_def, hb13, hk3, hk5, hk2]
 repeat refine sg ?_
 refine z _ ?_
 clear z Z
 try simp only [nrm, reduceIte, Nat.reduceEqDiff]
 refine hK5 _ ?_
 refine sr fun Z z => ?_
 simp [row_map, encE_mk, encTy_def, hb13, hk3, hk5, hk2]
 repeat refine sg ?_
 refine z _ ?_
 clear z Z
 refine AT_ret ?_
 simp [row_map, encE_mk, encTy_def, Tryz.f28]
 have htk : List.take k (l.map (encE ∘ mgE)) = l.map (encE ∘ mgE) := List.take_of_length_le (by simpa using hb13)
 rw [mgE_mk]
 simp [encE_mk, encTy_def, *]
 by_cases h5 : kd = 5
 have hk3 : (kd == 3) = false := by simp; omega
 have hk5 : (kd == 5) = true := by simp; omega
 have hk2 : (kd == 2) = false := by simp; omega
 refine sr fun Z z => ?_
 simp [row_map, encE_mk, encTy_def, hb13, hk3, hk5, hk2]
 repeat refine sg ?_
 refine z _ ?_
 clear z Z
 refine AT_block ?_
 refine AT_seq_k fun K7 hK7 => ?_
 refine sr fun Z z => ?_
 simp [row_map, encE_mk, encTy_def, hb13, hk3, hk5, hk2]
 repeat refine sg ?_
 refine z _ ?_
 clear z Z
 refine cF (by simp [hb13, hk3, hk5, hk2]) ?_
 refine AT_region_q fun Z z => ?_
 simp [row_map, encE_mk, encTy_def, hb13, hk3, hk5, hk2]
 repeat refine sg ?_
 refine z _ ?_
 clear z Z
 try simp only [nrm, reduceIte, Nat.reduceEqDiff]
 refine hK7 _ ?_
 refine cT (by simp [hb13, hk3, hk5, hk2]) ?_
 refine AT_region_q fun Z z => ?_
 simp [row_map, encE_mk, encTy_def, hb13, hk3, hk5, hk2]
 repeat refine sg ?_
 refine RVn_call ((by have h := c_mangle_Plain g rnd t (by omega) hml htab hers herr; simp only [encTy_mk, encTy_def] at h; exact h)) ?_
 simp [row_map, encE_mk, encTy_def, hb13, hk3, hk5, hk2]
 repeat refine sg ?_
 refine z _ ?_
 clear z Z
 try simp only [nrm, reduceIte, Nat.reduceEqDiff]
 refine hK5 _ ?_
 refine sr fun Z z => ?_
 simp [row_map, encE_mk, encTy_def, hb13, hk3, hk5, hk2]
 repeat refine sg ?_
 refine z _ ?_
 clear z Z
 refine AT_ret ?_
 simp [row_map, encE_mk, encTy_def, Tryz.f28]
 have htk : List.take k (l.map (encE ∘ mgE)) = l.map (encE ∘ mgE) := List.take_of_length_le (by simpa using hb13)
 rw [mgE_mk]
 simp [encE_mk, encTy_def, *]
 by_cases h2 : kd = 2
 have hk3 : (kd == 3) = false := by simp; omega
 have hk5 : (kd == 5) = false := by simp; omega
 have hk2 : (kd == 2) = true := by simp; omega
 refine sr fun Z z => ?_
 simp [row_map, encE_mk, encTy_def, hb13, hk3, hk5, hk2]
 repeat refine sg ?_
 refine z _ ?_
 clear z Z
 refine AT_block ?_
 refine AT_seq_k fun K8 hK8 => ?_
 refine sr fun Z z => ?_
 simp [row_map, encE_mk, encTy_def, hb13, hk3, hk5, hk2]
 repeat refine sg ?_
 refine z _ ?_
 clear z Z
 refine cF (by simp [hb13, hk3, hk5, hk2]) ?_
 refine AT_region_q fun Z z => ?_
 simp [row_map, encE_mk, encTy_def, hb13, hk3, hk5, hk2]
 repeat refine sg ?_
 refine z _ ?_
 clear z Z
 try simp only [nrm, reduceIte, Nat.reduceEqDiff]
 refine hK8 _ ?_
 refine cF (by simp [hb13, hk3, hk5, hk2]) ?_
 refine sr fun Z z => ?_
 simp [row_map, encE_mk, encTy_def, hb13, hk3, hk5, hk2]
 repeat refine sg ?_
 refine z _ ?_
 clear z Z
 refine cT (by simp [hb13, hk3, hk5, hk2]) ?_
 refine AT_region_q fun Z z => ?_
 simp [row_map, encE_mk, encTy_def, hb13, hk3, hk5, hk2]
 repeat refine sg ?_
 refine RVn_call (c_mangle_Method g rnd n ta (by omega) (by omega) hml htab hers herr) ?_
 simp [row_map, encE_mk, encTy_def, hb13, hk3, hk5, hk2]
 repeat refine sg ?_
 refine z _ ?_
 clear z Z
 try simp only [nrm, reduceIte, Nat.reduceEqDiff]
 refine hK5 _ ?_
 refine sr fun Z z => ?_
 simp [row_map, encE_mk, encTy_def, hb13, hk3, hk5, hk2]
 repeat refine sg ?_
 refine z _ ?_
 clear z Z
 refine AT_ret ?_
 simp [row_map, encE_mk, encTy_def, Tryz.f28]
 have htk : List.take k (l.map (encE ∘ mgE)) = l.map (encE ∘ mgE) := List.take_of_length_le (by simpa using hb13)
 rw [mgE_mk]
 simp [encE_mk, encTy_def, *]
 have hk3 : (kd == 3) = false := by simp; omega
 have hk5 : (kd == 5) = false := by simp; omega
 have hk2 : (kd == 2) = false := by simp; omega
 refine sr fun Z z => ?_
 simp [row_map, encE_mk, encTy_def, hb13, hk3, hk5, hk2]
 repeat refine sg ?_
 refine z _ ?_
 clear z Z
 refine AT_block ?_
 refine AT_seq_k fun K9 hK9 => ?_
 refine sr fun Z z => ?_
 simp [row_map, encE_mk, encTy_def, hb13, hk3, hk5, hk2]
 repeat refine sg ?_
 refine z _ ?_
 clear z Z
 refine cF (by simp [hb13, hk3, hk5, hk2]) ?_
 refine AT_region_q fun Z z => ?_
 simp [row_map, encE_mk, encTy_def, hb13, hk3, hk5, hk2]
 repeat refine sg ?_
 refine z _ ?_
 clear z Z
 try simp only [nrm, reduceIte, Nat.reduceEqDiff]
 refine hK9 _ ?_
 refine cF (by simp [hb13, hk3, hk5, hk2]) ?_
 refine sr fun Z z => ?_
 simp [row_map, encE_mk, encTy_def, hb13, hk3, hk5, hk2]
 repeat refine sg ?_
 refine z _ ?_
 clear z Z
 refine cF (by simp [hb13, hk3, hk5, hk2]) ?_
 refine AT_skip ?_
 try simp only [nrm, reduceIte, Nat.reduceEqDiff]
 refine hK5 _ ?_
 refine sr fun Z z => ?_
 simp [row_map, encE_mk, encTy_def, hb13, hk3, hk5, hk2]
 repeat refine sg ?_
 refine z _ ?_
 clear z Z
 refine AT_ret ?_
 simp [row_map, encE_mk, encTy_def, Tryz.f28]
 have htk : List.take k (l.map (encE ∘ mgE)) = l.map (encE ∘ mgE) := List.take_of_length_le (by simpa using hb13)
 rw [mgE_mk]
 simp [encE_mk, encTy_def, *]

end Go.Proofs.YtocmdbojefgpbaaGreatDoor
end
