import Derived.Test.YtdifpfehijnmiaaGreatDoorPt
import Derived.Test.YtdifpfehijnmiaaGreatDoorPvPb
import Derived.Test.YtdifpfehijnmiaaGreatDoorPvY
import Derived.Test.YtdifpfehijnmiaaGreatDoorXShelf
import Derived.Laws.CopyOwn
import Derived.Laws.MakeOwn
import Derived.Deep.RegionLaw
import Derived.Lib.SlBuf
import Derived.WalkKit
import Derived.Test.YtdifpfehijnmiaaGreatDoorXExD
import Derived.Test.YtdifpfehijnmiaaGreatDoorXTyD
import Derived.Test.YtdifpfehijnmiaaGreatDoorXExE
section
/- slices.Repeat at one expression that is zero: as many zero expressions. -/
set_option linter.all false
set_option maxHeartbeats 1000000
set_option maxRecDepth 10000
namespace Go.Proofs.YtdifpfehijnmiaaGreatDoor
open Go Go.Pv
variable (g : Nat → Option (List AV)) (rnd : Bool)

open Go.RowKit
def ZR (j : Nat) (v : Value) : Prop := match j with
  | 0 => v = .int .i64 0
  | 1 => v = .string ⟨#[]⟩
  | 2 => v = .string ⟨#[]⟩
  | 3 => ∃ p c, v = .slice p 0 c
  | 4 => v = .int .i64 0
  | 5 => ∃ p c, v = .slice p 0 c
  | 6 => ∃ p c, v = .slice p 0 c
  | _ => v = .int .i64 0
def PZ (n : Nat) (cur : List Value) : Prop := cur.length = 8 * n ∧ ∀ j v, cur[j]? = some v → ZR (j % 8) v
theorem ZR_one {j : Nat} {v : Value} (h : ZR j v) : v.oneCell' = true := by
  unfold ZR at h
  split at h <;> first | (subst h; rfl) | (obtain ⟨p, c, rfl⟩ := h; rfl)
theorem PZ_splice {n m : Nat} {cur : List Value} {cs : List Value} (h : PZ n cur) (hc : ∀ j v, cs[j]? = some v → ZR (j % 8) v) (hf : 8 * m + cs.length ≤ 8 * n) : PZ n (splice cur (8 * m) cs) := by
  have hl : (splice cur (8 * m) cs).length = 8 * n := by rw [length_splice _ _ _ (by rw [h.1]; exact hf)]; exact h.1
  refine ⟨hl, fun j v hj => ?_⟩
  unfold splice at hj
  have htl : (cur.take (8 * m)).length = 8 * m := by rw [List.length_take, h.1]; omega
  by_cases h1 : j < 8 * m
  · rw [List.getElem?_append_left (by rw [htl]; exact h1), List.getElem?_take, if_pos h1] at hj
    exact h.2 j v hj
  · rw [List.getElem?_append_right (by rw [htl]; omega), htl] at hj
    by_cases h2 : j - 8 * m < cs.length
    · rw [List.getElem?_append_left h2] at hj
      have := hc _ _ hj
      rwa [show (j - 8 * m) % 8 = j % 8 by omega] at this
    · rw [List.getElem?_append_right (by omega), List.getElem?_drop] at hj
      rw [show 8 * m + cs.length + (j - 8 * m - cs.length) = j by omega] at hj
      exact h.2 j v hj
theorem run_copy8 {P : Program} (w : World) (T ty elem : TypeId) (g o dLen dCap : Nat) (a : Addr) (sLen sCap : Nat) (cur : Array Value) (t : TypeId) (cs : List Value)
    (hu : P.underlying T = some (.slice elem)) (hs : (P.info? elem).map (·.size) = some 8)
    (hg : w.heap[g]? = some (.cells cur t (0, 0))) (hn : cs.length = Nat.min sLen dLen * 8)
    (hsrc : ∀ j v, cs[j]? = some v → w.cell? (a.add j) = some v) (hfit : o + cs.length ≤ cur.size) (h1 : ∀ v ∈ cs, v.oneCell' = true) :
    (Builtin.copy_ #[T, T] ty #[.slice (some ⟨g, o, none⟩) dLen dCap, .slice (some a) sLen sCap]).run P w =
      .ok (goInt (Nat.min sLen dLen)) (w.setRow g (splice cur.toList o cs).toArray) := by
  have hl := run_loadCells_list (P := P) w a cs hsrc
  have hst := run_storeCells_at P g o t cs 0 cur w hg (by simpa using hfit) h1
  cases hq : P.info? elem with
  | none => simp [hq] at hs
  | some i =>
    have hi : i.size = 8 := by simpa [hq] using hs
    rw [hn] at hl
    simp [Builtin.copy_, run_underlying hu, Builtin.lenOf, Builtin.firstCells, sizeOf, typeInfo, hq, hi, hl, hst, splice]

def rep_z : Value := .agg #[.int .i64 0, .string ⟨#[]⟩, .string ⟨#[]⟩, .slice none 0 0, .int .i64 0, .slice none 0 0, .slice none 0 0, .int .i64 0]
theorem rep_info : (Tryz.prog.info? 33).map (fun i => (i.size, i.bytes, i.zero)) = some (8, 128, some rep_z) := by kernel_rfl
theorem PZ_made (n : Nat) : PZ n (madeCells rep_z.cells (n * 8)).toList := by
  refine ⟨by simp [madeCells]; omega, fun j v h => ?_⟩
  have h2 : v = rep_z.cells[j % 8]! := by
    simp only [madeCells, Array.toList_map, Array.toList_range, List.getElem?_map] at h
    have hjn : j < n * 8 := by
      rcases Nat.lt_or_ge j (n * 8) with h1 | h1
      · exact h1
      · rw [List.getElem?_eq_none (by simpa using h1)] at h; cases h
    rw [List.getElem?_range hjn] at h
    have h3 : rep_z.cells.size = 8 := rfl
    rw [h3] at h
    simpa using h.symm
  subst h2
  have hj : j % 8 < 8 := Nat.mod_lt _ (by decide)
  generalize j % 8 = r at hj
  match r, hj with
  | 0, _ => rfl
  | 1, _ => rfl
  | 2, _ => rfl
  | 3, _ => exact ⟨_, _, rfl⟩
  | 4, _ => rfl
  | 5, _ => exact ⟨_, _, rfl⟩
  | 6, _ => exact ⟨_, _, rfl⟩
  | 7, _ => rfl
theorem cell_row {w : World} {g : Nat} {cur : List Value} {t : TypeId} {j : Nat} {v : Value} (h : w.heap[g]? = some (.cells cur.toArray t (0, 0))) (hv : cur[j]? = some v) : w.cell? (Addr.add ⟨g, 0, none⟩ j) = some v := by
  rw [Addr.add_lit, cell?_eq]
  simp [cellAt, h, hv]
theorem step_copy8 {P : Program} {ops : Array Oper} {o : Oper} {a : Act} {w : World} {K : Act → World → Prop} {Q : Exit → Act → World → Prop} {E : Prop} (hgd : o.guard = none) (d s : Operand) (T : TypeId)
    (ho : o.op = .call { callee := .builtin .copy, args := #[d, s], argTypes := #[T, T] }) (v u : Value) (hd : a.eval d = v) (hs : a.eval s = u) {v' : Value} {w' : World}
    (hr : (Builtin.copy_ #[T, T] o.type #[v, u]).run P w = .ok v' w') (h : K (a.put o.dst v') w') : if Region.wanted o (yielded ops a.tmps) = true then Oper.wp P o a w K Q else E := by
  have hw : Region.wanted o (yielded ops a.tmps) = true := by simp [Region.wanted, hgd]
  rw [if_pos hw]
  exact Lib.wp_copy_run w d s T T ho v u hd hs hr h
theorem rep_meas {m n k : Nat} (h1 : m < n) (h2 : 0 < k) (h3 : k ≤ m ∧ k ≤ n - m) (hn : n ≤ 1000000000) : n - (intOf (.int .i64 (IntKind.i64.wrap ((m : Int) + (k : Int))))).toNat < n - (intOf (.int .i64 (m : Int))).toNat := by
  have : IntKind.i64.wrap ((m : Int) + (k : Int)) = ((m + k : Nat) : Int) := by rw [IntKind.wrap_i64]; omega
  rw [this]
  simp only [intOf, Int.toNat_natCast]
  omega
theorem rep_mul (n : Nat) (hn : n ≤ 1000000000) (w : World) : Calls Tryz.prog 125 #[.int .u64 1, .int .u64 n] w fun e w' => e = .returned (.tuple #[.int .u64 0, .int .u64 n]) ∧ w' = w := by
  have h := Tryz.bits_Mul 1 n (by omega) (by omega) w
  rw [show 1 * n / 18446744073709551616 = 0 by omega, show 1 * n % 18446744073709551616 = n by omega] at h
  exact h
theorem rep_calls (n sb so sc : Nat) (hn : n ≤ 1000000000) (w : World) (z : List Value) (hz : z.length = 8) (hzr : ∀ j v, z[j]? = some v → ZR (j % 8) v) (hsb : sb < w.heap.size)
    (hsrc : ∀ j v, z[j]? = some v → w.cell? ⟨sb, so + j, none⟩ = some v) :
    Calls Tryz.prog 89 #[.slice (some ⟨sb, so, none⟩) 1 sc, .int .i64 n] w fun e w' => e = .returned (.slice (some ⟨w.heap.size, 0, none⟩) n n) ∧ Below w.heap.size w w' ∧ ∃ cur : List Value, w'.heap[w.heap.size]? = some (.cells cur.toArray 33 (0, 0)) ∧ PZ n cur := by
  have hw1 : IntKind.u64.wrap (n : Int) = n := by rw [IntKind.wrap_u64]; omega
  have hw2 : IntKind.i64.wrap (n : Int) = n := by rw [IntKind.wrap_i64]; omega
  obtain ⟨i, hi, hsz, hby, hze⟩ : ∃ i, Tryz.prog.info? 33 = some i ∧ i.size = 8 ∧ i.bytes = 128 ∧ i.zero = some rep_z := by
    have h := rep_info
    cases hq : Tryz.prog.info? 33 with
    | none => rw [hq] at h; cases h
    | some i => rw [hq] at h; simp only [Option.map_some, Option.some.injEq, Prod.mk.injEq] at h; exact ⟨i, rfl, h.1, h.2.1, h.2.2⟩
  go_enter Tryz.func89, Tryz.ntmps89
  go_wp2_with (first | (go_at_call 125; refine (rep_mul n hn _).mono ?_; rintro e w' ⟨rfl, rfl⟩))
  rw [run_make (P := Tryz.prog) w' 31 33 i rep_z Tryz.underlying31 hi hze .i64 .i64 n n (by omega) (by omega) (by rw [hby]; omega) (by omega)]
  rw [show ((n : Int)).toNat = n by omega, hsz]
  generalize hmade : madeCells rep_z.cells (n * 8) = mc
  have hpm : PZ n mc.toList := by rw [← hmade]; exact PZ_made n
  have hmn : Nat.min 1 n ≤ 1 ∧ Nat.min 1 n ≤ n := ⟨Nat.min_le_left _ _, Nat.min_le_right _ _⟩
  have htl : (z.take (Nat.min 1 n * 8)).length = Nat.min 1 n * 8 := by rw [List.length_take, hz]; omega
  have hzt : ∀ j v, (z.take (Nat.min 1 n * 8))[j]? = some v → z[j]? = some v := fun j v h => by
    rw [List.getElem?_take] at h
    split at h
    · exact h
    · cases h
  go_wp2
  rw [run_copy8 _ 31 3 33 w'.heap.size 0 n n ⟨sb, so, none⟩ 1 sc mc 33 (z.take (Nat.min 1 n * 8)) Tryz.underlying31 (by kernel_rfl) (by simp only [World.alloc]; exact Array.getElem?_push_size) htl (fun j v hj => by
      rw [Addr.add_lit, World.cell?_alloc_lt _ _ ⟨sb, so + j, none⟩ hsb]; exact hsrc j v (hzt j v hj)) (by rw [htl]; have := hpm.1; simp only [Array.length_toList] at this; omega) (fun v hv => by
      obtain ⟨j, hj⟩ := List.getElem?_of_mem hv
      exact ZR_one (hzr j v (hzt j v hj)))]
  obtain ⟨cur0, hc0⟩ : ∃ c, c = splice mc.toList 0 (z.take (Nat.min 1 n * 8)) := ⟨_, rfl⟩
  have hp0 : PZ n cur0 := by rw [hc0]; exact PZ_splice (m := 0) hpm (fun j v hj => hzr j v (hzt j v hj)) (by rw [htl]; omega)
  rw [← hc0]
  clear hc0 hmade htl hzt
  generalize hW0 : (w'.alloc (Obj.cells mc 33)).setRow w'.heap.size cur0.toArray = W0
  have hB0 : Below w'.heap.size w' W0 := by rw [← hW0]; exact below_setRow ((Below.refl _ _).alloc (Nat.le_refl _) _) (Nat.le_refl _) _
  have hH0 : Hid (W0.heap[w'.heap.size]? = some (.cells cur0.toArray 33 (0, 0))) := by rw [← hW0]; exact setRow_heap _ _ _ _ _ _ (by simp only [World.alloc]; exact Array.getElem?_push_size)
  have hpH : Hid (PZ n cur0) := hp0
  clear hW0 hp0 hpm
  go_wp2
  go_loopw [8] (fun i wr => ∃ (m : Nat) (cur : List Value), m ≤ n ∧ (0 < n → 0 < m) ∧ i = .int .i64 m ∧ Hid (wr.heap[w'.heap.size]? = some (.cells cur.toArray 33 (0, 0))) ∧ Hid (PZ n cur) ∧ Below w'.heap.size w' wr)
    (fun i _ => n - (intOf i).toNat)
  case atStart => exact ⟨Nat.min 1 n, cur0, hmn.2, fun h => by show 0 < min 1 n; omega, rfl, hH0, hpH, hB0⟩
  case round =>
    obtain ⟨m, cur, hm1, hm2, rfl, hcu, hpz, hbl⟩ := hrel
    have hmm : Nat.min m (n - m) ≤ m ∧ Nat.min m (n - m) ≤ n - m := ⟨Nat.min_le_left _ _, Nat.min_le_right _ _⟩
    have htl : Hid ((cur.take (Nat.min m (n - m) * 8)).length = Nat.min m (n - m) * 8) := by show _ = _; rw [List.length_take, hpz.out.1]; omega
    have hzt : Hid (∀ j v, (cur.take (Nat.min m (n - m) * 8))[j]? = some v → cur[j]? = some v) := fun j v h => by
      rw [List.getElem?_take] at h
      split at h
      · exact h
      · cases h
    go_wp2
    · have hlt : m < n := by assumption
      have hn8 : (sizeOf 33).run Tryz.prog wr = .ok 8 wr := by kernel_rfl
      have hpos : 0 < Nat.min m (n - m) := by have := hm2 (by omega); show 0 < min m (n - m); omega
      go_region_law (refine step_copy8 rfl (.tmp 41) (.tmp 44) 31 rfl (.slice (some ⟨w'.heap.size, m * 8, none⟩) (n - m) (n - m)) (.slice (some ⟨w'.heap.size, 0, none⟩) m n) (by simp [Act.eval, Act.put]; omega) (by simp [Act.eval, Act.put]; done) (run_copy8 _ 31 3 33 w'.heap.size (m * 8) (n - m) (n - m) ⟨w'.heap.size, 0, none⟩ m n cur.toArray 33 (cur.take (Nat.min m (n - m) * 8)) Tryz.underlying31 (by kernel_rfl) hcu.out htl.out (fun j v hj => cell_row hcu.out (hzt.out j v hj)) (by rw [htl.out]; have := hpz.out.1; simp only [List.size_toArray]; omega) (fun v hv => by
        obtain ⟨j, hj⟩ := List.getElem?_of_mem hv
        exact ZR_one (hpz.out.2 j v (hzt.out j v hj)))) ?_)
      have hp1 : PZ n (splice cur (8 * m) (cur.take (Nat.min m (n - m) * 8))) := PZ_splice hpz.out (fun j v hj => hpz.out.2 j v (hzt.out j v hj)) (by rw [htl.out]; omega)
      all_goals go_wp2
      all_goals go_roundw
      case rel =>
        refine ⟨m + Nat.min m (n - m), by omega, fun _ => by omega, ?_, splice cur (m * 8) (cur.take (Nat.min m (n - m) * 8)), ?_, by rw [Nat.mul_comm m 8]; exact hp1, ?_⟩
        · rw [IntKind.wrap_i64]; omega
        · exact setRow_heap _ _ _ _ _ _ hcu.out
        · exact below_setRow (Below.drew hbl) (Nat.le_refl _) _
      case measure => exact rep_meas hlt hpos hmm hn
    · go_ret
      exact ⟨rfl, hbl, cur, hcu.out, hpz.out⟩
theorem valid_new {P : Program} {gl : Gl} {f : FuncId} {args : List AV} {r : AV} (hok : fnOk P f = true)
    (h : ∀ (lim : Lim) (w : World) (cargs : List Value), RepL lim w.heap cargs args → Calls P f cargs.toArray w fun e w' => ∃ v, e = .returned v ∧ Below w.heap.size w w' ∧ Rep (fun b => if b < w.heap.size then lim b else .all) w'.heap v r) : Valid P gl f args r := by
  refine ⟨hok, fun lim w cargs _ hargs _ => (h lim w cargs hargs).mono fun e w' => ?_⟩
  rintro ⟨v, rfl, hb, hr⟩
  exact ⟨v, r, [], _, rfl, ⟨hb.os, hb.tape, hb.output, hb.size, fun k hk _ => hb.block k hk⟩, fun b hb => if_pos hb, hr, fun b c h => (by cases h), ⟨rfl, rfl⟩, fun _ h => h, fun b h => (by cases h)⟩
def enc0 : List AV := [.int .i64 0, .str [], .str [], .slice [], .int .i64 0, .slice [], .slice [], .int .i64 0]
def ZA : Nat → AV
  | 0 => .int .i64 0
  | 1 => .str []
  | 2 => .str []
  | 3 => .slice []
  | 4 => .int .i64 0
  | 5 => .slice []
  | 6 => .slice []
  | _ => .int .i64 0
theorem rep_zr {lim : Lim} {h : Array Obj} {v : Value} {j : Nat} (r : Rep lim h v (ZA j)) : ZR j v := by
  match j, r with
  | 0, r => exact rep_int r
  | 1, r => exact rep_str r
  | 2, r => exact rep_str r
  | 3, r => obtain ⟨p, c, h, -⟩ := r.slice_form; exact ⟨p, c, h⟩
  | 4, r => exact rep_int r
  | 5, r => obtain ⟨p, c, h, -⟩ := r.slice_form; exact ⟨p, c, h⟩
  | 6, r => obtain ⟨p, c, h, -⟩ := r.slice_form; exact ⟨p, c, h⟩
  | _ + 7, r => exact rep_int r
theorem zr_rep {lim : Lim} {h : Array Obj} {v : Value} {j : Nat} (r : ZR j v) : Rep lim h v (ZA j) := by
  match j, r with
  | 0, r => subst r; exact .int _ _
  | 1, r => subst r; exact .str []
  | 2, r => subst r; exact .str []
  | 3, r => obtain ⟨p, c, rfl⟩ := r; exact .slice0 p c
  | 4, r => subst r; exact .int _ _
  | 5, r => obtain ⟨p, c, rfl⟩ := r; exact .slice0 p c
  | 6, r => obtain ⟨p, c, rfl⟩ := r; exact .slice0 p c
  | _ + 7, r => subst r; exact .int _ _
theorem za_get : ∀ (n j : Nat), j < 8 * n → (List.replicate n enc0).flatten[j]? = some (ZA (j % 8))
  | 0, j, h => absurd h (Nat.not_lt_zero _)
  | n + 1, j, h => by
    rw [List.replicate_succ, List.flatten_cons]
    by_cases hj : j < 8
    · rw [List.getElem?_append_left (show j < enc0.length by exact hj), Nat.mod_eq_of_lt hj]
      match j, hj with
      | 0, _ => rfl
      | 1, _ => rfl
      | 2, _ => rfl
      | 3, _ => rfl
      | 4, _ => rfl
      | 5, _ => rfl
      | 6, _ => rfl
      | 7, _ => rfl
    · rw [List.getElem?_append_right (show enc0.length ≤ j from Nat.le_of_not_lt hj)]
      have := za_get n (j - 8) (by omega)
      rw [show j - enc0.length = j - 8 from rfl, this, show (j - 8) % 8 = j % 8 by omega]
theorem za_len (n : Nat) : (List.replicate n enc0).flatten.length = 8 * n := by
  induction n with
  | zero => rfl
  | succ n ih => rw [List.replicate_succ, List.flatten_cons, List.length_append, ih, show enc0.length = 8 from rfl]; omega
theorem two_args {vs : List Value} {lim : Lim} {h : Array Obj} {x y : AV} (r : RepL lim h vs [x, y]) : ∃ u v, vs = [u, v] ∧ Rep lim h u x ∧ Rep lim h v y := by
  match vs, r with
  | [], r => exact absurd r.1 (by simp)
  | [a], r => exact absurd r.1 (by simp)
  | [a, b], r => exact ⟨a, b, rfl, r.head, r.tail.head⟩
  | a :: b :: c :: q, r => exact absurd r.1 (by simp)
theorem repeat_zero (n : Nat) (hn : n ≤ 1000000000) : Valid Tryz.prog (G0 g rnd) 89 [.slice [enc0], .int .i64 n] (.slice (List.replicate n enc0)) := by
  refine valid_new (by kernel_rfl) fun lim w cargs hargs => ?_
  obtain ⟨u, v, rfl, hu, hv⟩ := two_args hargs
  obtain rfl := rep_int hv
  obtain ⟨p, cap, rfl, hcap⟩ := hu.slice_form
  obtain ⟨sb, so, z, rfl, hzl, hzr, hzc⟩ := hu.slice_cells (sz := 8) (fun x hx => by simp at hx; subst hx; rfl) (by simp)
  have hl8 : z.length = 8 := by simpa using hzl
  have hz0 : ∀ j x, z[j]? = some x → ZR (j % 8) x := fun j x hx => by
    have hj : j < 8 := by rw [← hl8]; exact (List.getElem?_eq_some_iff.1 hx).1
    have h1 := za_get 1 j (by omega)
    rw [show List.replicate 1 enc0 = [enc0] from rfl] at h1
    obtain ⟨y, hy, hr⟩ := hzr.get h1
    rw [hx] at hy
    injection hy with hy
    subst hy
    exact rep_zr hr
  have hsb : sb < w.heap.size := by
    have h0 : 0 < z.length := by omega
    exact cellAt_lt (hzc 0 z[0] (by simp [h0])).2
  refine (rep_calls n sb so cap hn w z hl8 hz0 hsb (fun j x hx => by rw [cell?_eq]; exact (hzc j x hx).2)).mono fun e w' => ?_
  rintro ⟨rfl, hb, cur, hcur, hp⟩
  refine ⟨_, rfl, hb, ?_⟩
  have hrl : RepL (fun b => if b < w.heap.size then lim b else .all) w'.heap cur (List.replicate n enc0).flatten := by
    refine ⟨by rw [hp.1, za_len], fun j x hx => ?_⟩
    have hj : j < 8 * n := by rw [← za_len n]; exact (List.getElem?_eq_some_iff.1 hx).1
    rw [za_get n j hj] at hx
    injection hx with hx
    subst hx
    have hjc : j < cur.length := by rw [hp.1]; exact hj
    rw [List.getD_eq_getElem?_getD, List.getElem?_eq_getElem hjc]
    exact zr_rep (hp.2 j _ (by simp [hjc]))
  have hmk := Rep.slice_mk (lim := fun b => if b < w.heap.size then lim b else .all) (h := w'.heap) (b := w.heap.size) (off := 0) (cap := n) (sz := 8) (l := List.replicate n enc0) (vs := cur) (by simp) (fun x hx => by rw [List.eq_of_mem_replicate hx]; rfl) hrl (fun j u hu => ⟨fun m hm => (by simp at hm), (by simp [cellAt, hcur, hu])⟩)
  simpa using hmk

end Go.Proofs.YtdifpfehijnmiaaGreatDoor
end

section
/- Contracts: expressions, shown and measured. -/
set_option linter.all false
set_option maxHeartbeats 1000000
set_option maxRecDepth 10000
namespace Go.Proofs.YtdifpfehijnmiaaGreatDoor
open Go Go.Pv
variable (g : Nat → Option (List AV)) (rnd : Bool)

theorem c_ref05x_Equal : ∀ e f : Exp, wtE e ≤ 1000000000 → Valid Tryz.prog (G0 g rnd) 52 [.agg (encE e), .agg (encE f)] (.bool (eqE e f)) := by
 intro e
 induction e using Exp.ind with
 | h kd n t ta l p ih =>
 intro f hw
 obtain ⟨kf, m, u, ua, ul, q⟩ := f
 have hw2 : n.length + 1 + wt t + wts ta + wtEs l ≤ 1000000000 := by simpa [wtE_mk] using hw
 have hln := wtEs_len l
 have hla := wts_len ta
 refine valid_of [] Tryz.func52 rfl (by kernel_rfl) ?_
 refine sr fun Z z => ?_
 simp [row_map, Tryz.f52]
 refine z _ ?_
 clear z Z
 refine AT_seq_k fun K1 hK1 => ?_
 cases h1 : (p != q)
 cases h2 : (kd != kf)
 cases h3 : (n == m)
 refine sr fun Z z => ?_
 simp [row_map, h1, h2, h3]
 refine z _ ?_
 clear z Z
 refine cT (by simp [h1, h2, h3]) ?_
 refine sr fun Z z => ?_
 simp [row_map, h1, h2, h3]
 refine z _ ?_
 clear z Z
 refine AT_ret ?_
 simp [row_map, Tryz.f52]
 (· simp [eqE, h3])
 cases h4 : (eqT t u)
 refine sr fun Z z => ?_
 simp [row_map, h1, h2, h3, h4]
 refine RVn_call (c_ref04x_Equal g rnd t u (by omega)) ?_
 simp [row_map, h1, h2, h3, h4]
 repeat refine sg ?_
 refine z _ ?_
 clear z Z
 refine cT (by simp [h1, h2, h3, h4]) ?_
 refine sr fun Z z => ?_
 simp [row_map, h1, h2, h3, h4]
 refine z _ ?_
 clear z Z
 refine AT_ret ?_
 simp [row_map, Tryz.f52]
 (· simp [eqE, h4])
 by_cases h5 : (ta.length : Int) = ua.length
 have h5b : ((ta.length : Int) != ua.length) = false := by simpa using h5
 by_cases h6 : (l.length : Int) = ul.length
 have h6b : ((l.length : Int) != ul.length) = false := by simpa using h6
 refine sr fun Z z => ?_
 simp [row_map, h1, h2, h3, h4, h5b, h6b]
 refine RVn_call (c_ref04x_Equal g rnd t u (by omega)) ?_
 simp [row_map, h1, h2, h3, h4, h5b, h6b]
 repeat refine sg ?_
 refine z _ ?_
 clear z Z
 refine cF (by simp [h1, h2, h3, h4, h5b, h6b]) ?_
 refine AT_skip ?_
 refine hK1 _ ?_
 refine AT_seq_k fun K2 hK2 => ?_
 refine sr fun Z z => ?_
 simp [row_map, h1, h2, h3, h4, h5b, h6b]
 refine z _ ?_
 clear z Z
 refine AT_block ?_
 refine AT_loop_q [2,3,5] [2,3] (fun j s => ∃ k, k ≤ ta.length ∧ eqTs ta ua = eqTs (ta.drop k) (ua.drop k) ∧ j = ta.length - k ∧ s = { n := 90, tm := [(2, .lp 2 0), (3, .lp 3 0), (5, .v (.int .i64 k) none)], bx := [(2, encE (.mk kd n t ta l p)), (3, encE (.mk kf m u ua ul q))], tb := [], sh := [], hint := [] }) (ta.length) (by first | rfl | simp) ?_ ?_
 exact ⟨0, by simp⟩
 rintro j s ⟨k, hk, hc, rfl, rfl⟩ K3 hK3
 refine AT_seq_k fun K4 hK4 => ?_
 refine sr fun Z z => ?_
 simp [row_map, h1, h2, h3, h4, h5b, h6b]
 refine z _ ?_
 clear z Z
 refine AT_cond (g := none) rfl (fun hb56 => ?_) (fun hb56 => ?_)
 simp [row_map, h1, h2, h3, h4, h5b, h6b] at hb56
 refine AT_skip ?_
 refine hK4 _ ?_
 refine AT_seq_k fun K5 hK5 => ?_
 refine AT_block ?_
 refine AT_seq_draw Pt.mixed (by kernel_rfl) fun Z z => ?_
 have hku : k < ua.length := by omega
 have hm := wts_mem (l := ta) (t := ta[k]) (by simp)
 have hda := List.drop_eq_getElem_cons hb56
 have hdb := List.drop_eq_getElem_cons hku
 simp [row_map, hku, h1, h2, h3, h4, h5b, h6b, hb56]
 refine RVdn_call (c_ref04x_Equal g rnd ta[k] ua[k] (by omega)) ?_
 simp [row_map, hku, h1, h2, h3, h4, h5b, h6b, hb56]
 refine z _ ?_
 clear z Z
 refine AT_cond (g := none) rfl (fun hb70 => ?_) (fun hb70 => ?_)
 simp [row_map, h1, h2, h3, h4, h5b, h6b, hb56] at hb70
 refine sr fun Z z => ?_
 simp [row_map, h1, h2, h3, h4, h5b, h6b, hb56, hb70]
 refine z _ ?_
 clear z Z
 refine AT_ret ?_
 simp [row_map, Tryz.f52]
 (· have he : eqE (.mk kd n t ta l p) (.mk kf m u ua ul q) = (eqTs ta ua && eqEs l ul) := by simp [eqE, show (p == q) = true by simpa using h1, show (kd == kf) = true by simpa using h2, h3, h4]
    rw [he, hc, hda, hdb, eqTs_cons]; simp [hb70])
 simp [row_map, h1, h2, h3, h4, h5b, h6b, hb56] at hb70
 refine AT_skip ?_
 refine hK5 _ ?_
 refine AT_region_q fun Z z => ?_
 simp [row_map, h1, h2, h3, h4, h5b, h6b, hb56, hb70]
 repeat refine sg ?_
 refine z _ ?_
 clear z Z
 refine hK3 _ (by first | rfl | simp) (ta.length - (k+1)) (by omega) ?_
 refine ⟨k+1, by omega, ?_, by omega, by simp⟩
 rw [hc, hda, hdb, eqTs_cons]; simp [hb70]
 simp [row_map, h1, h2, h3, h4, h5b, h6b] at hb56
 refine AT_exit ?_
 refine hK2 _ ?_
 refine AT_seq_k fun K6 hK6 => ?_
 refine sr fun Z z => ?_
 simp [row_map, h1, h2, h3, h4, h5b, h6b, hb56]
 refine z _ ?_
 clear z Z
 refine AT_block ?_
 have hT : eqTs ta ua = true := by rw [hc, List.drop_eq_nil_of_le hb56, List.drop_eq_nil_of_le (show ua.length ≤ k by omega)]; simp [eqTs]
 refine AT_loop_q [2,3,6] [2,3] (fun j s => ∃ k, k ≤ l.length ∧ eqEs l ul = eqEs (l.drop k) (ul.drop k) ∧ j = l.length - k ∧ s = { n := 90, tm := [(2, .lp 2 0), (3, .lp 3 0), (6, .v (.int .i64 k) none)], bx := [(2, encE (.mk kd n t ta l p)), (3, encE (.mk kf m u ua ul q))], tb := [], sh := [], hint := [] }) (l.length) (by first | rfl | simp) ?_ ?_
 have hT : eqTs ta ua = true := by rw [hc, List.drop_eq_nil_of_le hb56, List.drop_eq_nil_of_le (show ua.length ≤ k by omega)]; simp [eqTs]
 exact ⟨0, by simp⟩
 rintro j s ⟨k, hk, hc2, rfl, rfl⟩ K7 hK7
 refine AT_seq_k fun K8 hK8 => ?_
 refine sr fun Z z => ?_
 simp [row_map, h1, h2, h3, h4, h5b, h6b, hb56]
 refine z _ ?_
 clear z Z
 refine AT_cond (g := none) rfl (fun hb75 => ?_) (fun hb75 => ?_)
 simp [row_map, h1, h2, h3, h4, h5b, h6b, hb56] at hb75
 refine AT_skip ?_
 refine hK8 _ ?_
 refine AT_seq_k fun K9 hK9 => ?_
 refine AT_block ?_
 refine AT_seq_draw Pt.mixed (by kernel_rfl) fun Z z => ?_
 have hku : k < ul.length := by omega
 have hm := wtEs_mem (l := l) (e := l[k]) (by simp)
 have hda := List.drop_eq_getElem_cons hb75
 have hdb := List.drop_eq_getElem_cons hku
 simp [row_map, hku, h1, h2, h3, h4, h5b, h6b, hb56, hb75]
 refine RVdn_call (ih l[k] (by simp) ul[k] (by omega)) ?_
 simp [row_map, hku, h1, h2, h3, h4, h5b, h6b, hb56, hb75]
 refine z _ ?_
 clear z Z
 refine AT_cond (g := none) rfl (fun hb89 => ?_) (fun hb89 => ?_)
 simp [row_map, h1, h2, h3, h4, h5b, h6b, hb56, hb75] at hb89
 refine sr fun Z z => ?_
 simp [row_map, h1, h2, h3, h4, h5b, h6b, hb56, hb75, hb89]
 refine z _ ?_
 clear z Z
 refine AT_ret ?_
 simp [row_map, Tryz.f52]
 (· have he : eqE (.mk kd n t ta l p) (.mk kf m u ua ul q) = (eqTs ta ua && eqEs l ul) := by simp [eqE, show (p == q) = true by simpa using h1, show (kd == kf) = true by simpa using h2, h3, h4]
    rw [he, hT, hc2, hda, hdb, eqEs_cons]; simp [hb89])
 simp [row_map, h1, h2, h3, h4, h5b, h6b, hb56, hb75] at hb89
 refine AT_skip ?_
 refine hK9 _ ?_
 refine AT_region_q fun Z z => ?_
 simp [row_map, h1, h2, h3, h4, h5b, h6b, hb56, hb75, hb89]
 repeat refine sg ?_
 refine z _ ?_
 clear z Z
 refine hK7 _ (by first | rfl | simp) (l.length - (k+1)) (by omega) ?_
 refine ⟨k+1, by omega, ?_, by omega, by simp⟩
 rw [hc2, hda, hdb, eqEs_cons]; simp [hb89]
 simp [row_map, h1, h2, h3, h4, h5b, h6b, hb56] at hb75
 refine AT_exit ?_
 refine hK6 _ ?_
 refine sr fun Z z => ?_
 simp [row_map, h1, h2, h3, h4, h5b, h6b, hb56, hb75]
 refine z _ ?_
 clear z Z
 refine AT_ret ?_
 simp [row_map, Tryz.f52]
 (· have he : eqE (.mk kd n t ta l p) (.mk kf m u ua ul q) = (eqTs ta ua && eqEs l ul) := by simp [eqE, show (p == q) = true by simpa using h1, show (kd == kf) = true by simpa using h2, h3, h4]
    rw [he, hT, hc2, List.drop_eq_nil_of_le hb75, List.drop_eq_nil_of_le (show ul.length ≤ k by omega)]; simp [eqEs])
 have h6b : ((l.length : Int) != ul.length) = true := by simpa using h6
 refine sr fun Z z => ?_
 simp [row_map, h1, h2, h3, h4, h5b, h6b]
 refine RVn_call (c_ref04x_Equal g rnd t u (by omega)) ?_
 simp [row_map, h1, h2, h3, h4, h5b, h6b]
 repeat refine sg ?_
 refine z _ ?_
 clear z Z
 refine cT (by simp [h1, h2, h3, h4, h5b, h6b]) ?_
 refine sr fun Z z => ?_
 simp [row_map, h1, h2, h3, h4, h5b, h6b]
 refine z _ ?_
 clear z Z
 refine AT_ret ?_
 simp [row_map, Tryz.f52]
 (· simp [eqE, eqEs_len (show l.length ≠ ul.length by omega)])
 have h5b : ((ta.length : Int) != ua.length) = true := by simpa using h5
 refine sr fun Z z => ?_
 simp [row_map, h1, h2, h3, h4, h5b]
 refine RVn_call (c_ref04x_Equal g rnd t u (by omega)) ?_
 simp [row_map, h1, h2, h3, h4, h5b]
 repeat refine sg ?_
 refine z _ ?_
 clear z Z
 refine cT (by simp [h1, h2, h3, h4, h5b]) ?_
 refine sr fun Z z => ?_
 simp [row_map, h1, h2, h3, h4, h5b]
 refine z _ ?_
 clear z Z
 refine AT_ret ?_
 simp [row_map, Tryz.f52]
 (· simp [eqE, eqTs_len (show ta.length ≠ ua.length by omega)])
 refine sr fun Z z => ?_
 simp [row_map, h1, h2]
 refine z _ ?_
 clear z Z
 refine cT (by simp [h1, h2]) ?_
 refine sr fun Z z => ?_
 simp [row_map, h1, h2]
 refine z _ ?_
 clear z Z
 refine AT_ret ?_
 simp [row_map, Tryz.f52]
 (· simp [eqE, show (kd == kf) = false by simpa using h2])
 refine sr fun Z z => ?_
 simp [row_map, h1]
 refine z _ ?_
 clear z Z
 refine cT (by simp [h1]) ?_
 refine sr fun Z z => ?_
 simp [row_map, h1]
 refine z _ ?_
 clear z Z
 refine AT_ret ?_
 simp [row_map, Tryz.f52]
 (· simp [eqE, show (p == q) = false by simpa using h1])

theorem c_expr_Depth (e : Exp) : wtE e ≤ 1000000000 → Valid Tryz.prog (G0 g rnd) 64 [.agg (encE e)] (.int .i64 (depE e)) := by
 induction e using Exp.ind with
 | h kd n t ta l p ih =>
 intro hw
 have hw2 : n.length + 1 + wt t + wts ta + wtEs l ≤ 1000000000 := by simpa [wtE_mk] using hw
 have hln := wtEs_len l
 have hla := wts_len ta
 have hdt := dep_wt t
 obtain ⟨D, hD⟩ : ∃ D, D = if typedE kd then dep t else 0 := ⟨_, rfl⟩
 have hDl : D ≤ wt t := by rw [hD]; split <;> omega
 refine valid_of [] Tryz.func64 rfl (by kernel_rfl) ?_
 refine sr fun Z z => ?_
 simp [row_map, Tryz.f64]
 refine z _ ?_
 clear z Z
 refine sr fun Z z => ?_
 simp [row_map]
 refine z _ ?_
 clear z Z
 refine AT_seq_k fun K1 hK1 => ?_
 cases h3 : (kd == 3)
 cases h5 : (kd == 5)
 have hDd : D = 0 := by rw [hD]; simp [typedE, h3, h5]
 refine sr fun Z z => ?_
 simp [row_map, h3, h5]
 refine z _ ?_
 clear z Z
 refine cF (by simp [h3, h5]) ?_
 refine AT_skip ?_
 refine hK1 _ ?_
 refine AT_seq_k fun K2 hK2 => ?_
 refine sr fun Z z => ?_
 simp [row_map, h3, h5]
 refine z _ ?_
 clear z Z
 refine AT_block ?_
 refine AT_loop_q [3,20,21,22,1] [1] (fun j s => ∃ k M, k ≤ ta.length ∧ M = max D (deps (ta.take k)) ∧ j = ta.length - k ∧ s = { n := 45, tm := [(3, .v (.int .i64 (M : Nat)) none), (20, .v (.slice (ta.map encTy)) none), (21, .v (.int .i64 ta.length) none), (22, .v (.int .i64 k) none), (1, .lp 1 0)], bx := [(1, encE (.mk kd n t ta l p))], tb := [], sh := [], hint := [] }) (ta.length) (by first | rfl | simp) ?_ ?_
 exact ⟨0, D, by simp [deps, hDd]⟩
 rintro j s ⟨k, M, hk, hM, rfl, rfl⟩ K3 hK3
 refine sr fun Z z => ?_
 simp [row_map, h3, h5]
 refine z _ ?_
 clear z Z
 refine AT_seq_k fun K4 hK4 => ?_
 refine AT_cond (g := none) rfl (fun hb23 => ?_) (fun hb23 => ?_)
 simp [row_map, h3, h5] at hb23
 refine AT_skip ?_
 refine hK4 _ ?_
 refine AT_seq_k fun K5 hK5 => ?_
 refine AT_block ?_
 refine sr fun Z z => ?_
 have hm := wts_mem (l := ta) (t := ta[k]) (by simp)
 have hdk := dep_wt ta[k]
 have hdtk := deps_wts (ta.take k)
 have hwt := wts_take ta k
 simp [row_map, h3, h5, hb23]
 refine z _ ?_
 clear z Z
 refine AT_region_q fun Z z => ?_
 simp [row_map, h3, h5, hb23]
 refine RVn_call (c_types_Depth g rnd ta[k] (by omega)) ?_
 simp [row_map, h3, h5, hb23]
 refine z _ ?_
 clear z Z
 refine hK5 _ ?_
 refine AT_region_q fun Z z => ?_
 simp [row_map, h3, h5, hb23]
 repeat refine sg ?_
 refine z _ ?_
 clear z Z
 refine hK3 _ (by first | rfl | simp) (ta.length - (k+1)) (by omega) ?_
 refine ⟨k+1, max M (dep ta[k]), by omega, by rw [deps_take _ _ hb23]; omega, by omega, ?_⟩
 simp
 try (split <;> omega)
 simp [row_map, h3, h5] at hb23
 refine AT_exit ?_
 refine hK2 _ ?_
 refine AT_seq_k fun K6 hK6 => ?_
 refine sr fun Z z => ?_
 simp [row_map, h3, h5, hb23]
 refine z _ ?_
 clear z Z
 refine AT_block ?_
 refine AT_loop_q [3,32,33,34,1] [1] (fun j s => ∃ k M, k ≤ l.length ∧ M = max (max D (deps ta)) (depEs (l.take k)) ∧ j = l.length - k ∧ s = { n := 45, tm := [(3, .v (.int .i64 (M : Nat)) none), (32, .v (.slice (l.map encE)) none), (33, .v (.int .i64 l.length) none), (34, .v (.int .i64 k) none), (1, .lp 1 0)], bx := [(1, encE (.mk kd n t ta l p))], tb := [], sh := [], hint := [] }) (l.length) (by first | rfl | simp) ?_ ?_
 rw [List.take_of_length_le hb23] at hM
 exact ⟨0, M, by simp [depEs, hM]⟩
 rintro j s ⟨k, M, hk, hM, rfl, rfl⟩ K7 hK7
 refine sr fun Z z => ?_
 simp [row_map, h3, h5, hb23]
 refine z _ ?_
 clear z Z
 refine AT_seq_k fun K8 hK8 => ?_
 refine AT_cond (g := none) rfl (fun hb35 => ?_) (fun hb35 => ?_)
 simp [row_map, h3, h5, hb23] at hb35
 refine AT_skip ?_
 refine hK8 _ ?_
 refine AT_seq_k fun K9 hK9 => ?_
 refine AT_block ?_
 refine sr fun Z z => ?_
 have hm := wtEs_mem (l := l) (e := l[k]) (by simp)
 have hdk := depE_wt l[k]
 have hdlk := depEs_wts (l.take k)
 have hwtl := wtEs_take l k
 have hdta := deps_wts ta
 simp [row_map, h3, h5, hb23, hb35]
 refine z _ ?_
 clear z Z
 refine AT_region_q fun Z z => ?_
 simp [row_map, h3, h5, hb23, hb35]
 refine RVn_call (ih l[k] (by simp) (by omega)) ?_
 simp [row_map, h3, h5, hb23, hb35]
 refine z _ ?_
 clear z Z
 refine hK9 _ ?_
 refine AT_region_q fun Z z => ?_
 simp [row_map, h3, h5, hb23, hb35]
 repeat refine sg ?_
 refine z _ ?_
 clear z Z
 refine hK7 _ (by first | rfl | simp) (l.length - (k+1)) (by omega) ?_
 refine ⟨k+1, max M (depE l[k]), by omega, by rw [depEs_take _ _ hb35]; omega, by omega, ?_⟩
 simp
 try (split <;> omega)
 simp [row_map, h3, h5, hb23] at hb35
 refine AT_exit ?_
 refine hK6 _ ?_
 refine sr fun Z z => ?_
 have hdta := deps_wts ta
 have hdl := depEs_wts (l.take k)
 have hwtl := wtEs_take l k
 simp [row_map, h3, h5, hb23, hb35]
 repeat refine sg ?_
 refine z _ ?_
 clear z Z
 refine AT_ret ?_
 simp [row_map, Tryz.f64]
 rw [List.take_of_length_le hb35] at hM
 rw [depE, ← hD]; omega
 have hDd : D = dep t := by rw [hD]; simp [typedE, h5]
 refine sr fun Z z => ?_
 simp [row_map, h3, h5]
 refine z _ ?_
 clear z Z
 refine cT (by simp [h3, h5]) ?_
 refine AT_region_q fun Z z => ?_
 simp [row_map, h3, h5]
 refine RVn_call (c_types_Depth g rnd t (by omega)) ?_
 simp [row_map, h3, h5]
 refine z _ ?_
 clear z Z
 refine hK1 _ ?_
 refine AT_seq_k fun K10 hK10 => ?_
 refine sr fun Z z => ?_
 simp [row_map, h3, h5]
 refine z _ ?_
 clear z Z
 refine AT_block ?_
 refine AT_loop_q [3,20,21,22,1] [1] (fun j s => ∃ k M, k ≤ ta.length ∧ M = max D (deps (ta.take k)) ∧ j = ta.length - k ∧ s = { n := 45, tm := [(3, .v (.int .i64 (M : Nat)) none), (20, .v (.slice (ta.map encTy)) none), (21, .v (.int .i64 ta.length) none), (22, .v (.int .i64 k) none), (1, .lp 1 0)], bx := [(1, encE (.mk kd n t ta l p))], tb := [], sh := [], hint := [] }) (ta.length) (by first | rfl | simp) ?_ ?_
 exact ⟨0, D, by simp [deps, hDd]⟩
 rintro j s ⟨k, M, hk, hM, rfl, rfl⟩ K11 hK11
 refine sr fun Z z => ?_
 simp [row_map, h3, h5]
 refine z _ ?_
 clear z Z
 refine AT_seq_k fun K12 hK12 => ?_
 refine AT_cond (g := none) rfl (fun hb23 => ?_) (fun hb23 => ?_)
 simp [row_map, h3, h5] at hb23
 refine AT_skip ?_
 refine hK12 _ ?_
 refine AT_seq_k fun K13 hK13 => ?_
 refine AT_block ?_
 refine sr fun Z z => ?_
 have hm := wts_mem (l := ta) (t := ta[k]) (by simp)
 have hdk := dep_wt ta[k]
 have hdtk := deps_wts (ta.take k)
 have hwt := wts_take ta k
 simp [row_map, h3, h5, hb23]
 refine z _ ?_
 clear z Z
 refine AT_region_q fun Z z => ?_
 simp [row_map, h3, h5, hb23]
 refine RVn_call (c_types_Depth g rnd ta[k] (by omega)) ?_
 simp [row_map, h3, h5, hb23]
 refine z _ ?_
 clear z Z
 refine hK13 _ ?_
 refine AT_region_q fun Z z => ?_
 simp [row_map, h3, h5, hb23]
 repeat refine sg ?_
 refine z _ ?_
 clear z Z
 refine hK11 _ (by first | rfl | simp) (ta.length - (k+1)) (by omega) ?_
 refine ⟨k+1, max M (dep ta[k]), by omega, by rw [deps_take _ _ hb23]; omega, by omega, ?_⟩
 simp
 try (split <;> omega)
 simp [row_map, h3, h5] at hb23
 refine AT_exit ?_
 refine hK10 _ ?_
 refine AT_seq_k fun K14 hK14 => ?_
 refine sr fun Z z => ?_
 simp [row_map, h3, h5, hb23]
 refine z _ ?_
 clear z Z
 refine AT_block ?_
 refine AT_loop_q [3,32,33,34,1] [1] (fun j s => ∃ k M, k ≤ l.length ∧ M = max (max D (deps ta)) (depEs (l.take k)) ∧ j = l.length - k ∧ s = { n := 45, tm := [(3, .v (.int .i64 (M : Nat)) none), (32, .v (.slice (l.map encE)) none), (33, .v (.int .i64 l.length) none), (34, .v (.int .i64 k) none), (1, .lp 1 0)], bx := [(1, encE (.mk kd n t ta l p))], tb := [], sh := [], hint := [] }) (l.length) (by first | rfl | simp) ?_ ?_
 rw [List.take_of_length_le hb23] at hM
 exact ⟨0, M, by simp [depEs, hM]⟩
 rintro j s ⟨k, M, hk, hM, rfl, rfl⟩ K15 hK15
 refine sr fun Z z => ?_
 simp [row_map, h3, h5, hb23]
 refine z _ ?_
 clear z Z
 refine AT_seq_k fun K16 hK16 => ?_
 refine AT_cond (g := none) rfl (fun hb35 => ?_) (fun hb35 => ?_)
 simp [row_map, h3, h5, hb23] at hb35
 refine AT_skip ?_
 refine hK16 _ ?_
 refine AT_seq_k fun K17 hK17 => ?_
 refine AT_block ?_
 refine sr fun Z z => ?_
 have hm := wtEs_mem (l := l) (e := l[k]) (by simp)
 have hdk := depE_wt l[k]
 have hdlk := depEs_wts (l.take k)
 have hwtl := wtEs_take l k
 have hdta := deps_wts ta
 simp [row_map, h3, h5, hb23, hb35]
 refine z _ ?_
 clear z Z
 refine AT_region_q fun Z z => ?_
 simp [row_map, h3, h5, hb23, hb35]
 refine RVn_call (ih l[k] (by simp) (by omega)) ?_
 simp [row_map, h3, h5, hb23, hb35]
 refine z _ ?_
 clear z Z
 refine hK17 _ ?_
 refine AT_region_q fun Z z => ?_
 simp [row_map, h3, h5, hb23, hb35]
 repeat refine sg ?_
 refine z _ ?_
 clear z Z
 refine hK15 _ (by first | rfl | simp) (l.length - (k+1)) (by omega) ?_
 refine ⟨k+1, max M (depE l[k]), by omega, by rw [depEs_take _ _ hb35]; omega, by omega, ?_⟩
 simp
 try (split <;> omega)
 simp [row_map, h3, h5, hb23] at hb35
 refine AT_exit ?_
 refine hK14 _ ?_
 refine sr fun Z z => ?_
 have hdta := deps_wts ta
 have hdl := depEs_wts (l.take k)
 have hwtl := wtEs_take l k
 simp [row_map, h3, h5, hb23, hb35]
 repeat refine sg ?_
 refine z _ ?_
 clear z Z
 refine AT_ret ?_
 simp [row_map, Tryz.f64]
 rw [List.take_of_length_le hb35] at hM
 rw [depE, ← hD]; omega
 have hDd : D = dep t := by rw [hD]; simp [typedE, h3]
 refine sr fun Z z => ?_
 simp [row_map, h3]
 refine z _ ?_
 clear z Z
 refine cT (by simp [h3]) ?_
 refine AT_region_q fun Z z => ?_
 simp [row_map, h3]
 refine RVn_call (c_types_Depth g rnd t (by omega)) ?_
 simp [row_map, h3]
 refine z _ ?_
 clear z Z
 refine hK1 _ ?_
 refine AT_seq_k fun K18 hK18 => ?_
 refine sr fun Z z => ?_
 simp [row_map, h3]
 refine z _ ?_
 clear z Z
 refine AT_block ?_
 refine AT_loop_q [3,20,21,22,1] [1] (fun j s => ∃ k M, k ≤ ta.length ∧ M = max D (deps (ta.take k)) ∧ j = ta.length - k ∧ s = { n := 45, tm := [(3, .v (.int .i64 (M : Nat)) none), (20, .v (.slice (ta.map encTy)) none), (21, .v (.int .i64 ta.length) none), (22, .v (.int .i64 k) none), (1, .lp 1 0)], bx := [(1, encE (.mk kd n t ta l p))], tb := [], sh := [], hint := [] }) (ta.length) (by first | rfl | simp) ?_ ?_
 exact ⟨0, D, by simp [deps, hDd]⟩
 rintro j s ⟨k, M, hk, hM, rfl, rfl⟩ K19 hK19
 refine sr fun Z z => ?_
 simp [row_map, h3]
 refine z _ ?_
 clear z Z
 refine AT_seq_k fun K20 hK20 => ?_
 refine AT_cond (g := none) rfl (fun hb23 => ?_) (fun hb23 => ?_)
 simp [row_map, h3] at hb23
 refine AT_skip ?_
 refine hK20 _ ?_
 refine AT_seq_k fun K21 hK21 => ?_
 refine AT_block ?_
 refine sr fun Z z => ?_
 have hm := wts_mem (l := ta) (t := ta[k]) (by simp)
 have hdk := dep_wt ta[k]
 have hdtk := deps_wts (ta.take k)
 have hwt := wts_take ta k
 simp [row_map, h3, hb23]
 refine z _ ?_
 clear z Z
 refine AT_region_q fun Z z => ?_
 simp [row_map, h3, hb23]
 refine RVn_call (c_types_Depth g rnd ta[k] (by omega)) ?_
 simp [row_map, h3, hb23]
 refine z _ ?_
 clear z Z
 refine hK21 _ ?_
 refine AT_region_q fun Z z => ?_
 simp [row_map, h3, hb23]
 repeat refine sg ?_
 refine z _ ?_
 clear z Z
 refine hK19 _ (by first | rfl | simp) (ta.length - (k+1)) (by omega) ?_
 refine ⟨k+1, max M (dep ta[k]), by omega, by rw [deps_take _ _ hb23]; omega, by omega, ?_⟩
 simp
 try (split <;> omega)
 simp [row_map, h3] at hb23
 refine AT_exit ?_
 refine hK18 _ ?_
 refine AT_seq_k fun K22 hK22 => ?_
 refine sr fun Z z => ?_
 simp [row_map, h3, hb23]
 refine z _ ?_
 clear z Z
 refine AT_block ?_
 refine AT_loop_q [3,32,33,34,1] [1] (fun j s => ∃ k M, k ≤ l.length ∧ M = max (max D (deps ta)) (depEs (l.take k)) ∧ j = l.length - k ∧ s = { n := 45, tm := [(3, .v (.int .i64 (M : Nat)) none), (32, .v (.slice (l.map encE)) none), (33, .v (.int .i64 l.length) none), (34, .v (.int .i64 k) none), (1, .lp 1 0)], bx := [(1, encE (.mk kd n t ta l p))], tb := [], sh := [], hint := [] }) (l.length) (by first | rfl | simp) ?_ ?_
 rw [List.take_of_length_le hb23] at hM
 exact ⟨0, M, by simp [depEs, hM]⟩
 rintro j s ⟨k, M, hk, hM, rfl, rfl⟩ K23 hK23
 refine sr fun Z z => ?_
 simp [row_map, h3, hb23]
 refine z _ ?_
 clear z Z
 refine AT_seq_k fun K24 hK24 => ?_
 refine AT_cond (g := none) rfl (fun hb35 => ?_) (fun hb35 => ?_)
 simp [row_map, h3, hb23] at hb35
 refine AT_skip ?_
 refine hK24 _ ?_
 refine AT_seq_k fun K25 hK25 => ?_
 refine AT_block ?_
 refine sr fun Z z => ?_
 have hm := wtEs_mem (l := l) (e := l[k]) (by simp)
 have hdk := depE_wt l[k]
 have hdlk := depEs_wts (l.take k)
 have hwtl := wtEs_take l k
 have hdta := deps_wts ta
 simp [row_map, h3, hb23, hb35]
 refine z _ ?_
 clear z Z
 refine AT_region_q fun Z z => ?_
 simp [row_map, h3, hb23, hb35]
 refine RVn_call (ih l[k] (by simp) (by omega)) ?_
 simp [row_map, h3, hb23, hb35]
 refine z _ ?_
 clear z Z
 refine hK25 _ ?_
 refine AT_region_q fun Z z => ?_
 simp [row_map, h3, hb23, hb35]
 repeat refine sg ?_
 refine z _ ?_
 clear z Z
 refine hK23 _ (by first | rfl | simp) (l.length - (k+1)) (by omega) ?_
 refine ⟨k+1, max M (depE l[k]), by omega, by rw [depEs_take _ _ hb35]; omega, by omega, ?_⟩
 simp
 try (split <;> omega)
 simp [row_map, h3, hb23] at hb35
 refine AT_exit ?_
 refine hK22 _ ?_
 refine sr fun Z z => ?_
 have hdta := deps_wts ta
 have hdl := depEs_wts (l.take k)
 have hwtl := wtEs_take l k
 simp [row_map, h3, hb23, hb35]
 repeat refine sg ?_
 refine z _ ?_
 clear z Z
 refine AT_ret ?_
 simp [row_map, Tryz.f64]
 rw [List.take_of_length_le hb35] at hM
 rw [depE, ← hD]; omega

end Go.Proofs.YtdifpfehijnmiaaGreatDoor
end

section
/- Contracts. -/
set_option linter.all false
set_option maxHeartbeats 1000000
set_option maxRecDepth 10000
namespace Go.Proofs.YtdifpfehijnmiaaGreatDoor
open Go Go.Pv
variable (g : Nat → Option (List AV)) (rnd : Bool)

theorem c_types_Right_z (t : Ty) (hw : wt t ≤ 1099511627776) (hres : g 0 = some reservedA) : Valid Tryz.prog (G0 g false) 88 [.agg (encTy t)] (.bool (rightT t)) := by

 refine valid_of [] Tryz.func88 rfl (by kernel_rfl) ?_
 refine sr fun Z z => ?_
 simp [Tryz.f88]
 refine z _ ?_
 clear z Z
 refine AT_seq_k fun K1 hK1 => ?_
 refine sr fun Z z => ?_
 simp
 refine RVn_call (c_types_Names g false t) ?_
 simp
 refine z _ ?_
 clear z Z
 refine AT_block ?_
 refine AT_keep [2,5] [2] (by first | rfl | simp) ?_
 refine AT_rangeFunc rfl rfl (by first | rfl | simp) (by first | decide | simp) [2] (by decide) (elP ((lst t).map AV.str)) (goN) (feedG goN [] ((lst t).map AV.str)) (fun Y hP hgo hel => ⟨_, by have h := c_types_Names_1 g Y hP t hw [] (elOk_P hel _ _ (by simp)); rw [feed_G, hgo] at h; exact h⟩) (fun s => { n := 10, tm := [(2, .lp 2 0), (5, .v (.func 144 [.ro (encTy t)]) none)], bx := [(2, [.bool false])], tb := [], sh := [], hint := [] }) (by first | rfl | simp) ?_ ?_
 intro s x hel
 obtain ⟨n, rfl, hn⟩ := elP_str hel
 refine AT_region_q fun Z z => ?_
 simp
 refine z _ ?_
 clear z Z
 refine AT_block ?_
 refine sr fun Z z => ?_
 simp
 refine RVn_call (c_name_Is g true n (rightT_len hw n hn) hres) ?_
 simp
 refine z _ ?_
 clear z Z
 refine AT_cond (g := none) rfl (fun hb9 => ?_) (fun hb9 => ?_)
 simp at hb9
 refine sr fun Z z => ?_
 simp [hb9]
 refine z _ ?_
 clear z Z
 refine AT_ret ?_
 refine ⟨by simpa [goN] using hb9, by first | rfl | simp [tmOk], [2], by first | rfl | simp, ?_⟩
 refine AT_ret ?_
 simp [Tryz.f88]
 (· have hz : rightT t = false := by rw [rightT, List.all_eq_false]; exact ⟨n, hn, by simp [hb9]⟩
    simp [hz, AS.out])
 simp at hb9
 refine AT_skip ?_
 refine ⟨by simpa [goN] using hb9, by first | rfl | simp [tmOk], [2], by first | rfl | simp, ?_⟩
 simp [AS.out]
 intro hfin
 rw [feedG_goN] at hfin
 refine hK1 _ ?_
 refine sr fun Z z => ?_
 simp
 refine z _ ?_
 clear z Z
 refine AT_ret ?_
 simp [Tryz.f88]
 (· simp [rightT, hfin])

theorem c_types_Right (t : Ty) (hw : wt t ≤ 1099511627776) (hres : g 0 = some reservedA) : Valid Tryz.prog (G0 g rnd) 88 [.agg (encTy t)] (.bool (rightT t)) := (c_types_Right_z g t hw hres).gl rfl

end Go.Proofs.YtdifpfehijnmiaaGreatDoor
end
