import Derived.Test.YtocmdbojefgpbaaGreatDoorPvF
import Derived.Laws.BytesArg
import Derived.Laws.IdiomStrings
set_option linter.all false
section
/- More operations: slice expressions, struct values, function values. -/
namespace Go.Pv
open Go

theorem slice_res {lim : Lim} {h : Array Obj} {p : Option Addr} {n cap lo hi sz : Nat} {s : List (List AV)} (r : Rep lim h (.slice p n cap) (.slice s)) (h1 : lo ≤ hi) (h2 : hi ≤ s.length) (hs : ∀ x ∈ s, x.length = sz) :
    Rep lim h (.slice (if cap = lo then p else p.map (·.add (lo * sz))) (hi - lo) (cap - lo)) (.slice ((s.take hi).drop lo)) := by
  obtain ⟨hn, hcap⟩ := r.slice_len
  rcases Nat.lt_or_ge lo hi with hlt | hge
  · have hne : cap ≠ lo := by omega
    cases r with
    | slice0 => simp at h2; omega
    | slice b off cap sz' s vs hcap' hrow hc hr =>
      rw [if_neg hne]
      simp only [Option.map_some, Addr.add_lit]
      exact Rep.slice_sub (.slice b off cap sz' s vs hcap' hrow hc hr) lo hi _ sz h1 h2 (by omega) hs
  · have e : (s.take hi).drop lo = [] := by
      apply List.eq_nil_of_length_eq_zero
      simp; omega
    rw [e, show hi - lo = 0 by omega]
    exact .slice0 _ _

theorem arrT_spec {P : Program} {t n e : Nat} (h : arrT P t = some (n, e)) : P.underlying t = some (.array n e) ∧ (P.info? e).isSome = true := by
  unfold arrT at h
  split at h
  · split at h
    · injection h with h; injection h with h1 h2; subst h1; subst h2; exact ⟨by assumption, by assumption⟩
    · cases h
  · cases h

theorem sliceR_sound {P : Program} {gh : Gh} {w : World} {t : TypeId} {x : Option AV} {lo hi : Option (Option AV)} {vx : Value} {vlo vhi : Option Value} {c : Prop} {z : TV}
    (hx : ∀ a, x = some a → Rep gh.lim w.heap vx a) (hlo : ∀ a, lo = some a → ∃ v, vlo = some v ∧ ∀ y, a = some y → Rep gh.lim w.heap v y) (hlo' : lo = none → vlo = none)
    (hhi : ∀ a, hi = some a → ∃ v, vhi = some v ∧ ∀ y, a = some y → Rep gh.lim w.heap v y) (hhi' : hi = none → vhi = none)
    (h : sliceR P t x lo hi = .val c z) (hc : c) : Yl P gh w (Instr.sliceAt t vx vlo vhi none) z := by
  unfold sliceR at h
  split at h
  · -- a string
    obtain rfl := rep_str (hx _ rfl)
    rename_i s
    split at h
    · rename_i hu
      simp only [if_true] at h
      have key : ∀ (l hh : Nat), l ≤ hh → hh ≤ s.length → (Instr.slice t (.string ⟨s.toArray⟩) vlo vhi none).run P w = .ok (.string ((⟨s.toArray⟩ : ByteArray).extract l hh)) w →
          Yl P gh w (Instr.sliceAt t (.string ⟨s.toArray⟩) vlo vhi none) (.v (.str ((s.take hh).drop l)) none) := by
        intro l hh h1 h2 hrun
        refine ⟨.string ⟨((s.take hh).drop l).toArray⟩, ?_, trep_str _ _ _⟩
        unfold Instr.sliceAt
        simp only [Sem.run_bind, run_underlying hu, Result.andThen_ok]
        rw [hrun, extract_str s l hh h1 h2]
      split at h
      · obtain rfl := hlo' rfl
        obtain rfl := hhi' rfl
        simp only [OR.val.injEq] at h
        obtain ⟨h1, rfl⟩ := h
        have := key 0 s.length (by omega) (by omega) (by rw [extract_str s 0 s.length (by omega) (by omega)]; simp [Instr.slice, run_underlying hu, Instr.sliceBounds])
        simpa using this
      · rename_i k hh
        obtain rfl := hlo' rfl
        obtain ⟨v, rfl, hv⟩ := hhi _ rfl
        obtain rfl := rep_int (hv _ rfl)
        simp only [OR.val.injEq] at h
        obtain ⟨h1, rfl⟩ := h
        subst h1
        have := key 0 hh.toNat (by omega) (by omega) (by simp [Instr.slice, run_underlying hu, Instr.sliceBounds, Instr.sliceBound, asIntOf, ba_size, hc.1, hc.2])
        simpa using this
      · rename_i k l
        obtain rfl := hhi' rfl
        obtain ⟨v, rfl, hv⟩ := hlo _ rfl
        obtain rfl := rep_int (hv _ rfl)
        simp only [OR.val.injEq] at h
        obtain ⟨h1, rfl⟩ := h
        subst h1
        have := key l.toNat s.length (by omega) (by omega) (by simp [Instr.slice, run_underlying hu, Instr.sliceBounds, Instr.sliceBound, asIntOf, ba_size, hc.1, hc.2])
        simpa using this
      · rename_i k l k' hh
        obtain ⟨v, rfl, hv⟩ := hlo _ rfl
        obtain rfl := rep_int (hv _ rfl)
        obtain ⟨v', rfl, hv'⟩ := hhi _ rfl
        obtain rfl := rep_int (hv' _ rfl)
        simp only [OR.val.injEq] at h
        obtain ⟨h1, rfl⟩ := h
        subst h1
        have g1 : 0 ≤ hh := by omega
        have g2 : max hh 0 = hh := by omega
        have g3 : l ≤ (hh.toNat : Int) := by omega
        exact key l.toNat hh.toNat (by omega) (by omega) (by simp [Instr.slice, run_underlying hu, Instr.sliceBounds, Instr.sliceBound, asIntOf, ba_size, hc.1, hc.2, g1, g2])
      · cases h
    · simp at h
  · -- a slice
    rename_i s
    obtain ⟨p, cap, rfl, hcap⟩ := (hx _ rfl).slice_form
    have hxr := hx _ rfl
    split at h
    · rename_i e he
      obtain ⟨hu, hi⟩ := elemT_spec he
      have key : ∀ (l hh : Nat), l ≤ hh → hh ≤ s.length → Rows (esz P e) s → (Instr.slice t (.slice p s.length cap) vlo vhi none).run P w = .ok (.slice (if cap = l then p else p.map (·.add (l * esz P e))) (hh - l) (cap - l)) w →
          Yl P gh w (Instr.sliceAt t (.slice p s.length cap) vlo vhi none) (.v (.slice ((s.take hh).drop l)) none) := by
        intro l hh h1 h2 h3 hrun
        refine ⟨_, ?_, trep_v (slice_res hxr h1 h2 (fun r hr => (h3 r hr).1))⟩
        unfold Instr.sliceAt
        simp only [Sem.run_bind, run_underlying hu, Result.andThen_ok]
        exact hrun
      split at h
      · obtain rfl := hlo' rfl
        obtain rfl := hhi' rfl
        simp only [OR.val.injEq] at h
        obtain ⟨h1, rfl⟩ := h
        subst h1
        have := key 0 s.length (by omega) (by omega) hc (by simp [Instr.slice, run_underlying hu, Instr.sliceBounds, run_sizeOf hi])
        simpa using this
      · rename_i k hh
        obtain rfl := hlo' rfl
        obtain ⟨v, rfl, hv⟩ := hhi _ rfl
        obtain rfl := rep_int (hv _ rfl)
        simp only [OR.val.injEq] at h
        obtain ⟨h1, rfl⟩ := h
        subst h1
        have g1 : hh ≤ (cap : Int) := by omega
        have := key 0 hh.toNat (by omega) (by omega) hc.2 (by simp [Instr.slice, run_underlying hu, Instr.sliceBounds, Instr.sliceBound, asIntOf, run_sizeOf hi, hc.1.1, g1])
        simpa using this
      · rename_i k l
        obtain rfl := hhi' rfl
        obtain ⟨v, rfl, hv⟩ := hlo _ rfl
        obtain rfl := rep_int (hv _ rfl)
        simp only [OR.val.injEq] at h
        obtain ⟨h1, rfl⟩ := h
        subst h1
        have := key l.toNat s.length (by omega) (by omega) hc.2 (by simp [Instr.slice, run_underlying hu, Instr.sliceBounds, Instr.sliceBound, asIntOf, run_sizeOf hi, hc.1.1, hc.1.2])
        simpa using this
      · rename_i k l k' hh
        obtain ⟨v, rfl, hv⟩ := hlo _ rfl
        obtain rfl := rep_int (hv _ rfl)
        obtain ⟨v', rfl, hv'⟩ := hhi _ rfl
        obtain rfl := rep_int (hv' _ rfl)
        simp only [OR.val.injEq] at h
        obtain ⟨h1, rfl⟩ := h
        subst h1
        have g1 : 0 ≤ hh := by omega
        have g2 : max hh 0 = hh := by omega
        have g3 : hh ≤ (cap : Int) := by omega
        exact key l.toNat hh.toNat (by omega) (by omega) hc.2 (by simp [Instr.slice, run_underlying hu, Instr.sliceBounds, Instr.sliceBound, asIntOf, run_sizeOf hi, hc.1.1, hc.1.2.1, g1, g2, g3])
      · cases h
    · cases h
  · -- an array, through a pointer
    rename_i l
    split at h
    · rename_i n e ha
      split at h
      · rename_i h1
        simp only [OR.val.injEq] at h
        obtain ⟨rfl, rfl⟩ := h
        obtain rfl := hlo' rfl
        obtain rfl := hhi' rfl
        obtain ⟨b, off, vs, rfl, hr, hcell⟩ := Rep.ro_iff.1 (hx _ rfl)
        obtain ⟨hu, hi⟩ := arrT_spec ha
        refine ⟨.slice (some ⟨b, off, none⟩) n n, ?_, trep_v ?_⟩
        · unfold Instr.sliceAt
          simp [run_underlying hu, Instr.sureAddr, Instr.sliceBounds, run_sizeOf hi, Addr.add]
        · have hlen : ((l.take n).map fun x => [x]).length = n := by simp; omega
          have := Rep.slice (lim := gh.lim) (h := w.heap) b off n 1 ((l.take n).map fun x => [x]) (fun j => vs.getD j undef) (by omega) (fun i r hr => by
            simp only [List.getElem?_map] at hr
            cases hq : (l.take n)[i]? with
            | none => rw [hq] at hr; cases hr
            | some y => rw [hq] at hr; simp at hr; subst hr; rfl) (fun j hj => by
              have hj' : j < vs.length := by rw [hr.1]; omega
              have := hcell j vs[j] (by simp [hj'])
              simpa [List.getD, hj'] using this) (fun i j r x h2 h3 => by
              simp only [List.getElem?_map] at h2
              cases hq : (l.take n)[i]? with
              | none => rw [hq] at h2; cases h2
              | some y =>
                rw [hq] at h2; simp at h2; subst h2
                cases j with
                | succ j => simp at h3
                | zero =>
                  simp at h3; subst h3
                  rw [List.getElem?_take] at hq
                  split at hq
                  · have := hr.2 i y hq
                    simpa using this
                  · cases hq)
          rwa [hlen] at this
      · cases h
    · cases h
  · cases h

theorem flat_rep {lim : Lim} {h : Array Obj} {v : Value} {y : AV} (r : Rep lim h v y) : v.cells.size = (flat y).length → RepL lim h v.cells.toList (flat y) := by
  intro _
  cases y with
  | agg l =>
    obtain ⟨cs, rfl, hr⟩ := Rep.agg_iff.1 r
    exact hr
  | _ =>
    have hone : v.cells = #[v] := by first | exact r.cells_one rfl | (cases r; rfl)
    rw [hone]
    exact RepL.cons r (RepL.nil _ _)

theorem flat_len {lim : Lim} {h : Array Obj} {v : Value} {y : AV} (r : Rep lim h v y) : v.cells.size = (flat y).length := by
  cases y with
  | agg l =>
    obtain ⟨cs, rfl, hr⟩ := Rep.agg_iff.1 r
    simpa [Value.cells, flat] using hr.1
  | _ =>
    have hone : v.cells = #[v] := by first | exact r.cells_one rfl | (cases r; rfl)
    rw [hone]
    rfl

theorem flatRep {lim : Lim} {h : Array Obj} {v : Value} {y : AV} (r : Rep lim h v y) : RepL lim h v.cells.toList (flat y) := flat_rep r (flat_len r)

theorem fill_part (cells : Array Value) (vs : Array Value) (off : Nat) (h : off + vs.size ≤ cells.size) :
    vs.zipIdx.foldl (fun cs (c, j) => cs.setIfInBounds (off + j) c) cells = (cells.toList.take off ++ vs.toList ++ cells.toList.drop (off + vs.size)).toArray := by
  have key : ∀ (l : List Value) (k : Nat) (cells : Array Value), off + k + l.length ≤ cells.size →
      (l.zipIdx k).foldl (fun (cs : Array Value) (p : Value × Nat) => cs.setIfInBounds (off + p.2) p.1) cells = (cells.toList.take (off + k) ++ l ++ cells.toList.drop (off + k + l.length)).toArray := by
    intro l
    induction l with
    | nil => intro k cells _; simp
    | cons v l ih =>
      intro k cells hk
      simp only [List.length_cons] at hk
      rw [List.zipIdx_cons, List.foldl_cons, ih (k + 1) _ (by simp; omega)]
      have hlt : off + k < cells.toList.length := by simp; omega
      apply Array.ext'
      simp only [Array.toList_setIfInBounds, List.append_assoc, List.length_cons]
      rw [show off + (k + 1) = off + k + 1 by omega, List.take_succ_eq_append_getElem (by simpa using hlt)]
      rw [List.drop_set_of_lt (by omega)]
      simp [List.take_set_of_le, show off + k + 1 + l.length = off + k + (l.length + 1) by omega]
  have := key vs.toList 0 cells (by simpa using h)
  rw [← Array.foldl_toList, Array.toList_zipIdx]
  simpa using this


theorem fill_sound {P : Program} {gh : Gh} {h : Array Obj} {t : Nat} {ρ : Operand → Value} {e : Operand → TV} (he : ∀ x, TRep gh h (ρ x) (e x)) (pl : Nat → Option (Nat × Nat))
    (hpl : ∀ i o, foff P t i = some o → pl i = some (o, esz P (ftyp P t i))) :
    ∀ (parts : List (Nat × Operand)) (cells cells' : List AV) (c : Prop) (cs : Array Value) (ns : List Nat), fillA P t e parts cells = some (cells', c) → c → RepL gh.lim h cs.toList cells →
      (∀ j ∈ ns, cs[j]? = some (.slice none 0 0)) →
      ∃ cs', Instr.fill pl cs (parts.map fun p => (p.1, ρ p.2)) = some cs' ∧ RepL gh.lim h cs'.toList cells' ∧ ∀ j ∈ nilsLeft P t parts ns, cs'[j]? = some (.slice none 0 0) := by
  intro parts
  induction parts with
  | nil =>
    intro cells cells' c cs ns h1 h2 h3 h4
    simp only [fillA, Option.some.injEq, Prod.mk.injEq] at h1
    obtain ⟨rfl, rfl⟩ := h1
    exact ⟨cs, rfl, h3, h4⟩
  | cons p parts ih =>
    obtain ⟨i, x⟩ := p
    intro cells cells' c cs ns h1 h2 h3 h4
    simp only [fillA] at h1
    split at h1
    · rename_i o y ho hy
      have hv := av_rep (he x) hy
      have hfl := flat_len hv
      cases hr : fillA P t e parts (splice cells o (flat y)) with
      | none => rw [hr] at h1; simp at h1
      | some q =>
        rw [hr] at h1
        simp only [Option.map_some, Option.some.injEq, Prod.mk.injEq] at h1
        obtain ⟨h5, h6⟩ := h1
        rw [← h6] at h2
        obtain ⟨⟨hsz, hfit⟩, hq⟩ := h2
        have hcsz : cs.size = cells.length := by simpa using h3.1
        have hfill : (ρ x).cells.zipIdx.foldl (fun cs (c, j) => cs.setIfInBounds (o + j) c) cs = (cs.toList.take o ++ (ρ x).cells.toList ++ cs.toList.drop (o + (ρ x).cells.size)).toArray :=
          fill_part cs (ρ x).cells o (by omega)
        have hrep : RepL gh.lim h (cs.toList.take o ++ (ρ x).cells.toList ++ cs.toList.drop (o + (ρ x).cells.size)).toArray.toList (splice cells o (flat y)) := by
          unfold splice
          rw [← hfl]
          exact ((h3.take o).append (flatRep hv)).append (h3.drop _)
        obtain ⟨cs', g1, g2, g3⟩ := ih (splice cells o (flat y)) q.1 q.2 _ (ns.filter fun j => match foff P t i with | some o => !(decide (o ≤ j) && decide (j < o + esz P (ftyp P t i))) | none => false) hr hq hrep (fun j hj => by
          obtain ⟨hj1, hj2⟩ := List.mem_filter.1 hj
          rw [ho] at hj2
          simp only [Bool.not_eq_true', Bool.and_eq_false_iff, decide_eq_false_iff_not] at hj2
          have h7 := h4 j hj1
          have hjlt : j < cs.size := (Array.getElem?_eq_some_iff.1 h7).1
          have htl : (cs.toList.take o).length = o := by simp; omega
          have hvl : (ρ x).cells.toList.length = esz P (ftyp P t i) := by rw [Array.length_toList, hfl, hsz]
          rw [List.getElem?_toArray]
          rcases Nat.lt_or_ge j o with hlt | hge
          · rw [List.append_assoc, List.getElem?_append_left (by omega), List.getElem?_take, if_pos hlt]
            simpa using h7
          · have hge2 : o + esz P (ftyp P t i) ≤ j := by omega
            rw [List.getElem?_append_right (by rw [List.length_append, htl, hvl]; omega), List.getElem?_drop, List.length_append, htl, hvl]
            have hvl' : (ρ x).cells.size = esz P (ftyp P t i) := by rw [hfl, hsz]
            rw [hvl', show o + esz P (ftyp P t i) + (j - (o + esz P (ftyp P t i))) = j by omega]
            simpa using h7)
        refine ⟨cs', ?_, h5 ▸ g2, g3⟩
        simp only [List.map_cons, Instr.fill, hpl i o ho]
        rw [if_neg (by rw [hfl, hsz]; simp; omega), hfill]
        exact g1
    · cases h1

theorem azero_spec {P : Program} {t : Nat} {cells : List AV} (h : azero P t = some cells) (gh : Gh) (hp : Array Obj) : ∃ i z, P.info? t = some i ∧ i.zero = some z ∧ z.cells.size = i.size ∧ RepL gh.lim hp z.cells.toList cells ∧ ∀ j ∈ nilPos P t, z.cells[j]? = some (.slice none 0 0) := by
  unfold azero at h
  cases hi : P.info? t with
  | none => rw [hi] at h; simp at h
  | some i =>
    cases hz : i.zero with
    | none => rw [hi] at h; simp [hz] at h
    | some z =>
      simp only [hi, Option.bind_some, hz] at h
      split at h
      · rename_i hc
        simp only [Bool.and_eq_true, List.all_eq_true, beq_iff_eq] at hc
        injection h with h
        subst h
        refine ⟨i, z, rfl, hz, by rw [hc.2]; simp [esz, hi], ⟨by simp, fun j x hx => ?_⟩, fun j hj => ?_⟩
        · simp only [List.getElem?_map] at hx
          cases hv : z.cells.toList[j]? with
          | none => rw [hv] at hx; cases hx
          | some v =>
            rw [hv] at hx
            simp only [Option.map_some, Option.some.injEq] at hx
            have hmem := hc.1 v (List.mem_of_getElem? hv)
            have hrep := cv_rep gh hp v
            rw [List.getD_eq_getElem?_getD, hv]
            subst hx
            unfold cvA
            split at hmem
            · rename_i y g hcv
              rw [hcv] at hrep
              exact hrep.1
            · cases hmem
        · simp only [nilPos, hi, Option.bind_some, hz] at hj
          obtain ⟨_, h2⟩ := List.mem_filter.1 hj
          revert h2
          cases z.cells[j]? with
          | none => intro h2; cases h2
          | some v =>
            intro h2
            split at h2
            · rename_i h3; injection h3 with h3; rw [h3]
            · cases h2
      · cases h

def knownF (P : Program) (t : Nat) : Bool :=
  match P.underlying t with
  | some (.struct fs) => fs.toList.all fun f => (P.info? f.type).isSome
  | _ => false

theorem places_of {P : Program} {t : Nat} {fs : Array Field} (hu : P.underlying t = some (.struct fs)) (hk : knownF P t = true) :
    ∃ places, fs.toList.mapM (fun f => (P.info? f.type).map fun i => (f.offset, i.size)) = some places ∧ ∀ i o, foff P t i = some o → places.toArray[i]? = some (o, esz P (ftyp P t i)) := by
  simp only [knownF, hu] at hk
  have key : ∀ (l : List Field), (l.all fun f => (P.info? f.type).isSome) = true → l.mapM (fun f => (P.info? f.type).map fun i => (f.offset, i.size)) = some (l.map fun f => (f.offset, esz P f.type)) := by
    intro l
    induction l with
    | nil => intro _; rfl
    | cons f l ih =>
      intro h
      simp only [List.all_cons, Bool.and_eq_true] at h
      obtain ⟨i, hi⟩ := Option.isSome_iff_exists.1 h.1
      simp [List.mapM_cons, hi, ih h.2, esz]
  refine ⟨_, key _ hk, fun i o ho => ?_⟩
  obtain ⟨fs', x, hu', hx, hne, hox, hft⟩ := foff_spec ho
  rw [hu] at hu'
  injection hu' with hu'
  injection hu' with hu'
  subst hu'
  simp [hx, hox, hft]

end Go.Pv
end

section
/- One operation: what it does to the abstract state (opR), and that it does so. -/
namespace Go.Pv
open Go

def row (l : List (List AV)) (i : Nat) : List AV := (l[i]?).getD []

def tagAt (tb : List (Nat × Nat × Nat × Nat)) (k j : Nat) : Option (Nat × Nat) :=
  match tb with
  | [] => none
  | q :: r => if q.1 = k ∧ q.2.1 = j then some q.2.2 else tagAt r k j

def retag (g : Option (Nat × Nat)) : OR → OR
  | .val c (.v x none) => .val c (.v x g)
  | r => r

def isNil : Value → Bool
  | .slice none 0 0 => true
  | _ => false

def assignR (gl : Gl) (σ : AS) (d : Option Nat) (x : Operand) : OR :=
  match x with
  | .const v =>
    if isNil v then
      match d with
      | some d =>
        match look d σ.hint with
        | some el => if σ.usesB d then .val True (.v (.slice []) none) else .eff True (σ.put (some d) (.v (.slice []) (some (d, el))))
        | none => .val True (.v (.slice []) none)
      | none => .val True (.v (.slice []) none)
    else .val True (cv v)
  | x => .val True (ev gl σ x)

def fieldAddrR (o : Option Nat) : TV → OR
  | .lp k off => match o with | some i => .val True (.lp k (off + i)) | none => .stuck
  | .v (.ro l) _ => match o with | some i => .val True (.v (.ro (l.drop i)) none) | none => .stuck
  | .v (.gp b off) _ => match o with | some i => .val True (.v (.gp b (off + i)) none) | none => .stuck
  | _ => .stuck

def indexAddrR (P : Program) (t : Nat) : Option AV → Option AV → OR
  | some (.slice l), some (.int _ n) =>
    match elemT P t with
    | some e => .val ((0 ≤ n ∧ n < l.length) ∧ (row l n.toNat).length = esz P e) (.v (.ro (row l n.toNat)) none)
    | none => .stuck
  | some (.gs b m _), some (.int _ n) =>
    match elemT P t with
    | some e => .val (0 ≤ n ∧ n < m) (.v (.gp b (n.toNat * esz P e)) none)
    | none => .stuck
  | _, _ => .stuck

def loadOpR (P : Program) (σ : AS) (t : Nat) : TV → OR
  | .v (.ro l) _ => loadR P t l
  | .lp k off => match look k σ.bx with
    | some cells => match aggO P t with
      | some true => loadR P t (cells.drop off)
      | some false => retag (tagAt σ.tb k off) (loadR P t (cells.drop off))
      | none => .stuck
    | none => .stuck
  | .v (.gp b off) _ => match look b σ.sh with
    | some cells => loadR P t (cells.drop off)
    | none => .stuck
  | _ => .stuck

def indexR (P : Program) (t : Nat) : Option AV → Option AV → OR
  | some (.str l), some (.int _ n) => if (P.underlying t matches some .string) then .val (0 ≤ n ∧ n < l.length) (.v (.int .u8 (((l[n.toNat]?).getD 0).toNat : Int)) none) else .stuck
  | _, _ => .stuck

def nilCheckR : TV → OR
  | .lp k off => .val True (.lp k off)
  | .v (.ro l) g => .val True (.v (.ro l) g)
  | .v (.gp b o) g => .val True (.v (.gp b o) g)
  | _ => .stuck

def strT (P : Program) (t : Nat) : Bool := P.underlying t matches some .string
def bytesT (P : Program) (t : Nat) : Bool :=
  match P.underlying t with
  | some (.slice e) => (P.underlying e matches some (.int .u8))
  | _ => false
def rowNums : List (List AV) → Option (List Int)
  | [] => some []
  | [.int .u8 n] :: r => (rowNums r).map (n :: ·)
  | _ => none
theorem rowNums_spec : ∀ {rows : List (List AV)} {l : List Int}, rowNums rows = some l → rows = l.map fun n => [.int .u8 n]
  | [], l, h => by simp only [rowNums, Option.some.injEq] at h; subst h; rfl
  | r :: rows, l, h => by
    unfold rowNums at h
    split at h
    · cases h
      rename_i he
      cases he
    · rename_i n r' he
      cases he
      cases hq : rowNums rows with
      | none => rw [hq] at h; cases h
      | some m => rw [hq] at h; simp only [Option.map_some, Option.some.injEq] at h; subst h; rw [rowNums_spec hq]; rfl
    · cases h

def convertR (P : Program) (src dst : Nat) : Option AV → OR
  | some (.int _ n) => match P.underlying src, ikind P dst with
    | some _, some k => .val True (.v (.int k (k.wrap n)) none)
    | _, _ => .stuck
  | some (.slice rows) => if bytesT P src && strT P dst then
      match rowNums rows with
      | some l => .val True (.v (.str (l.map fun n => UInt8.ofNat n.toNat)) none)
      | none => .stuck
    else .stuck
  | some (.str s) => if strT P dst && (P.underlying src).isSome then .val True (.v (.str s) none) else .stuck
  | _ => .stuck

def buildR (P : Program) (t : Nat) (e : Operand → TV) (parts : List (Nat × Operand)) : OR :=
  if knownF P t then
    match azero P t with
    | some z => match fillA P t e parts z with
      | some q => .val q.2 (.bld q.1 (nilsLeft P t parts (nilPos P t)))
      | none => .stuck
    | none => .stuck
  else .stuck

def makeFuncR (fn : Fn) (first : Option (List AV)) (caps : Option (List AV)) : OR :=
  match fn, first, caps with
  | .func f, some [], some l => .val True (.v (.func f l) none)
  | .func f, some (x :: r), some [] => .val True (.v (.bfn f (x :: r)) none)
  | _, _, _ => .stuck

def lps (e : Operand → TV) : List Operand → Option (List Nat)
  | [] => some []
  | x :: r => match e x, lps e r with
    | .lp k 0, some l => some (k :: l)
    | _, _ => none
def makeClR (fn : Fn) (first : Array Operand) (caps : Option (List Nat)) : OR :=
  match fn, caps with
  | .func f, some l => if first.size = 0 then .val True (.cl f l) else .stuck
  | _, _ => .stuck

def makeIfaceR (P : Program) (t : Nat) : Option AV → OR
  | some x => if P.concrete t then .val True (.v (.iface t x) none) else .stuck
  | none => .stuck

def extractR (i : Nat) : Option AV → OR
  | some (.tup l) => match l[i]? with
    | some x => .val True (.v x none)
    | none => .stuck
  | _ => .stuck

def noCl (k : Nat) : List (Nat × TV) → Bool
  | [] => true
  | (_, .cl _ ks) :: r => !ks.contains k && noCl k r
  | (_, .un) :: r | (_, .v _ _) :: r | (_, .bld _ _) :: r | (_, .it _) :: r | (_, .lp _ _) :: r => noCl k r
theorem noCl_spec {k : Nat} : ∀ {tm : List (Nat × TV)}, noCl k tm = true → ∀ t f ks, look t tm = some (.cl f ks) → k ∉ ks
  | [], _, t, f, ks, h => by cases h
  | (j, x) :: r, hl, t, f, ks, h => by
    simp only [look] at h
    cases x <;> simp only [noCl, Bool.and_eq_true] at hl
    case cl f' ks' =>
      split at h
      · injection h with h; injection h with h1 h2; subst h2
        intro hk
        have := hl.1
        simp [hk] at this
      · exact noCl_spec hl.2 t f ks h
    all_goals
      split at h
      · injection h with h; cases h
      · exact noCl_spec hl t f ks h

def noClP (k : Nat) (tm : List (Nat × TV)) : Prop := ∀ t f ks, look t tm = some (.cl f ks) → k ∉ ks
theorem noClP_of {k : Nat} {tm : List (Nat × TV)} (h : noCl k tm = true) : noClP k tm := noCl_spec h

def boxR (σ : AS) (d : Option Nat) : TV → OR
  | .bld l ns => match d with
    | some k => match look k σ.bx with
      | none => .eff (noClP k σ.tm ∧ l.all AV.one = true) (AS.openB ({ σ with bx := (k, l) :: σ.bx }.put (some k) (.lp k 0)) k σ.hint ns)
      | some _ => .stuck
    | none => .stuck
  | .v x _ => match d with
    | some k => match look k σ.bx with
      | none => .eff (noClP k σ.tm ∧ (flat x).all AV.one = true) ({ σ with bx := (k, flat x) :: σ.bx }.put (some k) (.lp k 0))
      | some _ => .stuck
    | none => .stuck
  | _ => .stuck

def allocR (P : Program) (σ : AS) (d : Option Nat) (t : Nat) : OR :=
  match azero P t, d with
  | some z, some k => match look k σ.bx with
    | none => .eff (noClP k σ.tm) (AS.openB ({ σ with bx := (k, z) :: σ.bx }.put (some k) (.lp k 0)) k σ.hint (nilPos P t))
    | some _ => .stuck
  | _, _ => .stuck

def tagOf : TV → Option (Nat × Nat)
  | .v _ g => g
  | _ => none
def nsOf : TV → List Nat
  | .bld _ ns => ns
  | _ => []

def storeR (P : Program) (σ : AS) (t : Nat) (a x : TV) : OR :=
  match x.av with
  | none => .stuck
  | some y =>
    match a with
    | .lp k off => match look k σ.bx with
      | some cells => .eff ((flat y).length = esz P t ∧ off + (flat y).length ≤ cells.length ∧ (flat y).all AV.one = true)
          (AS.openB { σ with bx := (k, splice cells off (flat y)) :: σ.bx, tb := tbOf k off (tagOf x) ++ clr σ.tb k off (esz P t) } k σ.hint ((nsOf x).map (off + ·)))
      | none => .stuck
    | .v (.gp b off) _ => match look b σ.sh with
      | some cells => .eff ((flat y).length = esz P t ∧ off + (flat y).length ≤ cells.length ∧ (flat y).all AV.one = true) { σ with sh := (b, splice cells off (flat y)) :: σ.sh }
      | none => .stuck
    | _ => .stuck

def rowsOf (e : Operand → TV) : Nat → List (Nat × Operand) → Option (List (List AV))
  | _, [] => some []
  | i, (j, x) :: r => if i = j then
      match (e x).av, rowsOf e (i + 1) r with
      | some y, some l => some (flat y :: l)
      | _, _ => none
    else none

def buildSliceR (P : Program) (σ : AS) (d : Option Nat) (t len : Nat) (rows : Option (List (List AV))) : OR :=
  match elemT P t, rows with
  | some e, some l => if len * esz P e ≤ 16777216 ∧ l.length = len ∧ (azero P e).isSome = true ∧ esz P e ≠ 0 then
      match d with
      | some k => match look k σ.hint with
        | some el => if σ.usesB k = false ∧ el = e then .eff (Rows (esz P e) l) (σ.put (some k) (.v (.slice l) (some (k, e)))) else .val (Rows (esz P e) l) (.v (.slice l) none)
        | none => match look (300000 + k) σ.hint with
          | some _ => .val (Rows (esz P e) l) (.v (.slX l) none)
          | none => .val (Rows (esz P e) l) (.v (.slice l) none)
      | none => .stuck
    else .stuck
  | _, _ => .stuck

def appOk (P : Program) (e : Nat) : Bool :=
  match P.info? e with
  | some i => match i.zero with
    | some z => z.cells.size == i.size && i.bytes != 0
    | none => false
  | none => false

def appendR (P : Program) (σ : AS) (d : Option Nat) (t : Nat) (s : TV) (x : Option AV) : OR :=
  match s, x, elemT P t with
  | .v (.slice l) (some (g, el)), some (.slice ys), some e =>
    if el = e ∧ appOk P e = true then
      .eff ((Rows (esz P e) l ∧ Rows (esz P e) ys) ∧ (l.length + ys.length) * ebytes P e ≤ 140737488355328) ((σ.purge g).put d (.v (.slice (l ++ ys)) (some (g, e))))
    else .stuck
  | .v (.slX l) _, some (.slice ys), some e =>
    if appOk P e = true ∧ esz P e ≠ 0 then
      .eff ((l ≠ [] ∧ Rows (esz P e) l ∧ Rows (esz P e) ys) ∧ (l.length + ys.length) * ebytes P e ≤ 140737488355328) (σ.put d (.v (.slice (l ++ ys)) none))
    else .stuck
  | _, _, _ => .stuck

def evN (gl : Gl) (σ : AS) (x : Operand) : TV :=
  match x with
  | .const (.slice none 0 0) => if (look 400000 σ.hint).isSome then .v .nilS none else ev gl σ x
  | _ => ev gl σ x
theorem evN_nohint {gl : Gl} {σ : AS} (h : σ.hint = []) (x : Operand) : evN gl σ x = ev gl σ x := by
  unfold evN
  split
  · rw [h]; rfl
  · rfl

def callR (P : Program) (gl : Gl) (σ : AS) (d : Option Nat) (c : Call) : OR :=
  match c.callee with
  | .value f => match ev gl σ f, avs (evN gl σ) c.args.toList with
    | .v (.func g caps) _, some l => .call g (l ++ caps)
    | .v (.yld l) _, some [x] => .yld l x
    | .cl g ks, some l => .callB g l ks
    | .v (.bfn g fs) _, some l => .call g (fs ++ l)
    | _, _ => .stuck
  | .builtin b =>
    match b, c.args.toList, c.argTypes.toList with
    | .len, [x], [t] => lenR P t (ev gl σ x).av
    | .max, [x, y], _ => mxR true (ev gl σ x).av (ev gl σ y).av
    | .min, [x, y], _ => mxR false (ev gl σ x).av (ev gl σ y).av
    | .append, [s, x], [t, t'] => if t = t' then appendR P σ d t (ev gl σ s) (ev gl σ x).av else .stuck
    | _, _, _ => .stuck
  | .invoke _ _ => .stuck

def orR : OR → OR → OR
  | .stuck, r => r
  | r, _ => r

def froz (σ : AS) (d : Option Nat) : Bool :=
  match d with
  | some k => (look (200000 + k) σ.hint).isSome
  | none => false

def frozR : TV → OR
  | .v y _ => .val True (.v (.ro (flat y)) none)
  | _ => .stuck

def rangeR (P : Program) (σ : AS) (d : Option Nat) (t : Nat) (x : Option AV) : OR :=
  match P.underlying t, d, x with
  | some .string, some k, some (.str s) => .eff True { σ with tm := (k, .it (.str s 0)) :: σ.tm }
  | _, _, _ => .stuck

def dec (s : List UInt8) (p : Nat) : Nat × Nat := Utf8.decode ⟨s.toArray⟩ p

def nextR (σ : AS) (d : Option Nat) (x : Operand) (str : Bool) : OR :=
  match x, str with
  | .tmp t, true => match look t σ.tm with
    | some (.it (.str s p)) => if p < s.length
      then .eff (¬ t ∈ σ.fx) ({ σ with tm := (t, .it (.str s (p + (dec s p).2))) :: σ.tm }.put d (.v (.tup [.bool true, .int .i64 p, .int .i32 (dec s p).1]) none))
      else .eff True (σ.put d (.v (.tup [.bool false]) none))
    | _ => .stuck
  | _, _ => .stuck

def fieldR (P : Program) (t i : Nat) : Option AV → OR
  | some (.agg l) => match foff P t i with
    | some off => loadR P (ftyp P t i) (l.drop off)
    | none => .stuck
  | _ => .stuck

def opR (P : Program) (gl : Gl) (σ : AS) (o : Oper) : OR :=
  match o.op with
  | .move x => .val True (ev gl σ x)
  | .assign x => assignR gl σ o.dst x
  | .pick c a b => pickR (ev gl σ c).av (ev gl σ a).av (ev gl σ b).av
  | .binOp op t x y _ => orR (binR op (ev gl σ x).av (ev gl σ y).av) (orR (eqR P op t (isC x || isC y) (ev gl σ x).av (ev gl σ y).av) (nilSR P op t (isNilS y) (ev gl σ x).av))
  | .unOp op _ x => unR op (ev gl σ x).av
  | .fieldAddr t x f => fieldAddrR (foff P t f) (ev gl σ x)
  | .indexAddr t x i => indexAddrR P t (ev gl σ x).av (ev gl σ i).av
  | .load t x => loadOpR P σ t (ev gl σ x)
  | .index t x i => indexR P t (ev gl σ x).av (ev gl σ i).av
  | .slice t x lo hi none => sliceR P t (ev gl σ x).av (lo.map fun y => (ev gl σ y).av) (hi.map fun y => (ev gl σ y).av)
  | .nilCheck x => nilCheckR (ev gl σ x)
  | .convert src dst x => convertR P src dst (ev gl σ x).av
  | .build t parts => buildR P t (ev gl σ) parts.toList
  | .makeFunc fn first caps => orR (makeFuncR fn (avs (ev gl σ) first.toList) (avs (ev gl σ) caps.toList)) (makeClR fn first (lps (ev gl σ) caps.toList))
  | .makeInterface t x => makeIfaceR P t (ev gl σ x).av
  | .extract x i => extractR i (ev gl σ x).av
  | .box _ x => if froz σ o.dst then frozR (ev gl σ x) else boxR σ o.dst (ev gl σ x)
  | .alloc t => allocR P σ o.dst t
  | .store t a x => storeR P σ t (ev gl σ a) (ev gl σ x)
  | .buildSlice t len parts => buildSliceR P σ o.dst t len (rowsOf (ev gl σ) 0 parts.toList)
  | .call c => callR P gl σ o.dst c
  | .range t x => rangeR P σ o.dst t (ev gl σ x).av
  | .next x str => nextR σ o.dst x str
  | .field t x i => fieldR P t i (ev gl σ x).av
  | _ => .stuck

def ValOk (cx : Cx) (σ : AS) (a : Act) (w : World) (o : Oper) (x : TV) : Prop :=
  ∃ v w' gh', (execOp a.eval o).run cx.P w = .ok (.value v) w' ∧ RR cx gh' σ a w' ∧ TRep gh' w'.heap v x ∧ (∀ k off, x = .lp k off → (look k σ.bx).isSome = true) ∧ ∀ y g e, x = .v y (some (g, e)) → σ.uses g e

def EffOk (cx : Cx) (a : Act) (w : World) (o : Oper) (σ' : AS) : Prop :=
  (∃ v w', (execOp a.eval o).run cx.P w = .ok (.value v) w' ∧ R cx σ' (a.put o.dst v) w') ∨
  (∃ w', (execOp a.eval o).run cx.P w = .ok .skip w' ∧ R cx σ' (a.put o.dst undef) w')

theorem ValOk.of_yl {cx : Cx} {gh : Gh} {σ : AS} {a : Act} {w : World} {o : Oper} {x : TV} {s : Sem Value} (r : RR cx gh σ a w) (he : execOp a.eval o = (do pure (.value (← s)))) (h : Yl cx.P gh w s x)
    (h1 : ∀ k off, x = .lp k off → (look k σ.bx).isSome = true) (h2 : ∀ y g e, x = .v y (some (g, e)) → σ.uses g e) : ValOk cx σ a w o x := by
  obtain ⟨v, hv, hr⟩ := h
  exact ⟨v, w, gh, by rw [he]; simp [hv], r, hr, h1, h2⟩

def TV.plain : TV → Prop
  | .v _ none | .un | .bld _ _ | .cl _ _ => True
  | _ => False

theorem TV.plain_lp {x : TV} (h : x.plain) (k off : Nat) : x ≠ .lp k off := fun e => by subst e; exact h
theorem TV.plain_v {x : TV} (h : x.plain) (y : AV) (p : Nat × Nat) : x ≠ .v y (some p) := fun e => by subst e; exact h

theorem ValOk.of_plain {cx : Cx} {gh : Gh} {σ : AS} {a : Act} {w : World} {o : Oper} {x : TV} {s : Sem Value} (r : RR cx gh σ a w) (he : execOp a.eval o = (do pure (.value (← s)))) (h : Yl cx.P gh w s x) (hp : TV.plain x) : ValOk cx σ a w o x :=
  .of_yl r he h (fun k off e => absurd e (TV.plain_lp hp k off)) (fun y g e h => absurd h (TV.plain_v hp y (g, e)))

end Go.Pv
end

section
/- The operations that hand back a value are right. -/
namespace Go.Pv
open Go

variable {cx : Cx} {gh : Gh} {σ : AS} {a : Act} {w : World} {o : Oper}

theorem RR.av (r : RR cx gh σ a w) (x : Operand) (y : AV) (h : (Pv.ev cx.gl σ x).av = some y) : Rep gh.lim w.heap (a.eval x) y := av_rep (r.ev x) h

theorem rep_gp {lim : Lim} {h : Array Obj} {v : Value} {b off : Nat} (r : Rep lim h v (.gp b off)) : v = .pointer (some ⟨b, off, none⟩) := by cases r; rfl

theorem val_copy (r : RR cx gh σ a w) (x : Operand) (he : execOp a.eval o = pure (.value (a.eval x))) : ValOk cx σ a w o (Pv.ev cx.gl σ x) :=
  ⟨_, w, gh, by rw [he]; rfl, r, r.ev x, fun _ _ h => r.ev_lp x h, fun _ _ _ h => r.ev_uses x h⟩

theorem val_const (r : RR cx gh σ a w) (v : Value) (x : AV) (hx : Rep gh.lim w.heap v x) (he : execOp a.eval o = pure (.value v)) : ValOk cx σ a w o (.v x none) :=
  ⟨_, w, gh, by rw [he]; rfl, r, trep_v hx, by simp, by simp⟩

theorem plain_binR {op : BinOp} {x y : Option AV} {c : Prop} {z : TV} (h : binR op x y = .val c z) : TV.plain z := by
  unfold binR at h
  split at h
  · split at h
    · unfold intOp at h
      split at h <;> first | (simp only [OR.val.injEq] at h; obtain ⟨-, rfl⟩ := h; trivial) | cases h
    · cases h
  · unfold strOp at h
    split at h <;> first | (simp only [OR.val.injEq] at h; obtain ⟨-, rfl⟩ := h; trivial) | cases h
  · cases h

theorem plain_eqR {P : Program} {op : BinOp} {t : Nat} {k : Bool} {x y : Option AV} {c : Prop} {z : TV} (h : eqR P op t k x y = .val c z) : TV.plain z := by
  unfold eqR at h
  split at h
  · split at h <;> first | (simp only [OR.val.injEq] at h; obtain ⟨-, rfl⟩ := h; trivial) | cases h
  · cases h

theorem plain_nilSR {P : Program} {op : BinOp} {t : Nat} {k : Bool} {x : Option AV} {c : Prop} {z : TV} (h : nilSR P op t k x = .val c z) : TV.plain z := by
  unfold nilSR at h
  repeat' (split at h) <;> first | cases h | skip
  all_goals first | trivial | skip
theorem plain_unR {op : UnOp} {x : Option AV} {c : Prop} {z : TV} (h : unR op x = .val c z) : TV.plain z := by
  unfold unR at h
  split at h
  · split at h <;> first | (simp only [OR.val.injEq] at h; obtain ⟨-, rfl⟩ := h; trivial) | cases h
  · split at h <;> first | (simp only [OR.val.injEq] at h; obtain ⟨-, rfl⟩ := h; trivial) | cases h
  · cases h

theorem plain_pickR {x y u : Option AV} {c : Prop} {z : TV} (h : pickR x y u = .val c z) : TV.plain z := by
  unfold pickR at h
  split at h
  · simp only [OR.val.injEq] at h; obtain ⟨-, rfl⟩ := h; trivial
  · cases h

theorem plain_loadR {P : Program} {t : Nat} {l : List AV} {c : Prop} {z : TV} (h : loadR P t l = .val c z) : TV.plain z := by
  unfold loadR at h
  split at h
  · simp only [OR.val.injEq] at h; obtain ⟨-, rfl⟩ := h; trivial
  · split at h
    · simp only [OR.val.injEq] at h; obtain ⟨-, rfl⟩ := h; trivial
    · cases h
  · cases h

theorem plain_sliceR {P : Program} {t : Nat} {x : Option AV} {lo hi : Option (Option AV)} {c : Prop} {z : TV} (h : sliceR P t x lo hi = .val c z) : TV.plain z := by
  unfold sliceR at h
  split at h
  · split at h
    · simp only [if_true] at h
      split at h <;> first | (simp only [OR.val.injEq] at h; obtain ⟨-, rfl⟩ := h; trivial) | cases h
    · simp at h
  · split at h
    · split at h <;> first | (simp only [OR.val.injEq] at h; obtain ⟨-, rfl⟩ := h; trivial) | cases h
    · cases h
  · split at h <;> first | (split at h <;> first | (simp only [OR.val.injEq] at h; obtain ⟨-, rfl⟩ := h; trivial) | cases h) | cases h
  · cases h

theorem plain_lenR {P : Program} {t : Nat} {x : Option AV} {c : Prop} {z : TV} (h : lenR P t x = .val c z) : TV.plain z := by
  unfold lenR at h
  split at h
  · split at h
    · simp only [if_true, OR.val.injEq] at h; obtain ⟨-, rfl⟩ := h; trivial
    · simp at h
  · split at h
    · simp only [OR.val.injEq] at h; obtain ⟨-, rfl⟩ := h; trivial
    · cases h
  · split at h
    · simp only [OR.val.injEq] at h; obtain ⟨-, rfl⟩ := h; trivial
    · cases h
  · split at h
    · simp only [OR.val.injEq] at h; obtain ⟨-, rfl⟩ := h; trivial
    · cases h
  · cases h

theorem plain_mxR {b : Bool} {x y : Option AV} {c : Prop} {z : TV} (h : mxR b x y = .val c z) : TV.plain z := by
  unfold mxR at h
  split at h
  · simp only [OR.val.injEq] at h; obtain ⟨-, rfl⟩ := h; trivial
  · cases h

theorem ok_pick (r : RR cx gh σ a w) {x y z : Operand} (ho : o.op = .pick x y z) {c : Prop} {t : TV} (h : pickR (Pv.ev cx.gl σ x).av (Pv.ev cx.gl σ y).av (Pv.ev cx.gl σ z).av = .val c t) (hc : c) : ValOk cx σ a w o t := by
  refine .of_plain r (s := do pure (if ← asBool (a.eval x) then a.eval y else a.eval z)) ?_ (pickR_sound (P := cx.P) (r.av x) (r.av y) (r.av z) h hc) (plain_pickR h)
  simp [execOp, ho]

theorem ok_bin (r : RR cx gh σ a w) {op : BinOp} {t t' : TypeId} {x y : Operand} (ho : o.op = .binOp op t x y t') {c : Prop} {z : TV}
    (h : orR (binR op (Pv.ev cx.gl σ x).av (Pv.ev cx.gl σ y).av) (orR (eqR cx.P op t (isC x || isC y) (Pv.ev cx.gl σ x).av (Pv.ev cx.gl σ y).av) (nilSR cx.P op t (isNilS y) (Pv.ev cx.gl σ x).av)) = .val c z) (hc : c) : ValOk cx σ a w o z := by
  have he : execOp a.eval o = (do pure (.value (← (do eqGuard op t x y (a.eval x) (a.eval y); binOp op t (a.eval x) (a.eval y))))) := by simp [execOp, ho]
  cases hb : binR op (Pv.ev cx.gl σ x).av (Pv.ev cx.gl σ y).av with
  | stuck =>
    rw [hb] at h
    simp only [orR] at h
    cases hq : eqR cx.P op t (isC x || isC y) (Pv.ev cx.gl σ x).av (Pv.ev cx.gl σ y).av with
    | stuck =>
      rw [hq] at h
      simp only [] at h
      have hn : isNilS y = true := by
        cases hn : isNilS y with
        | true => rfl
        | false => rw [hn] at h; unfold nilSR at h; repeat' (split at h) <;> first | cases h | simp at *
      have hy := isNilS_spec hn
      refine .of_plain r he ?_ (plain_nilSR h)
      have := nilSR_sound (xo := x) (r.av x) h hc
      rw [show a.eval y = .slice none 0 0 by rw [hy]; rfl]
      exact this
    | val c' z' => rw [hq] at h; simp only [] at h; rw [← hq] at h; exact .of_plain r he (eqR_sound (r.av x) (r.av y) h hc) (plain_eqR h)
    | eff c' s => rw [hq] at h; cases h
    | call f l => rw [hq] at h; cases h
    | callB f l ks => rw [hq] at h; cases h
    | yld l x => rw [hq] at h; cases h
  | val c' z' =>
    rw [hb] at h
    simp only [orR] at h
    rw [← hb] at h
    exact .of_plain r he (binR_sound (r.av x) (r.av y) h hc) (plain_binR h)
  | eff c' s => rw [hb] at h; cases h
  | call f l => rw [hb] at h; cases h
  | callB f l ks => rw [hb] at h; cases h
  | yld l x => rw [hb] at h; cases h

theorem ok_un (r : RR cx gh σ a w) {op : UnOp} {t : TypeId} {x : Operand} (ho : o.op = .unOp op t x) {c : Prop} {z : TV} (h : unR op (Pv.ev cx.gl σ x).av = .val c z) (hc : c) : ValOk cx σ a w o z :=
  .of_plain r (by simp [execOp, ho]) (unR_sound (r.av x) h hc) (plain_unR h)

theorem ok_fieldAddr (r : RR cx gh σ a w) {t f : Nat} {x : Operand} (ho : o.op = .fieldAddr t x f) {c : Prop} {z : TV} (h : fieldAddrR (foff cx.P t f) (Pv.ev cx.gl σ x) = .val c z) (_ : c) : ValOk cx σ a w o z := by
  have hx := r.ev x
  have he : execOp a.eval o = (do pure (.value (← Instr.fieldAt t (a.eval x) f))) := by simp [execOp, ho]
  unfold fieldAddrR at h
  split at h
  · rename_i k off hk
    split at h
    · rename_i i hi
      simp only [OR.val.injEq] at h
      obtain ⟨-, rfl⟩ := h
      rw [hk] at hx
      refine .of_yl r he ⟨.pointer (some ⟨gh.bl k, off + i, none⟩), ?_, rfl⟩ (fun k' o' e => ?_) (by simp)
      · rw [show a.eval x = .pointer (some ⟨gh.bl k, off, none⟩) from hx]
        exact run_fieldAt hi w
      · injection e with e1 e2; subst e1; exact r.ev_lp x hk
    · cases h
  · rename_i l g hk
    split at h
    · rename_i i hi
      simp only [OR.val.injEq] at h
      obtain ⟨-, rfl⟩ := h
      rw [hk] at hx
      obtain ⟨b, off, vs, hv, -, -⟩ := Rep.ro_iff.1 hx.1
      have hx1 := hx.1
      rw [hv] at hx1
      refine .of_plain r he ⟨.pointer (some ⟨b, off + i, none⟩), ?_, trep_v (hx1.ro_drop i)⟩ trivial
      rw [hv]; exact run_fieldAt hi w
    · cases h
  · rename_i b off g hk
    split at h
    · rename_i i hi
      simp only [OR.val.injEq] at h
      obtain ⟨-, rfl⟩ := h
      rw [hk] at hx
      have hv : a.eval x = .pointer (some ⟨b, off, none⟩) := rep_gp hx.1
      refine .of_plain r he ⟨.pointer (some ⟨b, off + i, none⟩), ?_, trep_v (.gp b (off + i))⟩ trivial
      rw [hv]; exact run_fieldAt hi w
    · cases h
  · cases h

theorem ok_indexAddr (r : RR cx gh σ a w) {t : Nat} {x i : Operand} (ho : o.op = .indexAddr t x i) {c : Prop} {z : TV} (h : indexAddrR cx.P t (Pv.ev cx.gl σ x).av (Pv.ev cx.gl σ i).av = .val c z) (hc : c) : ValOk cx σ a w o z := by
  have he : execOp a.eval o = (do pure (.value (← Instr.indexAt t (a.eval x) (a.eval i)))) := by simp [execOp, ho]
  unfold indexAddrR at h
  split at h
  · rename_i l k n hx hi
    split at h
    · rename_i e hel
      simp only [OR.val.injEq] at h
      obtain ⟨h1, rfl⟩ := h
      subst h1
      obtain ⟨⟨h0, hlt⟩, hlen⟩ := hc
      have hxr := r.av x _ hx
      have hir := rep_int (r.av i _ hi)
      obtain ⟨p, cap, hv, hcap⟩ := hxr.slice_form
      rw [hv] at hxr
      have hrow : l[n.toNat]? = some (row l n.toNat) := by
        have : n.toNat < l.length := by omega
        simp [row, this]
      obtain ⟨b, off, rfl, hro⟩ := hxr.row hrow
      rw [hlen] at hro
      refine .of_plain r he ⟨_, ?_, trep_v hro⟩ trivial
      rw [hv, hir]
      exact run_indexAt hel h0 hlt w
    · cases h
  · rename_i b m cap k n hx hi
    split at h
    · rename_i e hel
      simp only [OR.val.injEq] at h
      obtain ⟨h1, rfl⟩ := h
      subst h1
      obtain ⟨h0, hlt⟩ := hc
      have hxr := r.av x _ hx
      have hir := rep_int (r.av i _ hi)
      cases hxv : a.eval x with
      | slice p q cap2 =>
        rw [hxv] at hxr
        cases hxr
        refine .of_plain r he ⟨_, ?_, trep_v (.gp b (n.toNat * esz cx.P e))⟩ trivial
        rw [hxv, hir]
        have := run_indexAt (P := cx.P) hel (b := b) (off := 0) (cap := cap) (k := k) h0 hlt w
        rwa [Nat.zero_add] at this
      | _ => rw [hxv] at hxr; cases hxr
    · cases h
  · cases h

theorem retag_none {r : OR} : retag none r = r := by
  unfold retag
  split <;> rfl

theorem RR.cells_at (r : RR cx gh σ a w) {k : Nat} {cells : List AV} (hk : look k σ.bx = some cells) : ∃ vs : List Value, RepL gh.lim w.heap vs cells ∧ ∀ j u, vs[j]? = some u → cellAt w.heap (gh.bl k) j = some u := by
  obtain ⟨-, -, cs, e, hcs, hrep⟩ := r.boxes k cells hk
  refine ⟨cs.toList, hrep, fun j u hu => ?_⟩
  unfold cellAt
  rw [hcs]
  simpa using hu

theorem tagAt_mem {tb : List (Nat × Nat × Nat × Nat)} {k j : Nat} {p : Nat × Nat} (h : tagAt tb k j = some p) : (k, j, p.1, p.2) ∈ tb := by
  induction tb with
  | nil => cases h
  | cons q tb ih =>
    simp only [tagAt] at h
    split at h
    · rename_i hq
      injection h with h; subst h
      obtain ⟨q1, q2, q3, q4⟩ := q
      obtain ⟨h1, h2⟩ := hq
      simp only at h1 h2
      subst h1; subst h2
      exact List.mem_cons_self ..
    · exact List.mem_cons_of_mem _ (ih h)

theorem ok_load (r : RR cx gh σ a w) {t : Nat} {x : Operand} (ho : o.op = .load t x) {c : Prop} {z : TV} (h : loadOpR cx.P σ t (Pv.ev cx.gl σ x) = .val c z) (hc : c) : ValOk cx σ a w o z := by
  have hx := r.ev x
  have he : execOp a.eval o = (do pure (.value (← Instr.loadAt t (a.eval x)))) := by simp [execOp, ho]
  have hla : ∀ b off, (Instr.loadAt t (.pointer (some ⟨b, off, none⟩))) = loadVar t ⟨b, off, none⟩ := fun b off => rfl
  unfold loadOpR at h
  split at h
  · rename_i l g hk
    rw [hk] at hx
    obtain ⟨b, off, vs, hv, hrl, hcell⟩ := Rep.ro_iff.1 hx.1
    refine .of_plain r he ?_ (plain_loadR h)
    rw [hv, hla]
    exact loadR_sound b off vs hrl (fun j u hu => (hcell j u hu).2) h hc
  · rename_i k off hk
    rw [hk] at hx
    split at h
    · rename_i cells hcells
      obtain ⟨vs, hrl, hcell⟩ := r.cells_at hcells
      have hcell' : ∀ j u, (vs.drop off)[j]? = some u → cellAt w.heap (gh.bl k) (off + j) = some u := fun j u hu => by
        rw [List.getElem?_drop] at hu; exact hcell _ u hu
      have hrun : ∀ {c z}, loadR cx.P t (cells.drop off) = .val c z → c → Yl cx.P gh w (Instr.loadAt t (a.eval x)) z := fun h hc => by
        rw [show a.eval x = .pointer (some ⟨gh.bl k, off, none⟩) from hx, hla]
        exact loadR_sound (gh.bl k) off (vs.drop off) (hrl.drop off) hcell' h hc
      split at h
      · exact .of_plain r he (hrun h hc) (plain_loadR h)
      · rename_i hagg
        cases htag : tagAt σ.tb k off with
        | none => rw [htag, retag_none] at h; exact .of_plain r he (hrun h hc) (plain_loadR h)
        | some p =>
          rw [htag] at h
          unfold retag at h
          split at h
          · rename_i c' y hl
            simp only [OR.val.injEq] at h
            obtain ⟨rfl, rfl⟩ := h
            obtain ⟨v, hv, hr⟩ := hrun hl hc
            have hmem := tagAt_mem htag
            have htb := r.tbs k off p.1 p.2 hmem
            have hvv : v = gh.gv p.1 := by
              rw [show a.eval x = .pointer (some ⟨gh.bl k, off, none⟩) from hx, hla] at hv
              have hcell0 : w.cell? ⟨gh.bl k, off, none⟩ = some (gh.gv p.1) := by rw [cell?_eq]; exact htb.2
              unfold loadVar at hv
              simp [run_isAgg hagg, hcell0] at hv
              exact hv.symm
            refine .of_yl r he ⟨v, hv, ⟨hr.1, fun q hq => ?_⟩⟩ (by simp) (fun y' g e hy => ?_)
            · injection hq with hq; subst hq; exact hvv
            · simp only [TV.v.injEq, Option.some.injEq] at hy
              obtain ⟨-, rfl⟩ := hy
              exact .inr ⟨k, off, hmem⟩
          · rename_i hl
            exact .of_plain r he (hrun h hc) (plain_loadR h)
      · cases h
    · cases h
  · rename_i b off g hk
    rw [hk] at hx
    split at h
    · rename_i cells hcells
      obtain ⟨-, -, cs, e, hcs, hrep⟩ := r.shs b cells hcells
      have hv : a.eval x = .pointer (some ⟨b, off, none⟩) := rep_gp hx.1
      refine .of_plain r he ?_ (plain_loadR h)
      rw [hv, hla]
      refine loadR_sound b off (cs.toList.drop off) (hrep.drop off) (fun j u hu => ?_) h hc
      rw [List.getElem?_drop] at hu
      unfold cellAt
      rw [hcs]
      simpa using hu
    · cases h
  · cases h

theorem ok_index (r : RR cx gh σ a w) {t : Nat} {x i : Operand} (ho : o.op = .index t x i) {c : Prop} {z : TV} (h : indexR cx.P t (Pv.ev cx.gl σ x).av (Pv.ev cx.gl σ i).av = .val c z) (hc : c) : ValOk cx σ a w o z := by
  have he : execOp a.eval o = (do pure (.value (← Instr.index t (a.eval x) (a.eval i)))) := by simp [execOp, ho]
  unfold indexR at h
  split at h
  · rename_i l k n hx hi
    split at h
    · rename_i hu
      simp only [if_true, OR.val.injEq] at h
      obtain ⟨h1, rfl⟩ := h
      subst h1
      have hxr := rep_str (r.av x _ hx)
      have hir := rep_int (r.av i _ hi)
      have hlt : n.toNat < l.length := by omega
      have hget : (⟨l.toArray⟩ : ByteArray)[n.toNat]? = some l[n.toNat] := by
        have h1 : n.toNat < (⟨l.toArray⟩ : ByteArray).size := by rw [ba_size]; exact hlt
        rw [getElem?_pos (⟨l.toArray⟩ : ByteArray) n.toNat h1]
        simp [ByteArray.getElem_eq_getElem_data]
      refine .of_plain r he ⟨.int .u8 (l[n.toNat].toNat : Int), ?_, ?_⟩ trivial
      · rw [hxr, hir]
        simp [Instr.index, asIntOf, run_underlying hu, hc.1, hget]
      · rw [show (l[n.toNat]?).getD 0 = l[n.toNat] by simp [hlt]]
        exact trep_int _ _ _ _
    · simp at h
  · cases h

theorem part_sound {P : Program} {gh : Gh} {w : World} {t : TypeId} {cs : Array Value} {l : List AV} {off : Nat} {c : Prop} {z : TV} (hr : RepL gh.lim w.heap cs.toList l) (h : loadR P t (l.drop off) = .val c z) (hc : c) : Yl P gh w (part t cs off) z := by
  have hr' := hr.drop off
  unfold loadR at h
  unfold part
  split at h
  · rename_i hagg
    simp only [OR.val.injEq] at h
    obtain ⟨h1, rfl⟩ := h
    subst h1
    refine ⟨.agg (cs.extract off (off + esz P t)), ?_, trep_v (Rep.agg_iff.2 ⟨_, rfl, ?_⟩)⟩
    · simp [run_isAgg hagg, run_sizeOf (info_of_underlying (aggO_some hagg))]
    · have := hr'.take (esz P t)
      rw [Array.toList_extract, List.extract_eq_take_drop, Nat.add_sub_cancel_left]
      exact this
  · rename_i hagg
    split at h
    · rename_i x hx0
      simp only [OR.val.injEq] at h
      obtain ⟨h1, rfl⟩ := h
      obtain ⟨v, hv0, hrv⟩ := hr'.get hx0
      rw [List.getElem?_drop, Nat.add_zero, Array.getElem?_toList] at hv0
      refine ⟨v, ?_, trep_v hrv⟩
      simp [run_isAgg hagg, hv0]
    · cases h
  · cases h
theorem ok_field (r : RR cx gh σ a w) {t f : Nat} {x : Operand} (ho : o.op = .field t x f) {c : Prop} {z : TV} (h : fieldR cx.P t f (Pv.ev cx.gl σ x).av = .val c z) (hc : c) : ValOk cx σ a w o z := by
  have he : execOp a.eval o = (do pure (.value (← Instr.field t (a.eval x) f))) := by simp [execOp, ho]
  unfold fieldR at h
  split at h
  · rename_i l hx
    split at h
    · rename_i off hf
      obtain ⟨fs, fl, hu, hfl, hne, rfl, hft⟩ := foff_spec hf
      rw [hft] at h
      obtain ⟨cs, hv, hrl⟩ := Rep.agg_iff.1 (r.av x _ hx)
      obtain ⟨v, h1, h2⟩ := part_sound (P := cx.P) (w := w) hrl h hc
      refine .of_plain r he ⟨v, ?_, h2⟩ (plain_loadR h)
      rw [hv]
      simp [Instr.field, run_underlying hu, hfl, asAgg, h1]
    · cases h
  · cases h

theorem ok_slice (r : RR cx gh σ a w) {t : Nat} {x : Operand} {lo hi : Option Operand} (ho : o.op = .slice t x lo hi none) {c : Prop} {z : TV}
    (h : sliceR cx.P t (Pv.ev cx.gl σ x).av (lo.map fun y => (Pv.ev cx.gl σ y).av) (hi.map fun y => (Pv.ev cx.gl σ y).av) = .val c z) (hc : c) : ValOk cx σ a w o z := by
  refine .of_plain r (s := Instr.sliceAt t (a.eval x) (lo.map a.eval) (hi.map a.eval) none) (by simp [execOp, ho]) ?_ (plain_sliceR h)
  refine sliceR_sound (r.av x) (fun q hq => ?_) (fun hq => ?_) (fun q hq => ?_) (fun hq => ?_) h hc
  · cases lo with
    | none => cases hq
    | some y => simp only [Option.map_some, Option.some.injEq] at hq; exact ⟨_, rfl, fun u hu => r.av y u (by rw [hq]; exact hu)⟩
  · cases lo with
    | none => rfl
    | some y => cases hq
  · cases hi with
    | none => cases hq
    | some y => simp only [Option.map_some, Option.some.injEq] at hq; exact ⟨_, rfl, fun u hu => r.av y u (by rw [hq]; exact hu)⟩
  · cases hi with
    | none => rfl
    | some y => cases hq

theorem ok_nilCheck (r : RR cx gh σ a w) {x : Operand} (ho : o.op = .nilCheck x) {c : Prop} {z : TV} (h : nilCheckR (Pv.ev cx.gl σ x) = .val c z) (_ : c) : ValOk cx σ a w o z := by
  have hx := r.ev x
  have key : ∀ p, a.eval x = .pointer (some p) → execOp a.eval o = pure (.value (a.eval x)) := fun p hp => by simp [execOp, ho, hp]
  unfold nilCheckR at h
  split at h
  · rename_i k off hk
    simp only [OR.val.injEq] at h
    obtain ⟨-, rfl⟩ := h
    have := val_copy (o := o) r x (key _ (by rw [hk] at hx; exact hx))
    rwa [hk] at this
  · rename_i l g hk
    simp only [OR.val.injEq] at h
    obtain ⟨-, rfl⟩ := h
    have hx' := hx
    rw [hk] at hx'
    obtain ⟨b, off, vs, hv, -, -⟩ := Rep.ro_iff.1 hx'.1
    have := val_copy (o := o) r x (key _ hv)
    rwa [hk] at this
  · rename_i b off g hk
    simp only [OR.val.injEq] at h
    obtain ⟨-, rfl⟩ := h
    have hx' := hx
    rw [hk] at hx'
    have hv : a.eval x = .pointer (some ⟨b, off, none⟩) := rep_gp hx'.1
    have := val_copy (o := o) r x (key _ hv)
    rwa [hk] at this
  · cases h

theorem ok_convert (r : RR cx gh σ a w) {src dst : Nat} {x : Operand} (ho : o.op = .convert src dst x) {c : Prop} {z : TV} (h : convertR cx.P src dst (Pv.ev cx.gl σ x).av = .val c z) (_ : c) : ValOk cx σ a w o z := by
  have he : execOp a.eval o = (do pure (.value (← convert src dst (a.eval x)))) := by simp [execOp, ho]
  unfold convertR at h
  split at h
  · rename_i k n hx
    split at h
    · rename_i d k' hs hd
      simp only [OR.val.injEq] at h
      obtain ⟨-, rfl⟩ := h
      have hxr := rep_int (r.av x _ hx)
      have hu : cx.P.underlying dst = some (.int k') := by
        unfold ikind at hd
        split at hd
        · rename_i q hq; injection hd with hd; subst hd; exact hq
        · cases hd
      refine .of_plain r he ⟨.int k' (k'.wrap n), ?_, trep_int _ _ _ _⟩ trivial
      rw [hxr]
      simp [convert, run_underlying hs, run_underlying hu, Conv.intToInt]
    · cases h
  · rename_i rows hx
    split at h
    · rename_i hb
      rw [Bool.and_eq_true] at hb
      obtain ⟨e, hs, he8⟩ : ∃ e, cx.P.underlying src = some (.slice e) ∧ cx.P.underlying e = some (.int .u8) := by
        have h1 := hb.1
        unfold bytesT at h1
        split at h1
        · rename_i e hq
          refine ⟨e, hq, ?_⟩
          split at h1 <;> first | assumption | cases h1
        · cases h1
      have hd : cx.P.underlying dst = some .string := by
        have h1 := hb.2
        unfold strT at h1
        split at h1 <;> first | assumption | cases h1
      split at h
      · rename_i l hl
        simp only [OR.val.injEq] at h
        obtain ⟨-, rfl⟩ := h
        have hrows := rowNums_spec hl
        have hxr := r.av x _ hx
        obtain ⟨p, cap, hv, hcap⟩ := hxr.slice_form
        refine .of_plain r he ⟨.string ⟨(l.map fun n => UInt8.ofNat n.toNat).toArray⟩, ?_, trep_str _ _ _⟩ trivial
        rw [hv] at hxr ⊢
        subst hrows
        by_cases hn : l = []
        · subst hn
          cases p with
          | none => exact run_convert_bytes_nil w src e hs he8 _ _ dst hd
          | some a => exact run_convert_bytes_back w src dst e a cap [] hs he8 hd (fun j hj => absurd hj (Nat.not_lt_zero _))
        · obtain ⟨b, off, vs, rfl, hvl, hvr, hvc⟩ := hxr.slice_cells (sz := 1) (fun y hy => by obtain ⟨n, _, rfl⟩ := List.mem_map.1 hy; rfl) (by simpa using hn)
          have hflat : (l.map fun n => [AV.int .u8 n]).flatten = l.map (AV.int .u8) := by
            clear hxr hv hcap hvl hvr hvc hl hx hn
            induction l with
            | nil => rfl
            | cons x l ih => simp [ih]
          rw [hflat] at hvr
          exact run_convert_bytes_arg w src e hs he8 b off _ cap l (by simp) (fun i hi => by
            have hi' : i < l.length := by simpa using hi
            obtain ⟨u, hu, hru⟩ := hvr.get (j := i) (x := .int .u8 l[i]) (by simp [hi'])
            have := (hvc i u hu).2
            rw [rep_int hru] at this
            rw [cell?_eq, this]
            simp [List.getD, hi']) dst hd
      · cases h
    · cases h
  · rename_i s hx
    split at h
    · rename_i hb
      rw [Bool.and_eq_true] at hb
      have hd : cx.P.underlying dst = some .string := by
        have h1 := hb.1
        unfold strT at h1
        split at h1 <;> first | assumption | cases h1
      obtain ⟨u, hs⟩ := Option.isSome_iff_exists.1 hb.2
      simp only [OR.val.injEq] at h
      obtain ⟨-, rfl⟩ := h
      refine .of_plain r he ⟨.string ⟨s.toArray⟩, ?_, trep_str _ _ _⟩ trivial
      rw [rep_str (r.av x _ hx)]
      simp [convert, run_underlying hs, run_underlying hd]
    · cases h
  · cases h

theorem ok_build (r : RR cx gh σ a w) {t : Nat} {parts : Array (Nat × Operand)} (ho : o.op = .build t parts) {c : Prop} {z : TV} (h : buildR cx.P t (Pv.ev cx.gl σ) parts.toList = .val c z) (hc : c) : ValOk cx σ a w o z := by
  have he : execOp a.eval o = (do pure (.value (← Instr.build t (parts.map fun p => (p.1, a.eval p.2))))) := by simp [execOp, ho]
  unfold buildR at h
  split at h
  · rename_i hk
    split at h
    · rename_i z0 hz0
      split at h
      · rename_i q hq
        simp only [OR.val.injEq] at h
        obtain ⟨h1, rfl⟩ := h
        subst h1
        obtain ⟨i, zv, hi, hz, hzs, hzr, hns⟩ := azero_spec hz0 gh w.heap
        have hks := hk
        unfold knownF at hks
        split at hks
        · rename_i fs hu
          obtain ⟨places, hp1, hp2⟩ := places_of hu hk
          obtain ⟨cs', g1, g2, g3⟩ := fill_sound (P := cx.P) (gh := gh) (h := w.heap) (t := t) (ρ := a.eval) (e := Pv.ev cx.gl σ) (fun x => r.ev x) (places.toArray[·]?) hp2 parts.toList z0 q.1 q.2 zv.cells (nilPos cx.P t) hq hc hzr hns
          have hb : cx.P.built t (parts.map fun p => (p.1, a.eval p.2)).toList = some cs' := by
            unfold Program.built
            simp only [hi, hu, hz, hp1]
            simpa using g1
          refine ⟨.agg cs', w, gh, by rw [he]; simp [run_build w t _ cs' hb], r, ⟨Rep.agg_iff.2 ⟨cs', rfl, g2⟩, fun j hj => ?_⟩, by simp, by simp⟩
          exact g3 j hj
        · cases hks
      · cases h
    · cases h
  · cases h

theorem avs_rep (r : RR cx gh σ a w) : ∀ (l : List Operand) (ys : List AV), avs (Pv.ev cx.gl σ) l = some ys → RepL gh.lim w.heap (l.map a.eval) ys
  | [], ys, h => by simp only [avs, Option.some.injEq] at h; subst h; exact RepL.nil _ _
  | x :: l, ys, h => by
    simp only [avs] at h
    split at h
    · rename_i y l' hy hl
      injection h with h; subst h
      exact RepL.cons (r.av x y hy) (avs_rep r l l' hl)
    · cases h

theorem avsN_rep (r : RR cx gh σ a w) : ∀ (l : List Operand) (ys : List AV), avs (evN cx.gl σ) l = some ys → RepL gh.lim w.heap (l.map a.eval) ys
  | [], ys, h => by simp only [avs, Option.some.injEq] at h; subst h; exact RepL.nil _ _
  | x :: l, ys, h => by
    simp only [avs] at h
    split at h
    · rename_i y l' hy hl
      injection h with h; subst h
      refine RepL.cons ?_ (avsN_rep r l l' hl)
      unfold evN at hy
      split at hy
      · split at hy
        · simp only [TV.av, Option.some.injEq] at hy; subst hy; exact .nilS
        · exact r.av _ y hy
      · exact r.av _ y hy
    · cases h

theorem ok_makeFunc (r : RR cx gh σ a w) {fn : Fn} {first caps : Array Operand} (ho : o.op = .makeFunc fn first caps) {c : Prop} {z : TV} (h : makeFuncR fn (avs (Pv.ev cx.gl σ) first.toList) (avs (Pv.ev cx.gl σ) caps.toList) = .val c z) (_ : c) : ValOk cx σ a w o z := by
  have he : execOp a.eval o = (do pure (.value (← Instr.makeFunc fn (first.map a.eval) (caps.map a.eval)))) := by simp [execOp, ho]
  unfold makeFuncR at h
  split at h
  · rename_i f l hf hl
    simp only [OR.val.injEq] at h
    obtain ⟨-, rfl⟩ := h
    have hf1 := (avs_rep r first.toList [] hf).1
    have hf0 : first = #[] := Array.eq_empty_of_size_eq_zero (by simpa using hf1)
    subst hf0
    refine .of_plain r he ⟨.func (.func f) #[] (caps.map a.eval), by simp [Instr.makeFunc], trep_v (Rep.func_iff.2 ⟨_, rfl, ?_⟩)⟩ trivial
    simpa using avs_rep r caps.toList l hl
  · rename_i f x l hf hl
    simp only [OR.val.injEq] at h
    obtain ⟨-, rfl⟩ := h
    have hl1 := (avs_rep r caps.toList [] hl).1
    have hl0 : caps = #[] := Array.eq_empty_of_size_eq_zero (by simpa using hl1)
    subst hl0
    refine .of_plain r he ⟨.func (.func f) (first.map a.eval) #[], by simp [Instr.makeFunc], trep_v (Rep.bfn_iff.2 ⟨_, rfl, ?_⟩)⟩ trivial
    simpa using avs_rep r first.toList (x :: l) hf
  · cases h

theorem lps_rep (r : RR cx gh σ a w) : ∀ (l : List Operand) (ks : List Nat), lps (Pv.ev cx.gl σ) l = some ks → l.map a.eval = ks.map fun k => Value.pointer (some ⟨gh.bl k, 0, none⟩)
  | [], ks, h => by simp only [lps, Option.some.injEq] at h; subst h; rfl
  | x :: l, ks, h => by
    unfold lps at h
    split at h
    · rename_i k ks' hk hl
      injection h with h; subst h
      have hx := r.ev x
      rw [hk] at hx
      rw [List.map_cons, List.map_cons, lps_rep r l ks' hl]
      congr 1
    · cases h

theorem ok_makeFunc2 (r : RR cx gh σ a w) {fn : Fn} {first caps : Array Operand} (ho : o.op = .makeFunc fn first caps) {c : Prop} {z : TV} (h : orR (makeFuncR fn (avs (Pv.ev cx.gl σ) first.toList) (avs (Pv.ev cx.gl σ) caps.toList)) (makeClR fn first (lps (Pv.ev cx.gl σ) caps.toList)) = .val c z) (hc : c) : ValOk cx σ a w o z := by
  have he : execOp a.eval o = (do pure (.value (← Instr.makeFunc fn (first.map a.eval) (caps.map a.eval)))) := by simp [execOp, ho]
  cases hb : makeFuncR fn (avs (Pv.ev cx.gl σ) first.toList) (avs (Pv.ev cx.gl σ) caps.toList) with
  | stuck =>
    rw [hb] at h
    simp only [orR] at h
    unfold makeClR at h
    split at h
    · rename_i f l hl
      split at h
      · rename_i hf
        simp only [OR.val.injEq] at h
        obtain ⟨-, rfl⟩ := h
        have hf0 : first = #[] := Array.eq_empty_of_size_eq_zero hf
        subst hf0
        refine .of_plain r he ⟨.func (.func f) #[] (caps.map a.eval), by simp [Instr.makeFunc], ?_⟩ trivial
        have := lps_rep r caps.toList l hl
        simp only [TRep]
        congr 1
        apply Array.ext'
        simpa using this
      · cases h
    · cases h
  | val c' z' =>
    rw [hb] at h
    simp only [orR] at h
    rw [← hb] at h
    exact ok_makeFunc r ho h hc
  | eff c' s => rw [hb] at h; cases h
  | call f l => rw [hb] at h; cases h
  | callB f l ks => rw [hb] at h; cases h
  | yld l x => rw [hb] at h; cases h

theorem ok_makeIface (r : RR cx gh σ a w) {t : Nat} {x : Operand} (ho : o.op = .makeInterface t x) {c : Prop} {z : TV} (h : makeIfaceR cx.P t (Pv.ev cx.gl σ x).av = .val c z) (_ : c) : ValOk cx σ a w o z := by
  have he : execOp a.eval o = (do pure (.value (← Instr.makeInterface t (a.eval x)))) := by simp [execOp, ho]
  unfold makeIfaceR at h
  split at h
  · rename_i y hy
    split at h
    · rename_i hcon
      simp only [OR.val.injEq] at h
      obtain ⟨-, rfl⟩ := h
      exact .of_plain r he ⟨_, run_makeInterface w t _ hcon, trep_v (.iface t _ _ (r.av x y hy))⟩ trivial
    · cases h
  · cases h

theorem ok_extract (r : RR cx gh σ a w) {i : Nat} {x : Operand} (ho : o.op = .extract x i) {c : Prop} {z : TV} (h : extractR i (Pv.ev cx.gl σ x).av = .val c z) (_ : c) : ValOk cx σ a w o z := by
  have he : execOp a.eval o = (do pure (.value (← Instr.extract (a.eval x) i))) := by simp [execOp, ho]
  unfold extractR at h
  split at h
  · rename_i l hl
    split at h
    · rename_i y hy
      simp only [OR.val.injEq] at h
      obtain ⟨-, rfl⟩ := h
      obtain ⟨cs, hv, hr⟩ := Rep.tup_iff.1 (r.av x _ hl)
      obtain ⟨v, hv1, hv2⟩ := hr.get hy
      refine .of_plain r he ⟨v, ?_, trep_v hv2⟩ trivial
      rw [hv]
      have : cs[i]? = some v := by simpa using hv1
      simp [Instr.extract, this]
    · cases h
  · cases h

theorem ok_len (r : RR cx gh σ a w) {x : Operand} {t : TypeId} (ho : o.op = .call { callee := .builtin .len, args := #[x], argTypes := #[t] }) {c : Prop} {z : TV} (h : lenR cx.P t (Pv.ev cx.gl σ x).av = .val c z) (hc : c) : ValOk cx σ a w o z := by
  refine .of_plain r (s := Builtin.len_ #[t] o.type #[a.eval x]) ?_ (lenR_sound (r.av x) h hc rfl) (plain_lenR h)
  simp [execOp, ho, resolve, invoke, builtin]

theorem ok_max (r : RR cx gh σ a w) {x y : Operand} {ts : Array TypeId} (ho : o.op = .call { callee := .builtin .max, args := #[x, y], argTypes := ts }) {c : Prop} {z : TV} (h : mxR true (Pv.ev cx.gl σ x).av (Pv.ev cx.gl σ y).av = .val c z) (hc : c) : ValOk cx σ a w o z := by
  refine .of_plain r (s := Builtin.max_ ts o.type #[a.eval x, a.eval y]) ?_ ((mxR_sound (r.av x) (r.av y)).1 h hc) (plain_mxR h)
  simp [execOp, ho, resolve, invoke, builtin]

theorem ok_min (r : RR cx gh σ a w) {x y : Operand} {ts : Array TypeId} (ho : o.op = .call { callee := .builtin .min, args := #[x, y], argTypes := ts }) {c : Prop} {z : TV} (h : mxR false (Pv.ev cx.gl σ x).av (Pv.ev cx.gl σ y).av = .val c z) (hc : c) : ValOk cx σ a w o z := by
  refine .of_plain r (s := Builtin.min_ ts o.type #[a.eval x, a.eval y]) ?_ ((mxR_sound (r.av x) (r.av y)).2 h hc) (plain_mxR h)
  simp [execOp, ho, resolve, invoke, builtin]

end Go.Pv
end
