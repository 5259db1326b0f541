import Derived.Test.YtepbmjchhcmcoaaGreatDoorPvHb
set_option linter.all false
section
/- How long the texts of right programs are, by their tokens; what is formatted is read again. -/
namespace Go.Pv
open Go

theorem szK_nil : szK [] = 0 := rfl
theorem szK_cons (x : Kt) (l : List Kt) : szK (x :: l) = x.2.length + 1 + szK l := by simp [szK]
theorem szK_app (a b : List Kt) : szK (a ++ b) = szK a + szK b := by simp [szK]
theorem szK_sgn (c : UInt8) (l : List Kt) : szK (sgn c :: l) = 2 + szK l := by rw [szK_cons]; rfl
theorem sgn_len (c : UInt8) : (sgn c).2.length = 1 := rfl
section
variable {α : Type} (tx : α → Str) (tk : α → List Kt)
theorem jtail_szK : ∀ l : List α, (∀ a ∈ l, (tx a).length ≤ szK (tk a)) → (Lib.joinTail [44, 32] (l.map tx)).length ≤ szK (tailK (l.map tk))
  | [], _ => by simp [Lib.joinTail]
  | a :: l, h => by
    have h1 := h a (by simp)
    have h2 := jtail_szK l fun b hb => h b (by simp [hb])
    simp only [List.map_cons, Lib.joinTail, List.flatten_cons, tailK, szK_sgn, szK_app, List.length_append, List.length_cons, List.length_nil] at h2 ⊢
    omega
theorem join_szK (l : List α) (h : ∀ a ∈ l, (tx a).length ≤ szK (tk a)) : (Lib.join (l.map tx) [44, 32]).length ≤ szK (commaK (l.map tk)) := by
  cases l with
  | nil => simp [Lib.join_nil]
  | cons a l =>
    have h1 := h a (by simp)
    have h2 := jtail_szK tx tk l fun b hb => h b (by simp [hb])
    rw [List.map_cons, Lib.join_cons, List.map_cons, commaK, szK_app, List.length_append]
    omega
theorem br_szK (l : List α) (h : ∀ a ∈ l, (tx a).length ≤ szK (tk a)) : (if l.isEmpty then ([] : Str) else [91] ++ Lib.join (l.map tx) [44, 32] ++ [93]).length ≤ szK (brK (l.map tk)) := by
  have h1 := join_szK tx tk l h
  cases l with
  | nil => simp
  | cons a l =>
    simp only [List.isEmpty_cons, Bool.false_eq_true, if_false, List.length_append, List.length_cons, List.length_nil]
    rw [brK, if_neg (by simp), szK_sgn, szK_app]
    have : szK [sgn 93] = 2 := rfl
    omega
theorem sum_comma (f : α → Nat) : ∀ l : List α, (∀ a ∈ l, f a ≤ szK (tk a)) → (l.map f).sum ≤ szK (commaK (l.map tk)) ∧ (l.map f).sum ≤ szK (tailK (l.map tk)) ∧ (l.map f).sum ≤ szK (brK (l.map tk)) ∧ (l.map f).sum ≤ szK (semK tk l)
  | [], _ => by simp
  | a :: l, h => by
    have h1 := h a (by simp)
    obtain ⟨-, h2, -, h3⟩ := sum_comma f l fun b hb => h b (by simp [hb])
    have h4 : szK [sgn 59] = 2 := rfl
    have e : semK tk (a :: l) = tk a ++ [sgn 59] ++ semK tk l := by simp [semK]
    rw [e]
    simp only [List.map_cons, List.sum_cons, commaK, tailK, brK, List.isEmpty_cons, Bool.false_eq_true, if_false, szK_app, szK_sgn]
    omega
end
theorem txt_szK (t : Ty) : (txt t).length + 1 ≤ szK (toksT t) := by
  induction t using Ty.ind with
  | h n ts p ih =>
    have h1 := br_szK txt toksT ts fun t ht => by have := ih t ht; omega
    rw [txt_br, toksT_mk, szK_cons, List.length_append]
    have e : (if ts.isEmpty then ([] : Str) else 91 :: (Lib.join (ts.map txt) [44, 32] ++ [93])) = (if ts.isEmpty then ([] : Str) else [91] ++ Lib.join (ts.map txt) [44, 32] ++ [93]) := by split <;> simp
    rw [e]
    simp only []
    omega
theorem brT_szK (ts : List Ty) : (if ts.isEmpty then ([] : Str) else 91 :: (Lib.join (ts.map txt) [44, 32] ++ [93])).length ≤ szK (brK (ts.map toksT)) := by
  have e : (if ts.isEmpty then ([] : Str) else 91 :: (Lib.join (ts.map txt) [44, 32] ++ [93])) = (if ts.isEmpty then ([] : Str) else [91] ++ Lib.join (ts.map txt) [44, 32] ++ [93]) := by split <;> simp
  rw [e]
  exact br_szK txt toksT ts fun t _ => by have := txt_szK t; omega
theorem txtE_szK : ∀ e : Exp, rightE e = true → (txtE e).length ≤ szK (toksE e) := by
  intro e
  induction e using Exp.ind with
  | h k n t a l p ih =>
    intro he
    obtain ⟨hl, hc⟩ := right_cases he
    have ht := txt_szK t
    have ha := brT_szK a
    rcases hc with ⟨rfl, hn, rfl, -⟩ | ⟨rfl, hn, ⟨y, r, rfl⟩, -⟩ | ⟨rfl, -, -⟩ | ⟨rfl, hn, ⟨y, rfl⟩, -⟩ | ⟨rfl, -, ⟨y, rfl⟩, -⟩
    · rw [txtE_1, toksE_1]
      simp only [szK_cons, szK_nil]; omega
    · have hy := ih y (by simp) (hl y (by simp))
      have hr := join_szK txtE toksE r fun e he => ih e (by simp [he]) (hl e (by simp [he]))
      rw [txtE_2, toksE_2]
      simp only [szK_app, szK_cons, sgn_len, szK_nil, List.length_append, List.length_cons, List.length_nil]
      omega
    · have hr := join_szK txtE toksE l fun e he => ih e he (hl e he)
      rw [txtE_3, toksE_3]
      simp only [szK_app, szK_cons, sgn_len, szK_nil, List.length_append, List.length_cons, List.length_nil]
      omega
    · have hy := ih y (by simp) (hl y (by simp))
      rw [txtE_4, toksE_4]
      simp only [szK_app, szK_cons, sgn_len, szK_nil, List.length_append, List.length_cons, List.length_nil]
      omega
    · have hy := ih y (by simp) (hl y (by simp))
      rw [txtE_5, toksE_5]
      simp only [szK_app, szK_cons, sgn_len, szK_nil, List.length_append, List.length_cons, List.length_nil]
      omega
theorem txF_szK (f : Fm) : (txF f).length ≤ szK (toksF f) := by
  have := txt_szK f.ty
  rw [toksF, szK_cons]
  simp only [txF, List.length_append, List.length_cons, List.length_nil]
  omega
theorem sigT_szK (s : Sg) : (sigT s).length ≤ szK (toksG s) := by
  have h1 := br_szK txF toksF s.fms fun f _ => txF_szK f
  have h2 := join_szK txF toksF s.pms fun f _ => txF_szK f
  have h3 := txt_szK s.res
  rw [toksG]
  simp only [szK_cons, szK_app, sgn_len, sigT, fmsT, List.length_append, List.length_cons, List.length_nil] at h1 ⊢
  omega
theorem lines_szK {α : Type} (tx : α → Str) (tk : α → List Kt) (h : ∀ a, (tx a).length ≤ szK (tk a)) : ∀ l : List α, bodyLen (l.map fun a => tx a ++ [59]) ≤ 2 * szK (semK tk l)
  | [] => by simp [bodyLen]
  | a :: l => by
    have h1 := h a
    have h2 := lines_szK tx tk h l
    have h4 : szK [sgn 59] = 2 := rfl
    have e : semK tk (a :: l) = tk a ++ [sgn 59] ++ semK tk l := by simp [semK]
    rw [e]
    simp only [bodyLen, List.map_cons, List.flatten_cons, List.length_append, lineT, List.length_cons, List.length_nil, szK_app] at h2 ⊢
    omega
theorem declT_szK {d : Dc} (h : rightD d = true) : (declT d).length ≤ 2 * szK (toksD d) := by
  rw [declT, List.length_append, blockT_len]
  have hf := br_szK txF toksF d.fms fun f _ => txF_szK f
  have e0 : szK [sgn 125, sgn 59] = 4 := rfl
  have e1 : wType.length = 4 := rfl
  have e2 : wInterface.length = 9 := rfl
  have e3 : wStruct.length = 6 := rfl
  have e4 : wFunc.length = 4 := rfl
  have e5 : wReturn.length = 6 := rfl
  rcases rightD_kinds h with hk | hk | ⟨hk, -⟩
  · obtain ⟨-, -, -, -, -, -, -, -, h4⟩ := rightD_typed h (.inl hk)
    have hs : d.sigs = [] := h4.elim (·.2) (fun h => absurd h.1 (by omega))
    have hb := lines_szK txF toksF txF_szK d.flds
    rw [toksD, if_neg (by omega), if_neg (by omega), frontT, if_pos hk, linesT, if_pos (.inl hk), hs]
    simp only [List.map_nil, List.append_nil, szK_cons, szK_app, sgn_len, fmsT, wTy, List.length_append, List.length_cons, List.length_nil] at hf hb ⊢
    have : bodyLen (d.flds.map lnF) = bodyLen (d.flds.map fun a => txF a ++ [59]) := rfl
    omega
  · obtain ⟨-, -, -, -, -, -, -, -, h4⟩ := rightD_typed h (.inr hk)
    have hs : d.flds = [] := h4.elim (fun h => absurd h.1 (by omega)) (·.2)
    have hb := lines_szK sigT toksG sigT_szK d.sigs
    rw [toksD, if_neg (by omega), if_pos hk, frontT, if_neg (by omega), if_pos hk, linesT, if_pos (.inr hk), hs]
    simp only [List.map_nil, List.nil_append, szK_cons, szK_app, sgn_len, fmsT, wTy, List.length_append, List.length_cons, List.length_nil] at hf hb ⊢
    have : bodyLen (d.sigs.map lnG) = bodyLen (d.sigs.map fun a => sigT a ++ [59]) := rfl
    omega
  · obtain ⟨-, -, -, -, -, -, -, hb⟩ := rightD_method h hk
    have h1 := sigT_szK d.sig
    have h2 := txtE_szK d.body hb
    have h3 := br_szK id varK d.vars fun v _ => by simp [varK, szK]
    rw [List.map_id] at h3
    rw [toksD, if_pos hk, frontT, if_neg (by omega), if_neg (by omega), linesT, if_neg (by omega), bodyLen_one]
    simp only [szK_cons, szK_app, sgn_len, varsT, wFn, wRet, List.length_append, List.length_cons, List.length_nil] at h3 ⊢
    omega
theorem decls_szK : ∀ l : List Dc, (∀ d ∈ l, rightD d = true) → (Lib.join (l.map declT) []).length ≤ 2 * szK (l.flatMap toksD)
  | [], _ => by simp [Lib.join_nil]
  | d :: l, h => by
    have h1 := declT_szK (h d (by simp))
    have h2 := decls_szK l fun x hx => h x (by simp [hx])
    rw [join_empty] at h2 ⊢
    simp only [List.map_cons, List.flatten_cons, List.length_append, List.flatMap_cons, szK_app] at h2 ⊢
    omega
theorem progT_szK {p : Pg} (h : rightPg p = true) : (progT p).length ≤ 2 * szK (toksP p) := by
  simp only [rightPg, Bool.and_eq_true, List.all_eq_true] at h
  have h1 := decls_szK p.decls h.1
  have h2 := txtE_szK p.main h.2
  have e0 : szK [sgn 125] = 2 := rfl
  have e4 : wFunc.length = 4 := rfl
  have e5 : wMain.length = 4 := rfl
  have e6 : szK headK = 15 := rfl
  rw [progT, toksP, mainK]
  simp only [List.length_append, blockT_len, bodyLen_one, szK_app, szK_cons, sgn_len, wHead, wFm, List.length_cons, List.length_nil]
  omega

theorem wts_lsum (l : List Ty) : wts l = (l.map wt).sum := by
  induction l with
  | nil => rfl
  | cons t l ih => simp only [wts, List.map_cons, List.sum_cons, ih]
theorem wtFs_lsum (l : List Fm) : wtFs l = (l.map wtF).sum := by
  induction l with
  | nil => rfl
  | cons t l ih => simp only [wtFs, List.map_cons, List.sum_cons, ih]
theorem wtGs_lsum (l : List Sg) : wtGs l = (l.map wtG).sum := by
  induction l with
  | nil => rfl
  | cons t l ih => simp only [wtGs, List.map_cons, List.sum_cons, ih]
theorem wtSs_lsum (l : List Str) : wtSs l = (l.map fun s => s.length + 1).sum := by
  induction l with
  | nil => rfl
  | cons t l ih => simp only [wtSs, List.map_cons, List.sum_cons, ih]
theorem wt_szK (t : Ty) : wt t ≤ szK (toksT t) := by
  induction t using Ty.ind with
  | h n ts p ih =>
    have h1 := (sum_comma toksT wt ts ih).2.2.1
    rw [toksT_mk, szK_cons]
    simp only [wt, wts_lsum]
    omega
theorem wts_szK (l : List Ty) : wts l ≤ szK (brK (l.map toksT)) := by
  rw [wts_lsum]; exact (sum_comma toksT wt l fun t _ => wt_szK t).2.2.1
theorem wtE_szK : ∀ e : Exp, rightE e = true → wtE e ≤ 3 * szK (toksE e) := by
  intro e
  induction e using Exp.ind with
  | h k n t a l p ih =>
    intro he
    obtain ⟨hl, hc⟩ := right_cases he
    have ht := wt_szK t
    have ha := wts_szK a
    have hw1 : t.name = [] → t.args = [] → wt t = 1 := fun h1 h2 => by
      obtain ⟨tn, ts, tp⟩ := t
      simp only [Ty.name, Ty.args] at h1 h2
      subst h1; subst h2; rfl
    have key : ∀ l : List Exp, (∀ e ∈ l, wtE e ≤ 3 * szK (toksE e)) → wtEs l ≤ 3 * szK (commaK (l.map toksE)) := by
      intro l h
      have tail : ∀ l : List Exp, (∀ e ∈ l, wtE e ≤ 3 * szK (toksE e)) → wtEs l ≤ 3 * szK (tailK (l.map toksE)) := by
        intro l
        induction l with
        | nil => intro _; simp [wtEs]
        | cons x r ihr =>
          intro h
          have h1 := h x (by simp)
          have h2 := ihr fun y hy => h y (by simp [hy])
          simp only [wtEs, List.map_cons, tailK, szK_sgn, szK_app]; omega
      cases l with
      | nil => simp [wtEs]
      | cons x r =>
        have h1 := h x (by simp)
        have h2 := tail r fun y hy => h y (by simp [hy])
        simp only [wtEs, List.map_cons, commaK, szK_app]; omega
    rw [wtE_mk]
    rcases hc with ⟨rfl, hn, rfl, h1, h2, rfl⟩ | ⟨rfl, hn, ⟨y, r, rfl⟩, h1, h2, -⟩ | ⟨rfl, rfl, -, rfl⟩ | ⟨rfl, hn, ⟨y, rfl⟩, h1, h2, rfl⟩ | ⟨rfl, rfl, ⟨y, rfl⟩, -, rfl⟩
    · have := hw1 h1 h2
      rw [toksE_1]; simp only [szK_cons, szK_nil, wts, wtEs]; omega
    · have := hw1 h1 h2
      have hy := ih y (by simp) (hl y (by simp))
      have hr := key r fun e he => ih e (by simp [he]) (hl e (by simp [he]))
      rw [toksE_2]
      simp only [szK_app, szK_cons, sgn_len, szK_nil, wtEs]
      omega
    · have hr := key l fun e he => ih e he (hl e he)
      rw [toksE_3]
      simp only [szK_app, szK_cons, sgn_len, szK_nil, wts, List.length_nil]
      omega
    · have := hw1 h1 h2
      have hy := ih y (by simp) (hl y (by simp))
      rw [toksE_4]
      simp only [szK_app, szK_cons, sgn_len, szK_nil, wts, wtEs]
      omega
    · have hy := ih y (by simp) (hl y (by simp))
      rw [toksE_5]
      simp only [szK_app, szK_cons, sgn_len, szK_nil, wts, wtEs, List.length_nil]
      omega
theorem wtF_szK (f : Fm) : wtF f ≤ szK (toksF f) := by
  have := wt_szK f.ty
  rw [toksF, szK_cons, wtF]; simp only []; omega
theorem wtG_szK (s : Sg) : wtG s ≤ szK (toksG s) := by
  have h1 := (sum_comma toksF wtF s.fms fun f _ => wtF_szK f).2.2.1
  have h2 := (sum_comma toksF wtF s.pms fun f _ => wtF_szK f).1
  have h3 := wt_szK s.res
  rw [toksG, wtG, wtFs_lsum, wtFs_lsum]
  simp only [szK_cons, szK_app, sgn_len]; omega
theorem wtD_szK {d : Dc} (h : rightD d = true) : wtD d ≤ 3 * szK (toksD d) := by
  have e0 : szK [sgn 125, sgn 59] = 4 := rfl
  have e1 : wType.length = 4 := rfl
  have e2 : wInterface.length = 9 := rfl
  have e3 : wStruct.length = 6 := rfl
  have e4 : wFunc.length = 4 := rfl
  have e5 : wReturn.length = 6 := rfl
  have hf := (sum_comma toksF wtF d.fms fun f _ => wtF_szK f).2.2.1
  have hl := (sum_comma toksF wtF d.flds fun f _ => wtF_szK f).2.2.2
  have hg := (sum_comma toksG wtG d.sigs fun f _ => wtG_szK f).2.2.2
  rw [wtD, wtFs_lsum, wtFs_lsum, wtGs_lsum]
  have key : (d.kind = 1 ∨ d.kind = 2) → d.name.length + 1 + (d.fms.map wtF).sum + (d.flds.map wtF).sum + (d.sigs.map wtG).sum + d.recv.length + wtSs d.vars + wtG d.sig + wtE d.body ≤ 3 * szK (toksD d) := fun hk => by
    obtain ⟨-, -, -, -, hr, hv, hs, hb, h4⟩ := rightD_typed h hk
    have hwb : wtE d.body = 2 := by rw [← wtE_st, hb]; decide
    have hws : wtG d.sig = 2 := by
      simp only [stG, sg0, Sg.mk.injEq, List.map_eq_nil_iff] at hs
      have h5 : wt d.sig.res = 1 := by rw [← wt_st, hs.2.2.2.1]; decide
      rw [wtG, hs.1, hs.2.1, hs.2.2.1, h5]; rfl
    rw [hwb, hws, hr, hv, toksD, if_neg (by omega)]
    rcases h4 with ⟨h5, h6⟩ | ⟨h5, h6⟩
    · rw [if_neg (by omega), h6]
      simp only [List.map_nil, List.sum_nil, wtSs, List.length_nil, szK_cons, szK_app, sgn_len]
      omega
    · rw [if_pos h5, h6]
      simp only [List.map_nil, List.sum_nil, wtSs, List.length_nil, szK_cons, szK_app, sgn_len]
      omega
  rcases rightD_kinds h with hk | hk | ⟨hk, -⟩
  · exact key (.inl hk)
  · exact key (.inr hk)
  · obtain ⟨-, q2, q3, q4, -, -, -, hb⟩ := rightD_method h hk
    have h1 := wtG_szK d.sig
    have h2 := wtE_szK d.body hb
    have h3 := (sum_comma varK (fun s : Str => s.length + 1) d.vars fun v _ => by simp [varK, szK]).2.2.1
    rw [q2, q3, q4, wtSs_lsum, toksD, if_pos hk]
    simp only [List.map_nil, List.sum_nil, szK_cons, szK_app, sgn_len]
    omega
theorem wtPg_szK {p : Pg} (h : rightPg p = true) : wtPg p ≤ 3 * szK (toksP p) := by
  simp only [rightPg, Bool.and_eq_true, List.all_eq_true] at h
  have key : ∀ l : List Dc, (∀ d ∈ l, rightD d = true) → wtDs l ≤ 3 * szK (l.flatMap toksD) := by
    intro l
    induction l with
    | nil => intro _; simp [wtDs]
    | cons d l ih =>
      intro h
      have h1 := wtD_szK (h d (by simp))
      have h2 := ih fun x hx => h x (by simp [hx])
      simp only [wtDs, List.flatMap_cons, szK_app]; omega
  have h1 := key p.decls h.1
  have h2 := wtE_szK p.main h.2
  rw [wtPg, toksP, mainK]
  simp only [szK_app, szK_cons, sgn_len]
  omega

theorem szK_end (k : List Kt) : szK (k ++ [(3, [])]) = szK k + 1 := by rw [szK_app]; rfl
theorem prog_read {s : Str} {l : List Tk} {n : Nat} (h : lexT s = (some l, n)) (he : (endC (rdP l).2).err = none) : rightPg (rdP l).1 = true ∧ wtPg (rdP l).1 ≤ 6 * s.length ∧ (progT (rdP l).1).length ≤ 4 * s.length := by
  obtain ⟨h1, h2⟩ := prog_fw h he
  have h3 := (lexT_some (lexT_bounds h).1 h).2.2.1
  rw [h2, szK_end] at h3
  have h4 := wtPg_szK h1
  have h5 := progT_szK h1
  exact ⟨h1, by omega, by omega⟩
theorem whole_ok {α : Type} {ft : Nat} {none_ : α} {rd : List Tk → α × Cur} {s : Str} {l : List Tk} {n : Nat} (h : lexT s = (some l, n)) (he : (endC (rd l).2).err = none) : wholeC ft none_ rd s = ((rd l).1, .nilIface) := by
  unfold wholeC
  rw [h]
  simp [he]
theorem format_back (ft : Nat) {p : Pg} (hp : rightPg p = true) (hs : (progT p).length ≤ 65536) : ∃ q, wholeC ft pg0 rdP (progT p) = (q, .nilIface) ∧ stP q = stP p ∧ progT q = progT p ∧ rightPg q = true ∧ wtPg q ≤ 400000 := by
  obtain ⟨l, n, h1, h2⟩ := lexT_of hs (prog_toks hp)
  obtain ⟨h3, h4⟩ := prog_bk hp h2
  have h5 := end_at h4
  have he : (endC (rdP l).2).err = none := by rw [h5.1]; exact h5.2
  have h6 := prog_read h1 he
  exact ⟨_, whole_ok h1 he, h3, by rw [← progT_st, h3, progT_st], h6.1, by omega⟩
end Go.Pv
end

section
/- The reference castingsref08, step by step: where its loops stand. -/
namespace Go.Pv
open Go

section
variable {L : List Tk} {rT : Pl → Ty × Pl} {rE : Pl → Exp × Pl}
def pairsB (L : List Tk) (rT : Pl → Ty × Pl) (e : Str) (m : Nat) (p : Pl) : List Fm × Pl := if p.bad then ([], p) else pairsL L rT e m p
theorem pairsL_count (e : Str) : ∀ (m : Nat) (p : Pl), (pairsL L rT e m p).1.length ≤ m
  | 0, p => Nat.le_refl _
  | m + 1, p => by
    rw [pairsL]
    split
    · have := pairsL_count e m (itemR L rT p).2.adv
      simp; omega
    · simp
theorem pairsR_count (e : Str) (p : Pl) : (pairsR L rT e p).1.length ≤ L.length := by
  unfold pairsR
  split
  · simp
  · have := pairsL_count (L := L) (rT := rT) e (L.length - p.k) p
    omega
theorem itemR_no {p : Pl} (h : (p.name L).bad = true) : itemR L rT p = (⟨p.nm L, ty0, p.at_ L⟩, p.name L) := by rw [itemR, if_pos h]
theorem itemR_ok {p : Pl} (h : (p.name L).bad = false) : itemR L rT p = (⟨p.nm L, (rT (p.name L)).1, p.at_ L⟩, (rT (p.name L)).2) := by rw [itemR, if_neg (by rw [h]; exact Bool.false_ne_true)]
theorem tyR_no {p : Pl} (h : p.bad = true) : tyR rT p = (ty0, p) := by rw [tyR, if_pos h]
theorem tyR_ok {p : Pl} (h : p.bad = false) : tyR rT p = rT p := by rw [tyR, if_neg (by rw [h]; exact Bool.false_ne_true)]
theorem exR_no {p : Pl} (h : p.bad = true) : exR rE p = (ex0, p) := by rw [exR, if_pos h]
theorem exR_ok {p : Pl} (h : p.bad = false) : exR rE p = rE p := by rw [exR, if_neg (by rw [h]; exact Bool.false_ne_true)]
theorem must_prog {p : Pl} {s : Str} (h : (p.must L s).bad = false) : (p.must L s).k = p.k + 1 := by
  rw [Pl.must, if_pos (Pl.must_bad h).2]; rfl
theorem wordsR_cons (w : Str) (ws : List Str) (p : Pl) : wordsR L (w :: ws) p = wordsR L ws (p.must L w) := rfl
end
section
variable {L : List Tk} {α : Type} {rd : Pl → α × Pl}
theorem untilL_end (m : Nat) {p : Pl} (h : p.bad = true ∨ p.is L [125] = true) : untilL L rd m p = ([], p) := by
  cases m with
  | zero => rfl
  | succ m =>
    rw [untilL, if_neg]
    rcases h with h | h <;> simp [h]
theorem untilL_go (m : Nat) {p : Pl} (h1 : p.bad = false) (h2 : p.is L [125] = false) : untilL L rd (m + 1) p = ((rd p).1 :: (untilL L rd m ((rd p).2.must L [59])).1, (untilL L rd m ((rd p).2.must L [59])).2) := by
  rw [untilL, if_pos (by rw [h1, h2]; rfl)]
theorem until_left (hg : Goes L rd) {p : Pl} (hk : p.k < L.length) {m : Nat} (hm : L.length - p.k ≤ m + 1) : ((rd p).2.must L [59]).bad = false → L.length - ((rd p).2.must L [59]).k ≤ m := fun h => by
  have h1 := must_prog h
  have h2 := hg p hk
  omega
theorem g_until (hE : EndsT L) (hg : Goes L rd) : Goes L (untilR L rd) := by
  have key : ∀ (m : Nat) (p : Pl), p.k < L.length → p.k ≤ (untilL L rd m p).2.k ∧ (untilL L rd m p).2.k < L.length := by
    intro m
    induction m with
    | zero => intro p hp; exact ⟨Nat.le_refl _, hp⟩
    | succ m ih =>
      intro p hp
      rw [untilL]
      split
      · have h1 := hg p hp
        have h2 := Pl.must_lt hE [59] h1.2
        have h3 := ih _ h2.2
        exact ⟨Nat.le_trans h1.1 (Nat.le_trans h2.1 h3.1), h3.2⟩
      · exact ⟨Nat.le_refl _, hp⟩
  exact fun p hp => key _ p hp
end
section
variable {L : List Tk}
def varsG (L : List Tk) (sg : Str) (m : Nat) (p : Pl) : List Str × Pl := if p.is L sg then varsL L m p else ([], p)
theorem varsG_step {sg : Str} {m : Nat} {p : Pl} (h : p.is L sg = true) : varsG L sg (m + 1) p = (p.adv.nm L :: (varsG L [44] m (p.adv.name L)).1, (varsG L [44] m (p.adv.name L)).2) := by
  rw [varsG, if_pos h, varsL, varsG]
  split <;> rfl
theorem varsG_end {sg : Str} {m : Nat} {p : Pl} (h : p.is L sg = false) : varsG L sg m p = ([], p) := by rw [varsG, if_neg (by rw [h]; exact Bool.false_ne_true)]
theorem recvR_yes {p : Pl} (h : p.is L [91] = true) : recvR L p = ((varsG L [91] (L.length - p.k) p).1, (varsG L [91] (L.length - p.k) p).2.must L [93]) := by rw [recvR, if_pos h, varsG, if_pos h]
theorem recvR_no {p : Pl} (h : p.is L [91] = false) : recvR L p = ([], p) := by rw [recvR, if_neg (by rw [h]; exact Bool.false_ne_true)]
end
section
variable {L : List Tk} (hE : EndsT L)
include hE
theorem g_item : Goes L (itemR L (typeR L (L.length + 1))) := (sim_item hE (simT hE) (typeC_err _)).goes
theorem g_formals : Goes L (formalsR L (typeR L (L.length + 1))) := (sim_formals hE (simT hE) (typeC_err _)).goes
theorem g_par : Goes L (parR L (typeR L (L.length + 1))) := (sim_par hE (simT hE) (typeC_err _)).goes
theorem g_sig : Goes L (sigR L (typeR L (L.length + 1))) := (sim_sig hE (simT hE) (typeC_err _)).goes
theorem g_recv : Goes L (recvR L) := (sim_recv hE).goes
theorem g_ex : Goes L (exR (exprR L (L.length + 1))) := fun p hp => by
  unfold exR; split
  · exact ⟨Nat.le_refl _, hp⟩
  · exact exprR_lt hE _ p hp
theorem g_words : ∀ (ws : List Str) (p : Pl), p.k < L.length → p.k ≤ (wordsR L ws p).k ∧ (wordsR L ws p).k < L.length
  | [], p, hp => ⟨Nat.le_refl _, hp⟩
  | w :: ws, p, hp => by
    have h1 := Pl.must_lt hE w hp
    have h2 := g_words ws _ h1.2
    exact ⟨Nat.le_trans h1.1 h2.1, h2.2⟩
theorem g_typed (p : Pl) (hp : p.k < L.length) : (p.must L wType).k ≤ (typedR L (typeR L (L.length + 1)) p).2.k ∧ (typedR L (typeR L (L.length + 1)) p).2.k < L.length := by
  have h1 := Pl.must_lt hE wType hp
  have h2 := Pl.name_lt hE h1.2
  have h3 := g_formals hE _ h2.2
  unfold typedR typedH
  split
  · rename_i hi
    have h4 := Pl.adv_lt hE h3.2 hi
    have h4b : (formalsR L (typeR L (L.length + 1)) ((p.must L wType).name L)).2.adv.k = (formalsR L (typeR L (L.length + 1)) ((p.must L wType).name L)).2.k + 1 := rfl
    have h5 := Pl.must_lt hE [123] h4
    have h6 := g_until hE (g_sig hE) _ h5.2
    have h7 := Pl.must_lt hE [125] h6.2
    have h8 := Pl.must_lt hE [59] h7.2
    exact ⟨by show _ ≤ (Pl.must L _ [59]).k; omega, h8.2⟩
  · have h4 := Pl.must_lt hE wStruct h3.2
    have h5 := Pl.must_lt hE [123] h4.2
    have h6 := g_until hE (g_item hE) _ h5.2
    have h7 := Pl.must_lt hE [125] h6.2
    have h8 := Pl.must_lt hE [59] h7.2
    exact ⟨by show _ ≤ (Pl.must L _ [59]).k; omega, h8.2⟩
theorem g_method (p : Pl) (hp : p.k < L.length) : (p.must L wFunc).k ≤ (methodR L (typeR L (L.length + 1)) (exprR L (L.length + 1)) p).2.k ∧ (methodR L (typeR L (L.length + 1)) (exprR L (L.length + 1)) p).2.k < L.length := by
  have h1 := Pl.must_lt hE wFunc hp
  have h2 := Pl.must_lt hE [40] h1.2
  have h3 := Pl.name_lt hE h2.2
  have h4 := Pl.name_lt hE h3.2
  have h5 := g_recv hE _ h4.2
  have h6 := Pl.must_lt hE [41] h5.2
  have h7 := g_sig hE _ h6.2
  have h8 := Pl.must_lt hE [123] h7.2
  have h9 := Pl.must_lt hE wReturn h8.2
  have h10 := g_ex hE _ h9.2
  have h11 := Pl.must_lt hE [125] h10.2
  have h12 := Pl.must_lt hE [59] h11.2
  exact ⟨by show _ ≤ (Pl.must L _ [59]).k; omega, h12.2⟩
end
section
variable {L : List Tk} {rT : Pl → Ty × Pl} {rE : Pl → Exp × Pl}
theorem declsL_bad (m : Nat) {p : Pl} (h : p.bad = true) : declsL L rT rE m p = ([], p) := by
  cases m with
  | zero => rfl
  | succ m => rw [declsL, if_pos h]
theorem declsL_type (m : Nat) {p : Pl} (h : p.is L wType = true) : declsL L rT rE (m + 1) p = ((typedR L rT p).1 :: (declsL L rT rE m (typedR L rT p).2).1, (declsL L rT rE m (typedR L rT p).2).2) := by
  rw [declsL, if_neg (by rw [(Pl.is_bad h).1]; exact Bool.false_ne_true), if_pos h]
theorem declsL_end (m : Nat) {p : Pl} (h : p.is L wType = false) (h2 : (p.is L wFunc && !p.adv.is L wMain) = false) : declsL L rT rE m p = ([], p) := by
  cases m with
  | zero => rfl
  | succ m =>
    rw [declsL]
    split
    · rfl
    · rw [if_neg (by rw [h]; exact Bool.false_ne_true), if_neg (by rw [h2]; exact Bool.false_ne_true)]
theorem declsL_func (m : Nat) {p : Pl} (h : p.is L wType = false) (h1 : p.is L wFunc = true) (h2 : p.adv.is L wMain = false) : declsL L rT rE (m + 1) p = ((methodR L rT rE p).1 :: (declsL L rT rE m (methodR L rT rE p).2).1, (declsL L rT rE m (methodR L rT rE p).2).2) := by
  rw [declsL, if_neg (by rw [(Pl.is_bad h1).1]; exact Bool.false_ne_true), if_neg (by rw [h]; exact Bool.false_ne_true), if_pos (by rw [h1, h2]; rfl)]
end
theorem must_yes {L : List Tk} {p : Pl} {s : Str} (h : p.is L s = true) : p.must L s = p.adv := by rw [Pl.must, if_pos h]
end Go.Pv
end

section
/- Whole texts of programs and declarations: what both say of them; texts with the same tokens; texts one after the other. -/
namespace Go.Pv
open Go

theorem whole_nil {α : Type} {ft : Nat} {none_ : α} {rd : List Tk → α × Cur} {s : Str} {x : α} (h : wholeC ft none_ rd s = (x, .nilIface)) : ∃ l n, lexT s = (some l, n) ∧ (endC (rd l).2).err = none ∧ x = (rd l).1 := by
  unfold wholeC at h
  rcases hx : lexT s with ⟨_ | l, n⟩
  · rw [hx] at h; simp at h
  · rw [hx] at h
    cases he : (endC (rd l).2).err with
    | none =>
      simp only [he, Option.isSome_none, Bool.false_eq_true, if_false, Prod.mk.injEq, and_true] at h
      exact ⟨l, n, rfl, he, h.symm⟩
    | some a => simp [he, errA] at h
theorem whole_case {α : Type} (ft : Nat) (none_ : α) (rc : List Tk → α × Cur) (rr : List Tk → α × Pl) (s : Str)
    (h : ∀ l, EndsT l → Rel l (rc l).2 (rr l).2 ∧ ((rr l).2.bad = false → (rc l).1 = (rr l).1)) :
    (∃ x n l m, wholeC ft none_ rc s = (x, .nilIface) ∧ wholeR none_ rr s = (x, 0, n) ∧ lexT s = (some l, m) ∧ (endC (rc l).2).err = none ∧ x = (rc l).1) ∨
    ∃ k n, k ≠ 0 ∧ wholeC ft none_ rc s = (none_, .iface ft (.agg [.int .i64 k, .int .i64 n])) ∧ wholeR none_ rr s = (none_, k, n) := by
  obtain ⟨h1, h2⟩ := whole_same ft none_ rc rr s h
  obtain ⟨t, k, n, hw⟩ : ∃ t k n, wholeR none_ rr s = (t, k, n) := ⟨_, _, _, rfl⟩
  rw [hw] at h1 h2
  simp only [] at h1 h2
  rcases h2 with ⟨h3, h4, -⟩ | ⟨h3, h4, h5⟩
  · have hc : wholeC ft none_ rc s = (t, .nilIface) := Prod.ext h1 h4
    obtain ⟨l, m, q1, q2, q3⟩ := whole_nil hc
    exact .inl ⟨t, n, l, m, hc, by rw [hw, h3], q1, q2, q3⟩
  · exact .inr ⟨k, n, h4, Prod.ext (h1.trans h3) h5, by rw [hw, h3]⟩
theorem prog_case (ft : Nat) (s : Str) : (∃ x n l m, wholeC ft pg0 rdP s = (x, .nilIface) ∧ wholeR pg0 rpR s = (x, 0, n) ∧ lexT s = (some l, m) ∧ (endC (rdP l).2).err = none ∧ x = (rdP l).1) ∨
    ∃ k n, k ≠ 0 ∧ wholeC ft pg0 rdP s = (pg0, .iface ft (.agg [.int .i64 k, .int .i64 n])) ∧ wholeR pg0 rpR s = (pg0, k, n) := whole_case ft pg0 rdP rpR s fun _ hE => prog_same hE
theorem format_case (ft : Nat) (s : Str) (hs : s.length ≤ 2000) :
    (∃ p q n, wholeC ft pg0 rdP s = (p, .nilIface) ∧ wholeR pg0 rpR s = (p, 0, n) ∧ (rightPg p = true ∧ wtPg p ≤ 20000 ∧ (progT p).length ≤ 10000) ∧ wholeC ft pg0 rdP (progT p) = (q, .nilIface) ∧ rightPg q = true ∧ wtPg q ≤ 400000 ∧ progT q = progT p) ∨
    ∃ k n, k ≠ 0 ∧ wholeC ft pg0 rdP s = (pg0, .iface ft (.agg [.int .i64 k, .int .i64 n])) ∧ wholeR pg0 rpR s = (pg0, k, n) := by
  rcases prog_case ft s with ⟨p, n, l, m, h1, h2, h3, h4, rfl⟩ | h
  · obtain ⟨q1, q2, q3⟩ := prog_read h3 h4
    obtain ⟨q, h5, -, h6, h7, h8⟩ := format_back ft q1 (by omega)
    exact .inl ⟨_, q, n, h1, h2, ⟨q1, by omega, by omega⟩, h5, h7, h8, h6⟩
  · exact .inr h

def wEnd : Str := [32, 47, 47, 32, 101, 110, 100]
def dclR (s : Str) : Dc := (wholeR dc0 rdR s).1
def wPm : Str := [112, 97, 99, 107, 97, 103, 101, 32, 109, 97, 105, 110, 59]
def wFx : Str := [102, 117, 110, 99, 32, 109, 97, 105, 110, 40, 41, 32, 123, 32, 95, 32, 61, 32, 120, 32, 125]
def exX : Exp := .mk 1 [120] ty0 [] [] 0
def catT (l : List Str) : Str := wPm ++ (l.map fun s => [10] ++ s ++ [10]).flatten
def lenL (l : List Str) : Nat := (l.map fun s => s.length + 2).sum
def minL (l : List Str) : Nat := (l.map fun s => min s.length 10000).sum
end Go.Pv
end
