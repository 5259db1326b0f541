import Derived.Test.YtfgafcjebfjepaaGreatDoorPt
import Derived.Test.YtfgafcjebfjepaaGreatDoorPvPb
import Derived.Test.YtfgafcjebfjepaaGreatDoorPvLa
import Derived.LaidEql
import Derived.Stop.Asserts
import Derived.RowKitTokens
import Derived.WalkKit
section
/- errors.As at the targets that the package fault has, and what fault.Code and fault.At hand back. -/
set_option linter.all false
set_option maxHeartbeats 1000000
set_option maxRecDepth 10000
namespace Go.Proofs.YtfgafcjebfjepaaGreatDoor
open Go Go.Pv
variable (g : Nat → Option (List AV)) (rnd : Bool)

open Go.RowKit Go.Extern.Stop Go.Stop Go.Extern
theorem er_rlm (z : Sem Value) (f : TypeId → Addr → Nat → Nat → Sem Value) (v : Value) :
    ReflectliteValue.method z f #[v] = (do match ← ReflectliteValue.parts v with | none => z | some (t, a, fl) => f t a fl (fl % 32)) := rfl
theorem er_rls (v x : Value) : ReflectliteValue.set #[v, x] = (do
    let (some (dst, a, fl), some (src, b, _)) := (← ReflectliteValue.parts v, ← ReflectliteValue.parts x)
      | unsupported (.noEntry "extern/(internal/reflectlite.Value).Set.zeroValue")
    if fl / ReflectliteValue.flagAddr % 2 == 0 then unsupported (.noEntry "extern/(internal/reflectlite.Value).Set.unaddressable")
    let val ← loadVar src b
    if ← Rtype.directlyAssignable dst src then storeVar dst a val
    else if ← Rtype.implements dst src then
      if (← Rtype.kind src) == 20 then
        match val with
        | .nilIface => unsupported (.noEntry "extern/reflectlite: a nil value of one interface type handed on as a value of another")
        | _ => storeVar dst a val
      else storeVar dst a (.iface src val)
    else panicString ("reflectlite.Set: value of type " ++ (← Rtype.spelt src) ++ " is not assignable to type " ++ (← Rtype.spelt dst))
    pure (.tuple #[])) := rfl
theorem er_valueOfPCode (t : Addr) (w : World) : (ReflectliteValue.unpack (.iface 152 (.pointer (some t)))).run Tryz.prog w = .ok (.agg #[.pointer (some ⟨3, 152, none⟩), .pointer (some ⟨w.heap.size, 0, none⟩), .int .u64 150]) (w.alloc (.cells #[.pointer (some t)] 152)) := by kernel_rfl
theorem er_typeCode (a : Addr) (w : World) : (ReflectliteValue.methodAny (ReflectliteValue.valueError "reflectlite.Value.Type" 0) (fun t _ _ _ => ReflectliteType.toType t) #[.agg #[.pointer (some ⟨3, 152, none⟩), .pointer (some a), .int .u64 150]]).run Tryz.prog w = .ok (.iface 221 (.agg #[.pointer (some ⟨3, 152, none⟩)])) w := by kernel_rfl
theorem er_kindPCode (w : World) : ((ReflectliteType.abiMethod fun t => (fun a : Nat => Value.int IntKind.u8 (a : Int)) <$> Rtype.kind t) #[.pointer (some ⟨3, 152, none⟩)]).run Tryz.prog w = .ok (.int .u8 22) w := by kernel_rfl
theorem er_kindCode (w : World) : ((ReflectliteType.abiMethod fun t => (fun a : Nat => Value.int IntKind.u8 (a : Int)) <$> Rtype.kind t) #[.pointer (some ⟨3, 95, none⟩)]).run Tryz.prog w = .ok (.int .u8 2) w := by kernel_rfl
theorem er_partsCode (a : Addr) (w : World) : (ReflectliteValue.parts (.agg #[.pointer (some ⟨3, 152, none⟩), .pointer (some a), .int .u64 150])).run Tryz.prog w = .ok (some (152, a, 150)) w := by kernel_rfl
theorem er_isNilCode (a p : Addr) (W : World) (ha : W.cell? a = some (.pointer (some p))) :
    (ReflectliteValue.method (ReflectliteValue.valueError "reflectlite.Value.IsNil" 0) ReflectliteValue.isNil #[.agg #[.pointer (some ⟨3, 152, none⟩), .pointer (some a), .int .u64 150]]).run Tryz.prog W = .ok (.bool false) W := by
  rw [er_rlm]
  simp only [Sem.run_bind, er_partsCode, Result.andThen]
  simp [ReflectliteValue.isNil, loadVar, isAgg, underlying, Tryz.underlying152, ha, Result.andThen]
theorem er_elemCode (w : World) : (ReflectliteType.method ReflectliteType.elem #[.agg #[.pointer (some ⟨3, 152, none⟩)]]).run Tryz.prog w = .ok (.iface 221 (.agg #[.pointer (some ⟨3, 95, none⟩)])) w := by kernel_rfl
theorem er_implCode (w : World) : (ReflectliteType.relation "Implements" ReflectliteType.implements_ #[.agg #[.pointer (some ⟨3, 95, none⟩)], .iface 221 (.agg #[.pointer (some ⟨3, 49, none⟩)])]).run Tryz.prog w = .ok (.bool true) w := by kernel_rfl
theorem er_elemOfCode (w : World) : (Rtype.elem? 152).run Tryz.prog w = .ok (some 95) w := by kernel_rfl
theorem er_mkCode (p : Addr) (w : World) : (ReflectliteValue.mk 95 p ReflectliteValue.flagAddr).run Tryz.prog w = .ok (.agg #[.pointer (some ⟨3, 95, none⟩), .pointer (some p), .int .u64 386]) w := by kernel_rfl
theorem er_elemVCode (a p : Addr) (W : World) (ha : W.cell? a = some (.pointer (some p))) :
    (ReflectliteValue.method (ReflectliteValue.valueError "reflectlite.Value.Elem" 0) ReflectliteValue.elem #[.agg #[.pointer (some ⟨3, 152, none⟩), .pointer (some a), .int .u64 150]]).run Tryz.prog W
      = .ok (.agg #[.pointer (some ⟨3, 95, none⟩), .pointer (some p), .int .u64 386]) W := by
  rw [er_rlm]
  simp only [Sem.run_bind, er_partsCode, Result.andThen]
  simp [ReflectliteValue.elem, loadVar, isAgg, underlying, Tryz.underlying152, ha, Result.andThen, er_elemOfCode, er_mkCode]
theorem er_typeOfCode (v : Value) (w : World) : (ReflectliteType.typeOf #[.iface 95 v]).run Tryz.prog w = .ok (.iface 221 (.agg #[.pointer (some ⟨3, 95, none⟩)])) w := by kernel_rfl
theorem er_asgnCode (w : World) : (ReflectliteType.relation "AssignableTo" ReflectliteType.assignableTo #[.agg #[.pointer (some ⟨3, 95, none⟩)], .iface 221 (.agg #[.pointer (some ⟨3, 95, none⟩)])]).run Tryz.prog w = .ok (.bool true) w := by kernel_rfl
theorem er_partsACode (a : Addr) (w : World) : (ReflectliteValue.parts (.agg #[.pointer (some ⟨3, 95, none⟩), .pointer (some a), .int .u64 386])).run Tryz.prog w = .ok (some (95, a, 386)) w := by kernel_rfl
theorem er_partsBCode (a : Addr) (w : World) : (ReflectliteValue.parts (.agg #[.pointer (some ⟨3, 95, none⟩), .pointer (some a), .int .u64 130])).run Tryz.prog w = .ok (some (95, a, 130)) w := by kernel_rfl
theorem er_directCode (w : World) : (Rtype.directlyAssignable 95 95).run Tryz.prog w = .ok true w := by kernel_rfl
theorem er_valueOfPFault (t : Addr) (w : World) : (ReflectliteValue.unpack (.iface 155 (.pointer (some t)))).run Tryz.prog w = .ok (.agg #[.pointer (some ⟨3, 155, none⟩), .pointer (some ⟨w.heap.size, 0, none⟩), .int .u64 150]) (w.alloc (.cells #[.pointer (some t)] 155)) := by kernel_rfl
theorem er_typeFault (a : Addr) (w : World) : (ReflectliteValue.methodAny (ReflectliteValue.valueError "reflectlite.Value.Type" 0) (fun t _ _ _ => ReflectliteType.toType t) #[.agg #[.pointer (some ⟨3, 155, none⟩), .pointer (some a), .int .u64 150]]).run Tryz.prog w = .ok (.iface 221 (.agg #[.pointer (some ⟨3, 155, none⟩)])) w := by kernel_rfl
theorem er_kindPFault (w : World) : ((ReflectliteType.abiMethod fun t => (fun a : Nat => Value.int IntKind.u8 (a : Int)) <$> Rtype.kind t) #[.pointer (some ⟨3, 155, none⟩)]).run Tryz.prog w = .ok (.int .u8 22) w := by kernel_rfl
theorem er_kindFault (w : World) : ((ReflectliteType.abiMethod fun t => (fun a : Nat => Value.int IntKind.u8 (a : Int)) <$> Rtype.kind t) #[.pointer (some ⟨3, 154, none⟩)]).run Tryz.prog w = .ok (.int .u8 25) w := by kernel_rfl
theorem er_partsFault (a : Addr) (w : World) : (ReflectliteValue.parts (.agg #[.pointer (some ⟨3, 155, none⟩), .pointer (some a), .int .u64 150])).run Tryz.prog w = .ok (some (155, a, 150)) w := by kernel_rfl
theorem er_isNilFault (a p : Addr) (W : World) (ha : W.cell? a = some (.pointer (some p))) :
    (ReflectliteValue.method (ReflectliteValue.valueError "reflectlite.Value.IsNil" 0) ReflectliteValue.isNil #[.agg #[.pointer (some ⟨3, 155, none⟩), .pointer (some a), .int .u64 150]]).run Tryz.prog W = .ok (.bool false) W := by
  rw [er_rlm]
  simp only [Sem.run_bind, er_partsFault, Result.andThen]
  simp [ReflectliteValue.isNil, loadVar, isAgg, underlying, Tryz.underlying155, ha, Result.andThen]
theorem er_elemFault (w : World) : (ReflectliteType.method ReflectliteType.elem #[.agg #[.pointer (some ⟨3, 155, none⟩)]]).run Tryz.prog w = .ok (.iface 221 (.agg #[.pointer (some ⟨3, 154, none⟩)])) w := by kernel_rfl
theorem er_implFault (w : World) : (ReflectliteType.relation "Implements" ReflectliteType.implements_ #[.agg #[.pointer (some ⟨3, 154, none⟩)], .iface 221 (.agg #[.pointer (some ⟨3, 49, none⟩)])]).run Tryz.prog w = .ok (.bool true) w := by kernel_rfl
theorem er_elemOfFault (w : World) : (Rtype.elem? 155).run Tryz.prog w = .ok (some 154) w := by kernel_rfl
theorem er_mkFault (p : Addr) (w : World) : (ReflectliteValue.mk 154 p ReflectliteValue.flagAddr).run Tryz.prog w = .ok (.agg #[.pointer (some ⟨3, 154, none⟩), .pointer (some p), .int .u64 409]) w := by kernel_rfl
theorem er_elemVFault (a p : Addr) (W : World) (ha : W.cell? a = some (.pointer (some p))) :
    (ReflectliteValue.method (ReflectliteValue.valueError "reflectlite.Value.Elem" 0) ReflectliteValue.elem #[.agg #[.pointer (some ⟨3, 155, none⟩), .pointer (some a), .int .u64 150]]).run Tryz.prog W
      = .ok (.agg #[.pointer (some ⟨3, 154, none⟩), .pointer (some p), .int .u64 409]) W := by
  rw [er_rlm]
  simp only [Sem.run_bind, er_partsFault, Result.andThen]
  simp [ReflectliteValue.elem, loadVar, isAgg, underlying, Tryz.underlying155, ha, Result.andThen, er_elemOfFault, er_mkFault]
theorem er_typeOfFault (v : Value) (w : World) : (ReflectliteType.typeOf #[.iface 154 v]).run Tryz.prog w = .ok (.iface 221 (.agg #[.pointer (some ⟨3, 154, none⟩)])) w := by kernel_rfl
theorem er_asgnFault (w : World) : (ReflectliteType.relation "AssignableTo" ReflectliteType.assignableTo #[.agg #[.pointer (some ⟨3, 154, none⟩)], .iface 221 (.agg #[.pointer (some ⟨3, 154, none⟩)])]).run Tryz.prog w = .ok (.bool true) w := by kernel_rfl
theorem er_partsAFault (a : Addr) (w : World) : (ReflectliteValue.parts (.agg #[.pointer (some ⟨3, 154, none⟩), .pointer (some a), .int .u64 409])).run Tryz.prog w = .ok (some (154, a, 409)) w := by kernel_rfl
theorem er_partsBFault (a : Addr) (w : World) : (ReflectliteValue.parts (.agg #[.pointer (some ⟨3, 154, none⟩), .pointer (some a), .int .u64 153])).run Tryz.prog w = .ok (some (154, a, 153)) w := by kernel_rfl
theorem er_directFault (w : World) : (Rtype.directlyAssignable 154 154).run Tryz.prog w = .ok true w := by kernel_rfl
theorem er_valueOfCode (c : Int) (w : World) : (ReflectliteValue.unpack (.iface 95 (.int .i64 c))).run Tryz.prog w = .ok (.agg #[.pointer (some ⟨3, 95, none⟩), .pointer (some ⟨w.heap.size, 0, none⟩), .int .u64 130]) (w.alloc (.cells #[.int .i64 c] 95)) := by kernel_rfl
theorem er_valueOfFault (c n : Int) (w : World) : (ReflectliteValue.unpack (.iface 154 (.agg #[.int .i64 c, .int .i64 n]))).run Tryz.prog w = .ok (.agg #[.pointer (some ⟨3, 154, none⟩), .pointer (some ⟨w.heap.size, 0, none⟩), .int .u64 153]) (w.alloc (.cells #[.int .i64 c, .int .i64 n] 154)) := by kernel_rfl
theorem er_asgnNo (w : World) : (ReflectliteType.relation "AssignableTo" ReflectliteType.assignableTo #[.agg #[.pointer (some ⟨3, 154, none⟩)], .iface 221 (.agg #[.pointer (some ⟨3, 95, none⟩)])]).run Tryz.prog w = .ok (.bool false) w := by kernel_rfl
theorem er_methodElem (h : Value) (w : World) : (Go.method 375 221 (.agg #[h]) "Elem").run Tryz.prog w = .ok (205, .agg #[h]) w := by kernel_rfl
theorem er_methodImplements (h : Value) (w : World) : (Go.method 375 221 (.agg #[h]) "Implements").run Tryz.prog w = .ok (206, .agg #[h]) w := by kernel_rfl
theorem er_methodAssignableTo (h : Value) (w : World) : (Go.method 375 221 (.agg #[h]) "AssignableTo").run Tryz.prog w = .ok (203, .agg #[h]) w := by kernel_rfl
theorem er_methodKind (h : Value) (w : World) : (Go.method 375 221 (.agg #[h]) "Kind").run Tryz.prog w = .ok (193, h) w := by kernel_rfl
theorem er_methodUnwrap (a : Value) (w : World) : (Go.method 375 154 a "Unwrap").run Tryz.prog w = .ok (198, a) w := by kernel_rfl
theorem er_noAs (v : Value) (xT : TypeId) (w : World) : (Instr.typeAssert (.iface 154 v) xT 226 true).run Tryz.prog w = .ok (.tuple #[.nilIface, .bool false]) w := run_typeAssert_lacksB Tryz.underlying226 (by kernel_rfl) (by kernel_rfl) v xT w
theorem er_hasUn (v : Value) (xT : TypeId) (w : World) : (Instr.typeAssert (.iface 154 v) xT 229 true).run Tryz.prog w = .ok (.tuple #[.iface 154 v, .bool true]) w := run_typeAssert_hasB Tryz.underlying229 (by kernel_rfl) v xT w
theorem er_size64 (w : World) : (sizeOf 154).run Tryz.prog w = .ok 2 w := by kernel_rfl
theorem er_setCode (ta b : Addr) (c : Int) (old : Value) (W : World) (hb : W.cell? b = some (.int .i64 c)) (ht : W.cell? ta = some old) (hf : W.frozen? ta = false) :
    (ReflectliteValue.set #[.agg #[.pointer (some ⟨3, 95, none⟩), .pointer (some ta), .int .u64 386], .agg #[.pointer (some ⟨3, 95, none⟩), .pointer (some b), .int .u64 130]]).run Tryz.prog W
      = .ok (.tuple #[]) (W.setCell ta (.int .i64 c)) := by
  rw [er_rls]
  simp only [Sem.run_bind, er_partsACode, er_partsBCode, Result.andThen]
  simp [ReflectliteValue.flagAddr, loadVar, isAgg, underlying, Tryz.underlying95, hb, Result.andThen, er_directCode, storeVar, Value.cells, storeCells, Addr.add]
  rw [run_store Tryz.prog W ta _ _ (by rfl)]
  simp [ht, hf]
theorem er_setFault (ta b : Nat) (c n : Int) (o1 o2 : Value) (e : TypeId) (W : World) (hb1 : W.cell? ⟨b, 0, none⟩ = some (.int .i64 c)) (hb2 : W.cell? ⟨b, 1, none⟩ = some (.int .i64 n)) (hrow : W.heap[ta]? = some (.cells #[o1, o2] e (0, 0))) :
    (ReflectliteValue.set #[.agg #[.pointer (some ⟨3, 154, none⟩), .pointer (some ⟨ta, 0, none⟩), .int .u64 409], .agg #[.pointer (some ⟨3, 154, none⟩), .pointer (some ⟨b, 0, none⟩), .int .u64 153]]).run Tryz.prog W
      = .ok (.tuple #[]) (W.setRow ta #[.int .i64 c, .int .i64 n]) := by
  have hl : (loadVar 154 ⟨b, 0, none⟩).run Tryz.prog W = .ok (.agg #[.int .i64 c, .int .i64 n]) W := by
    have h := run_loadCells_list (P := Tryz.prog) W ⟨b, 0, none⟩ [.int .i64 c, .int .i64 n] (fun j v hj => by
      match j, hj with
      | 0, hj => injection hj with hj; subst hj; exact hb1
      | 1, hj => injection hj with hj; subst hj; exact hb2)
    unfold loadVar
    simp [isAgg, underlying, Tryz.underlying154, Result.andThen, er_size64]
    simp at h
    rw [h]
  have hs := run_storeVar (P := Tryz.prog) (w := W) (t := 154) (b := ta) (off := 0) (v := .agg #[.int .i64 c, .int .i64 n]) hrow (by kernel_rfl) (by kernel_rfl) (by simp [Value.cells]) (by simp [Value.cells, Value.oneCell'])
  rw [er_rls]
  simp only [Sem.run_bind, er_partsAFault, er_partsBFault, Result.andThen_ok, hl]
  simp only [ReflectliteValue.flagAddr, show ((409 / 256 % 2 == 0) = false) by decide, Bool.false_eq_true, if_false, Sem.run_bind, Sem.run_pure, Result.andThen_ok, hl, er_directFault, if_true, hs]
  simp [Value.cells]
set_option maxHeartbeats 8000000 in
theorem er_asCode (c n : Int) (t : Nat) (old : Value) (w : World) (hg : w.cell? ⟨0, 0, none⟩ = some (.iface 221 (.agg #[.pointer (some ⟨3, 49, none⟩)]))) (ht0 : w.cell? ⟨t, 0, none⟩ = some old) (hf0 : w.frozen? ⟨t, 0, none⟩ = false) :
    Calls Tryz.prog 94 #[.iface 154 (.agg #[.int .i64 c, .int .i64 n]), .iface 152 (.pointer (some ⟨t, 0, none⟩))] w fun ev w' => ev = .returned (.bool true) ∧ w' = (((((w.alloc (.cells #[.pointer (some ⟨t, 0, none⟩)] 152)).alloc (.cells #[.pointer (some ⟨3, 152, none⟩), .pointer (some ⟨w.heap.size, 0, none⟩), .int .u64 150] 187)).alloc (.cells #[.pointer (some ⟨3, 152, none⟩), .pointer (some ⟨w.heap.size, 0, none⟩), .int .u64 150] 187)).alloc (.cells #[.int .i64 c, .int .i64 n] 154)).alloc (.cells #[.int .i64 c] 95)).setCell ⟨t, 0, none⟩ (.int .i64 c) := by
  have h6 := @run_callFunc_extern Tryz.prog 133 _ (fun args => ReflectliteValue.unpack (args.getD 0 (.tuple #[]))) Tryz.func133 (by kernel_rfl) (by kernel_rfl) (by kernel_rfl) (by kernel_rfl)
  have h7 := @run_callFunc_extern Tryz.prog 134 _ (ReflectliteValue.methodAny (ReflectliteValue.valueError "reflectlite.Value.Type" 0) (fun t _ _ _ => ReflectliteType.toType t)) Tryz.func134 (by kernel_rfl) (by kernel_rfl) (by kernel_rfl) (by kernel_rfl)
  have h8 := @run_callFunc_extern Tryz.prog 135 _ (ReflectliteValue.method (ReflectliteValue.valueError "reflectlite.Value.IsNil" 0) ReflectliteValue.isNil) Tryz.func135 (by kernel_rfl) (by kernel_rfl) (by kernel_rfl) (by kernel_rfl)
  have h27 := @run_callFunc_extern Tryz.prog 193 _ (ReflectliteType.abiMethod fun t => do pure (.int .u8 (← Rtype.kind t))) Tryz.func193 (by kernel_rfl) (by kernel_rfl) (by kernel_rfl) (by kernel_rfl)
  have h37 := @run_callFunc_extern Tryz.prog 205 _ (ReflectliteType.method ReflectliteType.elem) Tryz.func205 (by kernel_rfl) (by kernel_rfl) (by kernel_rfl) (by kernel_rfl)
  have h38 := @run_callFunc_extern Tryz.prog 206 _ (ReflectliteType.relation "Implements" ReflectliteType.implements_) Tryz.func206 (by kernel_rfl) (by kernel_rfl) (by kernel_rfl) (by kernel_rfl)
  have h10 := @run_callFunc_extern Tryz.prog 162 _ ReflectliteType.typeOf Tryz.func162 (by kernel_rfl) (by kernel_rfl) (by kernel_rfl) (by kernel_rfl)
  have h35 := @run_callFunc_extern Tryz.prog 203 _ (ReflectliteType.relation "AssignableTo" ReflectliteType.assignableTo) Tryz.func203 (by kernel_rfl) (by kernel_rfl) (by kernel_rfl) (by kernel_rfl)
  have h11 := @run_callFunc_extern Tryz.prog 163 _ (ReflectliteValue.method (ReflectliteValue.valueError "reflectlite.Value.Elem" 0) ReflectliteValue.elem) Tryz.func163 (by kernel_rfl) (by kernel_rfl) (by kernel_rfl) (by kernel_rfl)
  have h12 := @run_callFunc_extern Tryz.prog 164 _ ReflectliteValue.set Tryz.func164 (by kernel_rfl) (by kernel_rfl) (by kernel_rfl) (by kernel_rfl)
  have tO := er_typeOfCode
  have tF := er_typeOfFault
  have mA := er_methodAssignableTo
  have aC := er_asgnCode
  have aF := er_asgnFault
  have aN := er_asgnNo
  have vC := er_valueOfCode
  have vF := er_valueOfFault
  have f6 := er_valueOfPCode
  have f7 := er_typeCode
  have mK := er_methodKind
  have mE := er_methodElem
  have mI := er_methodImplements
  have k27 := er_kindPCode
  have k25 := er_kindCode
  have e27 := er_elemCode
  have i25 := er_implCode
  have mU := er_methodUnwrap
  have nA := er_noAs
  have hU := er_hasUn
  have hlt : 0 < w.heap.size := by
    rcases Nat.lt_or_ge 0 w.heap.size with h | h
    · exact h
    · simp [World.cell?, Array.getElem?_eq_none h] at hg
  have n8 := er_isNilCode ⟨w.heap.size, 0, none⟩ ⟨t, 0, none⟩ ((w.alloc (.cells #[.pointer (some ⟨t, 0, none⟩)] 152)).alloc (.cells #[.pointer (some ⟨3, 152, none⟩), .pointer (some ⟨w.heap.size, 0, none⟩), .int .u64 150] 187)) (by simp)
  have hg2 : ((w.alloc (.cells #[.pointer (some ⟨t, 0, none⟩)] 152)).alloc (.cells #[.pointer (some ⟨3, 152, none⟩), .pointer (some ⟨w.heap.size, 0, none⟩), .int .u64 150] 187)).cell? ⟨0, 0, none⟩ = some (.iface 221 (.agg #[.pointer (some ⟨3, 49, none⟩)])) := by
    rw [World.cell?_alloc_lt _ _ ⟨0, 0, none⟩ (by simp <;> omega), World.cell?_alloc_lt _ _ ⟨0, 0, none⟩ hlt]; exact hg
  have htl : t < w.heap.size := by
    rcases Nat.lt_or_ge t w.heap.size with h | h
    · exact h
    · simp [World.cell?, Array.getElem?_eq_none h] at ht0
  have el := er_elemVCode ⟨w.heap.size, 0, none⟩ ⟨t, 0, none⟩ ((((w.alloc (.cells #[.pointer (some ⟨t, 0, none⟩)] 152)).alloc (.cells #[.pointer (some ⟨3, 152, none⟩), .pointer (some ⟨w.heap.size, 0, none⟩), .int .u64 150] 187)).alloc (.cells #[.pointer (some ⟨3, 152, none⟩), .pointer (some ⟨w.heap.size, 0, none⟩), .int .u64 150] 187)).alloc (.cells #[.int .i64 c, .int .i64 n] 154)) (by rw [World.cell?_alloc_lt _ _ ⟨w.heap.size, 0, none⟩ (by simp; omega), World.cell?_alloc_lt _ _ ⟨w.heap.size, 0, none⟩ (by simp; omega)]; simp)
  have st := er_setCode ⟨t, 0, none⟩ ⟨w.heap.size + 1 + 1 + 1 + 1, 0, none⟩ c old (((((w.alloc (.cells #[.pointer (some ⟨t, 0, none⟩)] 152)).alloc (.cells #[.pointer (some ⟨3, 152, none⟩), .pointer (some ⟨w.heap.size, 0, none⟩), .int .u64 150] 187)).alloc (.cells #[.pointer (some ⟨3, 152, none⟩), .pointer (some ⟨w.heap.size, 0, none⟩), .int .u64 150] 187)).alloc (.cells #[.int .i64 c, .int .i64 n] 154)).alloc (.cells #[.int .i64 c] 95))
    (by rw [World.cell?_alloc_at _ _ _ _ (by simp)]; rfl)
    (by rw [World.cell?_alloc_lt _ _ ⟨t, 0, none⟩ (by simp; omega), World.cell?_alloc_lt _ _ ⟨t, 0, none⟩ (by simp; omega), World.cell?_alloc_lt _ _ ⟨t, 0, none⟩ (by simp; omega), World.cell?_alloc_lt _ _ ⟨t, 0, none⟩ (by simp; omega), World.cell?_alloc_lt _ _ ⟨t, 0, none⟩ htl]; exact ht0)
    (by rw [World.frozen?_alloc_old _ _ ⟨t, 0, none⟩ (by simp; omega), World.frozen?_alloc_old _ _ ⟨t, 0, none⟩ (by simp; omega), World.frozen?_alloc_old _ _ ⟨t, 0, none⟩ (by simp; omega), World.frozen?_alloc_old _ _ ⟨t, 0, none⟩ (by simp; omega), World.frozen?_alloc_old _ _ ⟨t, 0, none⟩ (Nat.ne_of_lt htl)]; exact hf0)
  go_enter Tryz.func94, Tryz.ntmps94
  go_wp2
  refine wp_loop_rounds 2 ?_
  rw [rounds_succ]
  go_wp2
  rw [rounds_succ]
  go_wp2
  go_ret
  exact ⟨rfl, rfl⟩
set_option maxHeartbeats 8000000 in
theorem er_asAt (c n : Int) (t : Nat) (o1 o2 : Value) (w : World) (hg : w.cell? ⟨0, 0, none⟩ = some (.iface 221 (.agg #[.pointer (some ⟨3, 49, none⟩)]))) (e : TypeId) (hrow : w.heap[t]? = some (.cells #[o1, o2] e (0, 0))) :
    Calls Tryz.prog 94 #[.iface 154 (.agg #[.int .i64 c, .int .i64 n]), .iface 155 (.pointer (some ⟨t, 0, none⟩))] w fun ev w' => ev = .returned (.bool true) ∧ w' = ((((w.alloc (.cells #[.pointer (some ⟨t, 0, none⟩)] 155)).alloc (.cells #[.pointer (some ⟨3, 155, none⟩), .pointer (some ⟨w.heap.size, 0, none⟩), .int .u64 150] 187)).alloc (.cells #[.pointer (some ⟨3, 155, none⟩), .pointer (some ⟨w.heap.size, 0, none⟩), .int .u64 150] 187)).alloc (.cells #[.int .i64 c, .int .i64 n] 154)).setRow t #[.int .i64 c, .int .i64 n] := by
  have h6 := @run_callFunc_extern Tryz.prog 133 _ (fun args => ReflectliteValue.unpack (args.getD 0 (.tuple #[]))) Tryz.func133 (by kernel_rfl) (by kernel_rfl) (by kernel_rfl) (by kernel_rfl)
  have h7 := @run_callFunc_extern Tryz.prog 134 _ (ReflectliteValue.methodAny (ReflectliteValue.valueError "reflectlite.Value.Type" 0) (fun t _ _ _ => ReflectliteType.toType t)) Tryz.func134 (by kernel_rfl) (by kernel_rfl) (by kernel_rfl) (by kernel_rfl)
  have h8 := @run_callFunc_extern Tryz.prog 135 _ (ReflectliteValue.method (ReflectliteValue.valueError "reflectlite.Value.IsNil" 0) ReflectliteValue.isNil) Tryz.func135 (by kernel_rfl) (by kernel_rfl) (by kernel_rfl) (by kernel_rfl)
  have h27 := @run_callFunc_extern Tryz.prog 193 _ (ReflectliteType.abiMethod fun t => do pure (.int .u8 (← Rtype.kind t))) Tryz.func193 (by kernel_rfl) (by kernel_rfl) (by kernel_rfl) (by kernel_rfl)
  have h37 := @run_callFunc_extern Tryz.prog 205 _ (ReflectliteType.method ReflectliteType.elem) Tryz.func205 (by kernel_rfl) (by kernel_rfl) (by kernel_rfl) (by kernel_rfl)
  have h38 := @run_callFunc_extern Tryz.prog 206 _ (ReflectliteType.relation "Implements" ReflectliteType.implements_) Tryz.func206 (by kernel_rfl) (by kernel_rfl) (by kernel_rfl) (by kernel_rfl)
  have h10 := @run_callFunc_extern Tryz.prog 162 _ ReflectliteType.typeOf Tryz.func162 (by kernel_rfl) (by kernel_rfl) (by kernel_rfl) (by kernel_rfl)
  have h35 := @run_callFunc_extern Tryz.prog 203 _ (ReflectliteType.relation "AssignableTo" ReflectliteType.assignableTo) Tryz.func203 (by kernel_rfl) (by kernel_rfl) (by kernel_rfl) (by kernel_rfl)
  have h11 := @run_callFunc_extern Tryz.prog 163 _ (ReflectliteValue.method (ReflectliteValue.valueError "reflectlite.Value.Elem" 0) ReflectliteValue.elem) Tryz.func163 (by kernel_rfl) (by kernel_rfl) (by kernel_rfl) (by kernel_rfl)
  have h12 := @run_callFunc_extern Tryz.prog 164 _ ReflectliteValue.set Tryz.func164 (by kernel_rfl) (by kernel_rfl) (by kernel_rfl) (by kernel_rfl)
  have tO := er_typeOfCode
  have tF := er_typeOfFault
  have mA := er_methodAssignableTo
  have aC := er_asgnCode
  have aF := er_asgnFault
  have aN := er_asgnNo
  have vC := er_valueOfCode
  have vF := er_valueOfFault
  have f6 := er_valueOfPFault
  have f7 := er_typeFault
  have mK := er_methodKind
  have mE := er_methodElem
  have mI := er_methodImplements
  have k27 := er_kindPFault
  have k25 := er_kindFault
  have e27 := er_elemFault
  have i25 := er_implFault
  have mU := er_methodUnwrap
  have nA := er_noAs
  have hU := er_hasUn
  have hlt : 0 < w.heap.size := by
    rcases Nat.lt_or_ge 0 w.heap.size with h | h
    · exact h
    · simp [World.cell?, Array.getElem?_eq_none h] at hg
  have n8 := er_isNilFault ⟨w.heap.size, 0, none⟩ ⟨t, 0, none⟩ ((w.alloc (.cells #[.pointer (some ⟨t, 0, none⟩)] 155)).alloc (.cells #[.pointer (some ⟨3, 155, none⟩), .pointer (some ⟨w.heap.size, 0, none⟩), .int .u64 150] 187)) (by simp)
  have hg2 : ((w.alloc (.cells #[.pointer (some ⟨t, 0, none⟩)] 155)).alloc (.cells #[.pointer (some ⟨3, 155, none⟩), .pointer (some ⟨w.heap.size, 0, none⟩), .int .u64 150] 187)).cell? ⟨0, 0, none⟩ = some (.iface 221 (.agg #[.pointer (some ⟨3, 49, none⟩)])) := by
    rw [World.cell?_alloc_lt _ _ ⟨0, 0, none⟩ (by simp <;> omega), World.cell?_alloc_lt _ _ ⟨0, 0, none⟩ hlt]; exact hg
  have htl : t < w.heap.size := by
    rcases Nat.lt_or_ge t w.heap.size with h | h
    · exact h
    · rw [Array.getElem?_eq_none h] at hrow; cases hrow
  have el := er_elemVFault ⟨w.heap.size, 0, none⟩ ⟨t, 0, none⟩ (((w.alloc (.cells #[.pointer (some ⟨t, 0, none⟩)] 155)).alloc (.cells #[.pointer (some ⟨3, 155, none⟩), .pointer (some ⟨w.heap.size, 0, none⟩), .int .u64 150] 187)).alloc (.cells #[.pointer (some ⟨3, 155, none⟩), .pointer (some ⟨w.heap.size, 0, none⟩), .int .u64 150] 187)) (by rw [World.cell?_alloc_lt _ _ ⟨w.heap.size, 0, none⟩ (by simp; omega)]; simp)
  have st := er_setFault t (w.heap.size + 1 + 1 + 1) c n o1 o2 e ((((w.alloc (.cells #[.pointer (some ⟨t, 0, none⟩)] 155)).alloc (.cells #[.pointer (some ⟨3, 155, none⟩), .pointer (some ⟨w.heap.size, 0, none⟩), .int .u64 150] 187)).alloc (.cells #[.pointer (some ⟨3, 155, none⟩), .pointer (some ⟨w.heap.size, 0, none⟩), .int .u64 150] 187)).alloc (.cells #[.int .i64 c, .int .i64 n] 154))
    (by rw [World.cell?_alloc_at _ _ _ _ (by simp)]; rfl)
    (by rw [World.cell?_alloc_at _ _ _ _ (by simp)]; rfl)
    (by simp only [World.alloc, Array.getElem?_push, Array.size_push]; rw [if_neg (by omega), if_neg (by omega), if_neg (by omega), if_neg (by omega)]; exact hrow)
  go_enter Tryz.func94, Tryz.ntmps94
  go_wp2
  refine wp_loop_rounds 1 ?_
  rw [rounds_succ]
  go_wp2
  go_ret
  exact ⟨rfl, rfl⟩

theorem er_hg {w : World} (o : Obj) (hg : w.cell? ⟨0, 0, none⟩ = some (.iface 221 (.agg #[.pointer (some ⟨3, 49, none⟩)]))) : (w.alloc o).cell? ⟨0, 0, none⟩ = some (.iface 221 (.agg #[.pointer (some ⟨3, 49, none⟩)])) := by
  have hlt : 0 < w.heap.size := by
    rcases Nat.lt_or_ge 0 w.heap.size with h | h
    · exact h
    · simp [World.cell?, Array.getElem?_eq_none h] at hg
  rw [World.cell?_alloc_lt _ _ ⟨0, 0, none⟩ hlt]; exact hg
theorem er_setRow {B : Nat} {a w : World} (h : Below B a w) {b : Nat} (hb : B ≤ b) (c : Array Value) : Below B a (w.setRow b c) := by
  refine h.trans ⟨rfl, rfl, rfl, by simp [World.setRow], fun k hk => ?_⟩
  simp only [World.setRow, Array.getElem?_modify]
  rw [if_neg (by omega)]
set_option maxHeartbeats 4000000 in
theorem er_codeFault (c n : Int) (w : World) (hg : w.cell? ⟨0, 0, none⟩ = some (.iface 221 (.agg #[.pointer (some ⟨3, 49, none⟩)]))) : Calls Tryz.prog 47 #[.iface 154 (.agg #[.int .i64 c, .int .i64 n])] w fun e w' => e = .returned (.tuple #[.int .i64 c, .bool true]) ∧ Below w.heap.size w w' := by
  have hA := er_asCode c n w.heap.size (.int .i64 0) (w.alloc (.cells #[.int .i64 0] 95)) (er_hg _ hg) (by simp) (by simp)
  go_enter Tryz.func47, Tryz.ntmps47
  go_wp2_with (first | (go_at_call 94; refine hA.mono ?_; rintro e w' ⟨rfl, rfl⟩))
  go_ret2
  refine ⟨rfl, ?_⟩
  refine Below.alloc ?_ (by simp <;> omega) _
  refine Below.alloc ?_ (by simp <;> omega) _
  refine Below.alloc ?_ (by simp <;> omega) _
  refine Below.alloc ?_ (by simp <;> omega) _
  refine Below.alloc ?_ (by simp <;> omega) _
  refine Below.alloc ?_ (by simp <;> omega) _
  exact Below.refl _ _
set_option maxHeartbeats 4000000 in
theorem er_atFault (c n : Int) (w : World) (hg : w.cell? ⟨0, 0, none⟩ = some (.iface 221 (.agg #[.pointer (some ⟨3, 49, none⟩)]))) : Calls Tryz.prog 48 #[.iface 154 (.agg #[.int .i64 c, .int .i64 n])] w fun e w' => e = .returned (.tuple #[.int .i64 n, .bool true]) ∧ Below w.heap.size w w' := by
  have hA := er_asAt c n w.heap.size (.int .i64 0) (.int .i64 0) (w.alloc (.cells #[.int .i64 0, .int .i64 0] 154)) (er_hg _ hg) 154 (by simp only [World.alloc]; exact Array.getElem?_push_size)
  have hcell : ∀ (W : World) (c n : Value) (o1 o2 o3 o4 : Obj), (((((((W.alloc (.cells #[.int .i64 0, .int .i64 0] 154)).alloc o1).alloc o2).alloc o3).alloc o4).setRow W.heap.size #[c, n])).cell? ⟨W.heap.size, 1, none⟩ = some n := by
    intro W c n o1 o2 o3 o4
    simp only [World.cell?, World.setRow, World.alloc, Array.getElem?_modify, Array.getElem?_push, Array.size_push]
    rw [if_neg (show ¬ W.heap.size = W.heap.size + 1 + 1 + 1 + 1 by omega), if_neg (show ¬ W.heap.size = W.heap.size + 1 + 1 + 1 by omega), if_neg (show ¬ W.heap.size = W.heap.size + 1 + 1 by omega), if_neg (show ¬ W.heap.size = W.heap.size + 1 by omega)]
    simp
  go_enter Tryz.func48, Tryz.ntmps48
  go_wp2_with (first | (go_at_call 94; refine hA.mono ?_; rintro e w' ⟨rfl, rfl⟩))
  go_ret2
  refine ⟨rfl, ?_⟩
  refine er_setRow ?_ (Nat.le_refl _) _
  refine Below.alloc ?_ (by simp <;> omega) _
  refine Below.alloc ?_ (by simp <;> omega) _
  refine Below.alloc ?_ (by simp <;> omega) _
  refine Below.alloc ?_ (by simp <;> omega) _
  refine Below.alloc ?_ (by simp <;> omega) _
  exact Below.refl _ _

theorem er_rep {lim : Lim} {h : Array Obj} {v : Value} {t : TypeId} {c n : Int} (r : Rep lim h v (.iface t (.agg [.int .i64 c, .int .i64 n]))) : v = .iface t (.agg #[.int .i64 c, .int .i64 n]) := by
  cases r with
  | iface t u x hx =>
    obtain ⟨cs, rfl, hr⟩ := Rep.agg_iff.1 hx
    obtain ⟨l⟩ := cs
    match l, hr with
    | [], hr => exact absurd hr.1 (by simp)
    | [a], hr => exact absurd hr.1 (by simp)
    | [a, b], hr => rw [rep_int hr.head, rep_int hr.tail.head]
    | a :: b :: d :: r, hr => exact absurd hr.1 (by simp)
theorem er_cell {lim : Lim} {w : World} {i t b o : Nat} (r : GlAt lim w.heap i [.iface t (.agg [.gp b o])]) : w.cell? ⟨i, 0, none⟩ = some (.iface t (.agg #[.pointer (some ⟨b, o, none⟩)])) := by
  obtain ⟨b', off, vs, he, hv, hc⟩ := Rep.ro_iff.1 r.1
  injection he with he; injection he with he; injection he with h1 h2
  subst h1; subst h2
  obtain ⟨u, hu, hr⟩ := hv.get (j := 0) rfl
  have h0 := (hc 0 u hu).2
  rw [cell?_eq]
  rw [h0]
  cases hr with
  | iface t u x hx =>
    obtain ⟨cs, rfl, hr⟩ := Rep.agg_iff.1 hx
    obtain ⟨l⟩ := cs
    match l, hr with
    | [], hr => exact absurd hr.1 (by simp)
    | [a], hr => rw [rep_gp hr.head]
    | a :: b :: r, hr => exact absurd hr.1 (by simp)
def errTy : List AV := [.iface 221 (.agg [.gp 3 49])]
theorem er_rt {lim : Lim} {h : Array Obj} (n : Int) (b : Bool) : Rep lim h (.tuple #[.int .i64 n, .bool b]) (.tup [.int .i64 n, .bool b]) :=
  Rep.tup_iff.2 ⟨_, rfl, .cons (.int _ _) (.cons (.bool _) (RepL.nil _ _))⟩
theorem er_one {vs : List Value} {lim : Lim} {h : Array Obj} {x : AV} (r : RepL lim h vs [x]) : ∃ v, vs = [v] ∧ Rep lim h v x := by
  match vs, r with
  | [], r => exact absurd r.1 (by simp)
  | [a], r => exact ⟨a, rfl, r.head⟩
  | a :: b :: q, r => exact absurd r.1 (by simp)
theorem fault_Code_f (hty : g 0 = some errTy) (c n : Int) : Valid Tryz.prog (G0 g rnd) 47 [.iface 154 (.agg [.int .i64 c, .int .i64 n])] (.tup [.int .i64 c, .bool true]) :=
  valid_callsG (by kernel_rfl) fun lim w cargs hgl hargs => by
    obtain ⟨v, rfl, hv⟩ := er_one hargs
    rw [er_rep hv]
    exact (er_codeFault c n w (er_cell (hgl _ _ hty))).mono fun e w' he => ⟨_, he.1, he.2, fun _ _ => er_rt _ _⟩
theorem fault_At_f (hty : g 0 = some errTy) (c n : Int) : Valid Tryz.prog (G0 g rnd) 48 [.iface 154 (.agg [.int .i64 c, .int .i64 n])] (.tup [.int .i64 n, .bool true]) :=
  valid_callsG (by kernel_rfl) fun lim w cargs hgl hargs => by
    obtain ⟨v, rfl, hv⟩ := er_one hargs
    rw [er_rep hv]
    exact (er_atFault c n w (er_cell (hgl _ _ hty))).mono fun e w' he => ⟨_, he.1, he.2, fun _ _ => er_rt _ _⟩
end Go.Proofs.YtfgafcjebfjepaaGreatDoor
end

section
/- Contracts. -/
set_option linter.all false
set_option maxHeartbeats 1000000
set_option maxRecDepth 10000
namespace Go.Proofs.YtfgafcjebfjepaaGreatDoor
open Go Go.Pv
variable (g:Nat→Option (List AV)) (rnd:Bool)

theorem c_ref01x_Compare (a b:Str) (ha:a.length≤1099511627776):Valid Tryz.prog (G0 g rnd) 151 [.str a,.str b] (.int .i64 (cmpS a b)):=by

 refine valid_of [] Tryz.func151 rfl (by kernel_rfl) ?_
 refine sr fun Z z=>?_
 simp[Tryz.f151]
 apply z
 refine AT_seq_k fun K1 hK1=>?_
 refine sr fun Z z=>?_
 simp
 apply z
 refine AT_block ?_
 refine AT_loop_q [0,1,5] [] (fun j s=>∃ k,(k≤a.length∧k≤b.length)∧cmpS a b=cmpS (a.drop k) (b.drop k)∧j=a.length - k∧s={ n:=42,tm:=[(0,.v (.str a) none),(1,.v (.str b) none),(5,.v (.int .i64 k) none)],bx:=[],tb:=[],sh:=[],hint:=[] }) (a.length) (by first|rfl|simp) ?_ ?_
 exact ⟨0,by simp⟩
 rintro j s ⟨k,⟨hk1,hk2⟩,hc,rfl,rfl⟩ K2 hK2
 refine AT_seq_k fun K3 hK3=>?_
 by_cases hka:k < a.length
 refine sr fun Z z=>?_
 simp[hka]
 apply z
 refine AT_cond (g:=none) rfl (fun hb15=>?_) (fun hb15=>?_)
 simp at hb15
 refine AT_skip ?_
 refine hK3 _ ?_
 refine AT_seq_k fun K4 hK4=>?_
 refine AT_block ?_
 refine AT_seq_k fun K5 hK5=>?_
 refine AT_seq_draw Pt.mixed (by kernel_rfl) fun Z z=>?_
 have hda:=List.drop_eq_getElem_cons hka
 have hdb:=List.drop_eq_getElem_cons hb15
 simp[hka,hb15]
 apply z
 refine AT_cond (g:=none) rfl (fun hb24=>?_) (fun hb24=>?_)
 simp at hb24
 refine sr fun Z z=>?_
 simp[hb24]
 apply z
 refine AT_ret ?_
 simp[Tryz.f151]
 first|(rw[hc,hda,hdb,cmpS_cons];repeat (first|omega|split))|(rw[hc,cmpS_end a b k (by omega) hk1 hk2];repeat (first|omega|split))
 simp at hb24
 refine AT_skip ?_
 refine hK5 _ ?_
 refine AT_seq_draw Pt.mixed (by kernel_rfl) fun Z z=>?_
 simp[hka,hb15]
 apply z
 refine AT_cond (g:=none) rfl (fun hb31=>?_) (fun hb31=>?_)
 simp at hb31
 refine sr fun Z z=>?_
 simp[hb31]
 apply z
 refine AT_ret ?_
 simp[Tryz.f151]
 first|(rw[hc,hda,hdb,cmpS_cons];repeat (first|omega|split))|(rw[hc,cmpS_end a b k (by omega) hk1 hk2];repeat (first|omega|split))
 simp at hb31
 refine AT_skip ?_
 refine hK4 _ ?_
 refine AT_region_q fun Z z=>?_
 simp
 repeat refine sg ?_
 apply z
 refine hK2 _ (by first|rfl|simp) (a.length - (k+1)) (by omega) ?_
 refine ⟨k+1,by omega,?_,by omega,by simp⟩
 rw[hc,hda,hdb,cmpS_cons,if_neg (by omega),if_neg (by omega)]
 simp at hb15
 refine AT_exit ?_
 refine hK1 _ ?_
 refine AT_seq_k fun K6 hK6=>?_
 refine sr fun Z z=>?_
 simp
 apply z
 refine AT_cond (g:=none) rfl (fun hb36=>?_) (fun hb36=>?_)
 simp at hb36
 refine sr fun Z z=>?_
 simp[hb36]
 apply z
 refine AT_ret ?_
 simp[Tryz.f151]
 first|(rw[hc,hda,hdb,cmpS_cons];repeat (first|omega|split))|(rw[hc,cmpS_end a b k (by omega) hk1 hk2];repeat (first|omega|split))
 simp at hb36
 refine AT_skip ?_
 refine hK6 _ ?_
 refine AT_seq_k fun K7 hK7=>?_
 refine sr fun Z z=>?_
 simp
 apply z
 refine AT_cond (g:=none) rfl (fun hb41=>?_) (fun hb41=>?_)
 simp at hb41
 refine sr fun Z z=>?_
 simp[hb41]
 apply z
 refine AT_ret ?_
 simp[Tryz.f151]
 first|(rw[hc,hda,hdb,cmpS_cons];repeat (first|omega|split))|(rw[hc,cmpS_end a b k (by omega) hk1 hk2];repeat (first|omega|split))
 simp at hb41
 refine AT_skip ?_
 refine hK7 _ ?_
 refine sr fun Z z=>?_
 simp
 apply z
 refine AT_ret ?_
 simp[Tryz.f151]
 first|(rw[hc,hda,hdb,cmpS_cons];repeat (first|omega|split))|(rw[hc,cmpS_end a b k (by omega) hk1 hk2];repeat (first|omega|split))
 refine sr fun Z z=>?_
 simp[hka]
 apply z
 refine cF (by simp) ?_
 refine AT_exit ?_
 refine hK1 _ ?_
 refine AT_seq_k fun K8 hK8=>?_
 refine sr fun Z z=>?_
 simp
 apply z
 refine AT_cond (g:=none) rfl (fun hb36=>?_) (fun hb36=>?_)
 simp at hb36
 refine sr fun Z z=>?_
 simp[hb36]
 apply z
 refine AT_ret ?_
 simp[Tryz.f151]
 first|(rw[hc,hda,hdb,cmpS_cons];repeat (first|omega|split))|(rw[hc,cmpS_end a b k (by omega) hk1 hk2];repeat (first|omega|split))
 simp at hb36
 refine AT_skip ?_
 refine hK8 _ ?_
 refine AT_seq_k fun K9 hK9=>?_
 refine sr fun Z z=>?_
 simp
 apply z
 refine AT_cond (g:=none) rfl (fun hb41=>?_) (fun hb41=>?_)
 simp at hb41
 refine sr fun Z z=>?_
 simp[hb41]
 apply z
 refine AT_ret ?_
 simp[Tryz.f151]
 first|(rw[hc,hda,hdb,cmpS_cons];repeat (first|omega|split))|(rw[hc,cmpS_end a b k (by omega) hk1 hk2];repeat (first|omega|split))
 simp at hb41
 refine AT_skip ?_
 refine hK9 _ ?_
 refine sr fun Z z=>?_
 simp
 apply z
 refine AT_ret ?_
 simp[Tryz.f151]
 first|(rw[hc,hda,hdb,cmpS_cons];repeat (first|omega|split))|(rw[hc,cmpS_end a b k (by omega) hk1 hk2];repeat (first|omega|split))

end Go.Proofs.YtfgafcjebfjepaaGreatDoor
end

section
/- Contracts. -/
set_option linter.all false
set_option maxHeartbeats 1000000
set_option maxRecDepth 10000
namespace Go.Proofs.YtfgafcjebfjepaaGreatDoor
open Go Go.Pv
variable (g:Nat→Option (List AV)) (rnd:Bool)

theorem c_ref04x_Compare:∀ t u:Ty,wt t≤1099511627776→Valid Tryz.prog (G0 g rnd) 116 [.agg (encTy t),.agg (encTy u)] (.int .i64 (cmpT t u)):=by
 intro t
 induction t using Ty.ind with
 | h n ts p ih=>
 intro u hw
 obtain ⟨m,us,q⟩:=u
 have hw2:n.length+1+wts ts≤1099511627776:=by simpa[wt] using hw
 have hln:=wts_len ts
 refine valid_of [] Tryz.func116 rfl (by kernel_rfl) ?_
 refine sr fun Z z=>?_
 simp[Tryz.f116]
 apply z
 refine AT_seq_k fun K1 hK1=>?_
 refine sr fun Z z=>?_
 simp
 apply z
 refine AT_cond (g:=none) rfl (fun hb11=>?_) (fun hb11=>?_)
 simp at hb11
 refine sr fun Z z=>?_
 simp
 refine RVn_call (c_ref01x_Compare g rnd n m (by omega)) ?_
 simp
 apply z
 refine AT_ret ?_
 simp[Tryz.f116]
 (·simp[cmpT,cmpS_eq,hb11])
 simp at hb11
 subst hb11
 refine AT_skip ?_
 refine hK1 _ ?_
 refine AT_seq_k fun K2 hK2=>?_
 refine sr fun Z z=>?_
 simp
 apply z
 refine AT_block ?_
 refine AT_loop_q [2,3,5] [2,3] (fun j s=>∃ k,(k≤ts.length∧k≤us.length)∧cmpTs ts us=cmpTs (ts.drop k) (us.drop k)∧j=ts.length - k∧s={ n:=59,tm:=[(2,.lp 2 0),(3,.lp 3 0),(5,.v (.int .i64 k) none)],bx:=[(2,encTy (.mk n ts p)),(3,encTy (.mk n us q))],tb:=[],sh:=[],hint:=[] }) (ts.length) (by first|rfl|simp) ?_ ?_
 exact ⟨0,by simp⟩
 rintro j s ⟨k,⟨hk1,hk2⟩,hc,rfl,rfl⟩ K3 hK3
 refine AT_seq_k fun K4 hK4=>?_
 by_cases hka:k < ts.length
 refine sr fun Z z=>?_
 simp[hka]
 apply z
 refine AT_cond (g:=none) rfl (fun hb28=>?_) (fun hb28=>?_)
 simp at hb28
 refine AT_skip ?_
 refine hK4 _ ?_
 refine AT_seq_k fun K5 hK5=>?_
 refine AT_block ?_
 refine AT_seq_draw Pt.mixed (by kernel_rfl) fun Z z=>?_
 have hm:=wts_mem (l:=ts) (t:=ts[k]) (by simp)
 have hda:=List.drop_eq_getElem_cons hka
 have hdb:=List.drop_eq_getElem_cons hb28
 simp[row_map,hka,hb28]
 refine RVdn_call (ih ts[k] (by simp) us[k] (by omega)) ?_
 simp
 apply z
 refine sr fun Z z=>?_
 simp
 apply z
 refine AT_cond (g:=none) rfl (fun hb43=>?_) (fun hb43=>?_)
 simp at hb43
 refine sr fun Z z=>?_
 simp
 apply z
 refine AT_ret ?_
 simp[Tryz.f116]
 (rw[show cmpT (.mk n ts p) (.mk n us q)=cmpTs ts us by simp[cmpT,cmpS_eq],hc,hda,hdb,cmpTs_cons,if_neg hb43])
 simp at hb43
 refine AT_skip ?_
 refine hK5 _ ?_
 refine AT_region_q fun Z z=>?_
 simp[hb43]
 repeat refine sg ?_
 apply z
 refine hK3 _ (by first|rfl|simp) (ts.length - (k+1)) (by omega) ?_
 refine ⟨k+1,by omega,?_,by omega,by simp⟩
 rw[hc,hda,hdb,cmpTs_cons,if_pos hb43]
 simp at hb28
 refine AT_exit ?_
 refine hK2 _ ?_
 refine AT_seq_k fun K6 hK6=>?_
 refine sr fun Z z=>?_
 simp
 apply z
 refine AT_cond (g:=none) rfl (fun hb51=>?_) (fun hb51=>?_)
 simp at hb51
 refine sr fun Z z=>?_
 simp[hb51]
 apply z
 refine AT_ret ?_
 simp[Tryz.f116]
 (rw[show cmpT (.mk n ts p) (.mk n us q)=cmpTs ts us by simp[cmpT,cmpS_eq],hc,cmpTs_end ts us k (by omega) hk1 hk2];repeat (first|omega|split))
 simp at hb51
 refine AT_skip ?_
 refine hK6 _ ?_
 refine AT_seq_k fun K7 hK7=>?_
 refine sr fun Z z=>?_
 simp
 apply z
 refine AT_cond (g:=none) rfl (fun hb58=>?_) (fun hb58=>?_)
 simp at hb58
 refine sr fun Z z=>?_
 simp[hb58]
 apply z
 refine AT_ret ?_
 simp[Tryz.f116]
 (rw[show cmpT (.mk n ts p) (.mk n us q)=cmpTs ts us by simp[cmpT,cmpS_eq],hc,cmpTs_end ts us k (by omega) hk1 hk2];repeat (first|omega|split))
 simp at hb58
 refine AT_skip ?_
 refine hK7 _ ?_
 refine sr fun Z z=>?_
 simp
 apply z
 refine AT_ret ?_
 simp[Tryz.f116]
 (rw[show cmpT (.mk n ts p) (.mk n us q)=cmpTs ts us by simp[cmpT,cmpS_eq],hc,cmpTs_end ts us k (by omega) hk1 hk2];repeat (first|omega|split))
 refine sr fun Z z=>?_
 simp[hka]
 apply z
 refine cF (by simp) ?_
 refine AT_exit ?_
 refine hK2 _ ?_
 refine AT_seq_k fun K8 hK8=>?_
 refine sr fun Z z=>?_
 simp
 apply z
 refine AT_cond (g:=none) rfl (fun hb51=>?_) (fun hb51=>?_)
 simp at hb51
 refine sr fun Z z=>?_
 simp[hb51]
 apply z
 refine AT_ret ?_
 simp[Tryz.f116]
 (rw[show cmpT (.mk n ts p) (.mk n us q)=cmpTs ts us by simp[cmpT,cmpS_eq],hc,cmpTs_end ts us k (by omega) hk1 hk2];repeat (first|omega|split))
 simp at hb51
 refine AT_skip ?_
 refine hK8 _ ?_
 refine AT_seq_k fun K9 hK9=>?_
 refine sr fun Z z=>?_
 simp
 apply z
 refine AT_cond (g:=none) rfl (fun hb58=>?_) (fun hb58=>?_)
 simp at hb58
 refine sr fun Z z=>?_
 simp[hb58]
 apply z
 refine AT_ret ?_
 simp[Tryz.f116]
 (rw[show cmpT (.mk n ts p) (.mk n us q)=cmpTs ts us by simp[cmpT,cmpS_eq],hc,cmpTs_end ts us k (by omega) hk1 hk2];repeat (first|omega|split))
 simp at hb58
 refine AT_skip ?_
 refine hK9 _ ?_
 refine sr fun Z z=>?_
 simp
 apply z
 refine AT_ret ?_
 simp[Tryz.f116]
 (rw[show cmpT (.mk n ts p) (.mk n us q)=cmpTs ts us by simp[cmpT,cmpS_eq],hc,cmpTs_end ts us k (by omega) hk1 hk2];repeat (first|omega|split))

end Go.Proofs.YtfgafcjebfjepaaGreatDoor
end

section
/- Contracts. -/
set_option linter.all false
set_option maxHeartbeats 1000000
set_option maxRecDepth 10000
namespace Go.Proofs.YtfgafcjebfjepaaGreatDoor
open Go Go.Pv
variable (g:Nat→Option (List AV)) (rnd:Bool)

end Go.Proofs.YtfgafcjebfjepaaGreatDoor
end
