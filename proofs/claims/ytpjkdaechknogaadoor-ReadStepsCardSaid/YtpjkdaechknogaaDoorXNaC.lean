import Derived.Test.YtpjkdaechknogaaDoorPt
import Derived.Test.YtpjkdaechknogaaDoorPvPb
import Derived.Test.YtpjkdaechknogaaDoorPvY
import Derived.LaidEql
import Derived.Stop.Asserts
import Derived.RowKitTokens
import Derived.WalkKit
section
/- errors.As at the targets that the package fault has, and what fault.Code and fault.At hand back. -/
set_option linter.all false
set_option maxHeartbeats 1000000
set_option maxRecDepth 10000
namespace Go.Proofs.YtpjkdaechknogaaDoor
open Go Go.Pv
variable (g : Nat → Option (List AV)) (rnd : Bool)

open Go.RowKit Go.Extern.Stop Go.Stop Go.Extern
theorem er_rlm (z : Sem Value) (f : TypeId → Addr → Nat → Nat → Sem Value) (v : Value) :
    ReflectliteValue.method z f #[v] = (do match ← ReflectliteValue.parts v with | none => z | some (t, a, fl) => f t a fl (fl % 32)) := rfl
theorem er_rls (v x : Value) : ReflectliteValue.set #[v, x] = (do
    let (some (dst, a, fl), some (src, b, _)) := (← ReflectliteValue.parts v, ← ReflectliteValue.parts x)
      | unsupported (.noEntry "extern/(internal/reflectlite.Value).Set.zeroValue")
    if fl / ReflectliteValue.flagAddr % 2 == 0 then unsupported (.noEntry "extern/(internal/reflectlite.Value).Set.unaddressable")
    let val ← loadVar src b
    if ← Rtype.directlyAssignable dst src then storeVar dst a val
    else if ← Rtype.implements dst src then
      if (← Rtype.kind src) == 20 then
        match val with
        | .nilIface => unsupported (.noEntry "extern/reflectlite: a nil value of one interface type handed on as a value of another")
        | _ => storeVar dst a val
      else storeVar dst a (.iface src val)
    else panicString ("reflectlite.Set: value of type " ++ (← Rtype.spelt src) ++ " is not assignable to type " ++ (← Rtype.spelt dst))
    pure (.tuple #[])) := rfl
theorem er_valueOfPCode (t : Addr) (w : World) : (ReflectliteValue.unpack (.iface 114 (.pointer (some t)))).run Tryd.prog w = .ok (.agg #[.pointer (some ⟨3, 114, none⟩), .pointer (some ⟨w.heap.size, 0, none⟩), .int .u64 150]) (w.alloc (.cells #[.pointer (some t)] 114)) := by kernel_rfl
theorem er_typeCode (a : Addr) (w : World) : (ReflectliteValue.methodAny (ReflectliteValue.valueError "reflectlite.Value.Type" 0) (fun t _ _ _ => ReflectliteType.toType t) #[.agg #[.pointer (some ⟨3, 114, none⟩), .pointer (some a), .int .u64 150]]).run Tryd.prog w = .ok (.iface 141 (.agg #[.pointer (some ⟨3, 114, none⟩)])) w := by kernel_rfl
theorem er_kindPCode (w : World) : ((ReflectliteType.abiMethod fun t => (fun a : Nat => Value.int IntKind.u8 (a : Int)) <$> Rtype.kind t) #[.pointer (some ⟨3, 114, none⟩)]).run Tryd.prog w = .ok (.int .u8 22) w := by kernel_rfl
theorem er_kindCode (w : World) : ((ReflectliteType.abiMethod fun t => (fun a : Nat => Value.int IntKind.u8 (a : Int)) <$> Rtype.kind t) #[.pointer (some ⟨3, 85, none⟩)]).run Tryd.prog w = .ok (.int .u8 2) w := by kernel_rfl
theorem er_partsCode (a : Addr) (w : World) : (ReflectliteValue.parts (.agg #[.pointer (some ⟨3, 114, none⟩), .pointer (some a), .int .u64 150])).run Tryd.prog w = .ok (some (114, a, 150)) w := by kernel_rfl
theorem er_isNilCode (a p : Addr) (W : World) (ha : W.cell? a = some (.pointer (some p))) :
    (ReflectliteValue.method (ReflectliteValue.valueError "reflectlite.Value.IsNil" 0) ReflectliteValue.isNil #[.agg #[.pointer (some ⟨3, 114, none⟩), .pointer (some a), .int .u64 150]]).run Tryd.prog W = .ok (.bool false) W := by
  rw [er_rlm]
  simp only [Sem.run_bind, er_partsCode, Result.andThen]
  simp [ReflectliteValue.isNil, loadVar, isAgg, underlying, Tryd.underlying114, ha, Result.andThen]
theorem er_elemCode (w : World) : (ReflectliteType.method ReflectliteType.elem #[.agg #[.pointer (some ⟨3, 114, none⟩)]]).run Tryd.prog w = .ok (.iface 141 (.agg #[.pointer (some ⟨3, 85, none⟩)])) w := by kernel_rfl
theorem er_implCode (w : World) : (ReflectliteType.relation "Implements" ReflectliteType.implements_ #[.agg #[.pointer (some ⟨3, 85, none⟩)], .iface 141 (.agg #[.pointer (some ⟨3, 32, none⟩)])]).run Tryd.prog w = .ok (.bool true) w := by kernel_rfl
theorem er_elemOfCode (w : World) : (Rtype.elem? 114).run Tryd.prog w = .ok (some 85) w := by kernel_rfl
theorem er_mkCode (p : Addr) (w : World) : (ReflectliteValue.mk 85 p ReflectliteValue.flagAddr).run Tryd.prog w = .ok (.agg #[.pointer (some ⟨3, 85, none⟩), .pointer (some p), .int .u64 386]) w := by kernel_rfl
theorem er_elemVCode (a p : Addr) (W : World) (ha : W.cell? a = some (.pointer (some p))) :
    (ReflectliteValue.method (ReflectliteValue.valueError "reflectlite.Value.Elem" 0) ReflectliteValue.elem #[.agg #[.pointer (some ⟨3, 114, none⟩), .pointer (some a), .int .u64 150]]).run Tryd.prog W
      = .ok (.agg #[.pointer (some ⟨3, 85, none⟩), .pointer (some p), .int .u64 386]) W := by
  rw [er_rlm]
  simp only [Sem.run_bind, er_partsCode, Result.andThen]
  simp [ReflectliteValue.elem, loadVar, isAgg, underlying, Tryd.underlying114, ha, Result.andThen, er_elemOfCode, er_mkCode]
theorem er_typeOfCode (v : Value) (w : World) : (ReflectliteType.typeOf #[.iface 85 v]).run Tryd.prog w = .ok (.iface 141 (.agg #[.pointer (some ⟨3, 85, none⟩)])) w := by kernel_rfl
theorem er_asgnCode (w : World) : (ReflectliteType.relation "AssignableTo" ReflectliteType.assignableTo #[.agg #[.pointer (some ⟨3, 85, none⟩)], .iface 141 (.agg #[.pointer (some ⟨3, 85, none⟩)])]).run Tryd.prog w = .ok (.bool true) w := by kernel_rfl
theorem er_partsACode (a : Addr) (w : World) : (ReflectliteValue.parts (.agg #[.pointer (some ⟨3, 85, none⟩), .pointer (some a), .int .u64 386])).run Tryd.prog w = .ok (some (85, a, 386)) w := by kernel_rfl
theorem er_partsBCode (a : Addr) (w : World) : (ReflectliteValue.parts (.agg #[.pointer (some ⟨3, 85, none⟩), .pointer (some a), .int .u64 130])).run Tryd.prog w = .ok (some (85, a, 130)) w := by kernel_rfl
theorem er_directCode (w : World) : (Rtype.directlyAssignable 85 85).run Tryd.prog w = .ok true w := by kernel_rfl
theorem er_valueOfPFault (t : Addr) (w : World) : (ReflectliteValue.unpack (.iface 115 (.pointer (some t)))).run Tryd.prog w = .ok (.agg #[.pointer (some ⟨3, 115, none⟩), .pointer (some ⟨w.heap.size, 0, none⟩), .int .u64 150]) (w.alloc (.cells #[.pointer (some t)] 115)) := by kernel_rfl
theorem er_typeFault (a : Addr) (w : World) : (ReflectliteValue.methodAny (ReflectliteValue.valueError "reflectlite.Value.Type" 0) (fun t _ _ _ => ReflectliteType.toType t) #[.agg #[.pointer (some ⟨3, 115, none⟩), .pointer (some a), .int .u64 150]]).run Tryd.prog w = .ok (.iface 141 (.agg #[.pointer (some ⟨3, 115, none⟩)])) w := by kernel_rfl
theorem er_kindPFault (w : World) : ((ReflectliteType.abiMethod fun t => (fun a : Nat => Value.int IntKind.u8 (a : Int)) <$> Rtype.kind t) #[.pointer (some ⟨3, 115, none⟩)]).run Tryd.prog w = .ok (.int .u8 22) w := by kernel_rfl
theorem er_kindFault (w : World) : ((ReflectliteType.abiMethod fun t => (fun a : Nat => Value.int IntKind.u8 (a : Int)) <$> Rtype.kind t) #[.pointer (some ⟨3, 110, none⟩)]).run Tryd.prog w = .ok (.int .u8 25) w := by kernel_rfl
theorem er_partsFault (a : Addr) (w : World) : (ReflectliteValue.parts (.agg #[.pointer (some ⟨3, 115, none⟩), .pointer (some a), .int .u64 150])).run Tryd.prog w = .ok (some (115, a, 150)) w := by kernel_rfl
theorem er_isNilFault (a p : Addr) (W : World) (ha : W.cell? a = some (.pointer (some p))) :
    (ReflectliteValue.method (ReflectliteValue.valueError "reflectlite.Value.IsNil" 0) ReflectliteValue.isNil #[.agg #[.pointer (some ⟨3, 115, none⟩), .pointer (some a), .int .u64 150]]).run Tryd.prog W = .ok (.bool false) W := by
  rw [er_rlm]
  simp only [Sem.run_bind, er_partsFault, Result.andThen]
  simp [ReflectliteValue.isNil, loadVar, isAgg, underlying, Tryd.underlying115, ha, Result.andThen]
theorem er_elemFault (w : World) : (ReflectliteType.method ReflectliteType.elem #[.agg #[.pointer (some ⟨3, 115, none⟩)]]).run Tryd.prog w = .ok (.iface 141 (.agg #[.pointer (some ⟨3, 110, none⟩)])) w := by kernel_rfl
theorem er_implFault (w : World) : (ReflectliteType.relation "Implements" ReflectliteType.implements_ #[.agg #[.pointer (some ⟨3, 110, none⟩)], .iface 141 (.agg #[.pointer (some ⟨3, 32, none⟩)])]).run Tryd.prog w = .ok (.bool true) w := by kernel_rfl
theorem er_elemOfFault (w : World) : (Rtype.elem? 115).run Tryd.prog w = .ok (some 110) w := by kernel_rfl
theorem er_mkFault (p : Addr) (w : World) : (ReflectliteValue.mk 110 p ReflectliteValue.flagAddr).run Tryd.prog w = .ok (.agg #[.pointer (some ⟨3, 110, none⟩), .pointer (some p), .int .u64 409]) w := by kernel_rfl
theorem er_elemVFault (a p : Addr) (W : World) (ha : W.cell? a = some (.pointer (some p))) :
    (ReflectliteValue.method (ReflectliteValue.valueError "reflectlite.Value.Elem" 0) ReflectliteValue.elem #[.agg #[.pointer (some ⟨3, 115, none⟩), .pointer (some a), .int .u64 150]]).run Tryd.prog W
      = .ok (.agg #[.pointer (some ⟨3, 110, none⟩), .pointer (some p), .int .u64 409]) W := by
  rw [er_rlm]
  simp only [Sem.run_bind, er_partsFault, Result.andThen]
  simp [ReflectliteValue.elem, loadVar, isAgg, underlying, Tryd.underlying115, ha, Result.andThen, er_elemOfFault, er_mkFault]
theorem er_typeOfFault (v : Value) (w : World) : (ReflectliteType.typeOf #[.iface 110 v]).run Tryd.prog w = .ok (.iface 141 (.agg #[.pointer (some ⟨3, 110, none⟩)])) w := by kernel_rfl
theorem er_asgnFault (w : World) : (ReflectliteType.relation "AssignableTo" ReflectliteType.assignableTo #[.agg #[.pointer (some ⟨3, 110, none⟩)], .iface 141 (.agg #[.pointer (some ⟨3, 110, none⟩)])]).run Tryd.prog w = .ok (.bool true) w := by kernel_rfl
theorem er_partsAFault (a : Addr) (w : World) : (ReflectliteValue.parts (.agg #[.pointer (some ⟨3, 110, none⟩), .pointer (some a), .int .u64 409])).run Tryd.prog w = .ok (some (110, a, 409)) w := by kernel_rfl
theorem er_partsBFault (a : Addr) (w : World) : (ReflectliteValue.parts (.agg #[.pointer (some ⟨3, 110, none⟩), .pointer (some a), .int .u64 153])).run Tryd.prog w = .ok (some (110, a, 153)) w := by kernel_rfl
theorem er_directFault (w : World) : (Rtype.directlyAssignable 110 110).run Tryd.prog w = .ok true w := by kernel_rfl
theorem er_valueOfCode (c : Int) (w : World) : (ReflectliteValue.unpack (.iface 85 (.int .i64 c))).run Tryd.prog w = .ok (.agg #[.pointer (some ⟨3, 85, none⟩), .pointer (some ⟨w.heap.size, 0, none⟩), .int .u64 130]) (w.alloc (.cells #[.int .i64 c] 85)) := by kernel_rfl
theorem er_valueOfFault (c n : Int) (w : World) : (ReflectliteValue.unpack (.iface 110 (.agg #[.int .i64 c, .int .i64 n]))).run Tryd.prog w = .ok (.agg #[.pointer (some ⟨3, 110, none⟩), .pointer (some ⟨w.heap.size, 0, none⟩), .int .u64 153]) (w.alloc (.cells #[.int .i64 c, .int .i64 n] 110)) := by kernel_rfl
theorem er_asgnNo (w : World) : (ReflectliteType.relation "AssignableTo" ReflectliteType.assignableTo #[.agg #[.pointer (some ⟨3, 110, none⟩)], .iface 141 (.agg #[.pointer (some ⟨3, 85, none⟩)])]).run Tryd.prog w = .ok (.bool false) w := by kernel_rfl
theorem er_methodElem (h : Value) (w : World) : (Go.method 284 141 (.agg #[h]) "Elem").run Tryd.prog w = .ok (118, .agg #[h]) w := by kernel_rfl
theorem er_methodImplements (h : Value) (w : World) : (Go.method 284 141 (.agg #[h]) "Implements").run Tryd.prog w = .ok (119, .agg #[h]) w := by kernel_rfl
theorem er_methodAssignableTo (h : Value) (w : World) : (Go.method 284 141 (.agg #[h]) "AssignableTo").run Tryd.prog w = .ok (116, .agg #[h]) w := by kernel_rfl
theorem er_methodKind (h : Value) (w : World) : (Go.method 284 141 (.agg #[h]) "Kind").run Tryd.prog w = .ok (106, h) w := by kernel_rfl
theorem er_methodUnwrap (a : Value) (w : World) : (Go.method 284 110 a "Unwrap").run Tryd.prog w = .ok (111, a) w := by kernel_rfl
theorem er_noAs (v : Value) (xT : TypeId) (w : World) : (Instr.typeAssert (.iface 110 v) xT 146 true).run Tryd.prog w = .ok (.tuple #[.nilIface, .bool false]) w := run_typeAssert_lacksB Tryd.underlying146 (by kernel_rfl) (by kernel_rfl) v xT w
theorem er_hasUn (v : Value) (xT : TypeId) (w : World) : (Instr.typeAssert (.iface 110 v) xT 149 true).run Tryd.prog w = .ok (.tuple #[.iface 110 v, .bool true]) w := run_typeAssert_hasB Tryd.underlying149 (by kernel_rfl) v xT w
theorem er_size64 (w : World) : (sizeOf 110).run Tryd.prog w = .ok 2 w := by kernel_rfl
theorem er_setCode (ta b : Addr) (c : Int) (old : Value) (W : World) (hb : W.cell? b = some (.int .i64 c)) (ht : W.cell? ta = some old) (hf : W.frozen? ta = false) :
    (ReflectliteValue.set #[.agg #[.pointer (some ⟨3, 85, none⟩), .pointer (some ta), .int .u64 386], .agg #[.pointer (some ⟨3, 85, none⟩), .pointer (some b), .int .u64 130]]).run Tryd.prog W
      = .ok (.tuple #[]) (W.setCell ta (.int .i64 c)) := by
  rw [er_rls]
  simp only [Sem.run_bind, er_partsACode, er_partsBCode, Result.andThen]
  simp [ReflectliteValue.flagAddr, loadVar, isAgg, underlying, Tryd.underlying85, hb, Result.andThen, er_directCode, storeVar, Value.cells, storeCells, Addr.add]
  rw [run_store Tryd.prog W ta _ _ (by rfl)]
  simp [ht, hf]
theorem er_setFault (ta b : Nat) (c n : Int) (o1 o2 : Value) (e : TypeId) (W : World) (hb1 : W.cell? ⟨b, 0, none⟩ = some (.int .i64 c)) (hb2 : W.cell? ⟨b, 1, none⟩ = some (.int .i64 n)) (hrow : W.heap[ta]? = some (.cells #[o1, o2] e (0, 0))) :
    (ReflectliteValue.set #[.agg #[.pointer (some ⟨3, 110, none⟩), .pointer (some ⟨ta, 0, none⟩), .int .u64 409], .agg #[.pointer (some ⟨3, 110, none⟩), .pointer (some ⟨b, 0, none⟩), .int .u64 153]]).run Tryd.prog W
      = .ok (.tuple #[]) (W.setRow ta #[.int .i64 c, .int .i64 n]) := by
  have hl : (loadVar 110 ⟨b, 0, none⟩).run Tryd.prog W = .ok (.agg #[.int .i64 c, .int .i64 n]) W := by
    have h := run_loadCells_list (P := Tryd.prog) W ⟨b, 0, none⟩ [.int .i64 c, .int .i64 n] (fun j v hj => by
      match j, hj with
      | 0, hj => injection hj with hj; subst hj; exact hb1
      | 1, hj => injection hj with hj; subst hj; exact hb2)
    unfold loadVar
    simp [isAgg, underlying, Tryd.underlying110, Result.andThen, er_size64]
    simp at h
    rw [h]
  have hs := run_storeVar (P := Tryd.prog) (w := W) (t := 110) (b := ta) (off := 0) (v := .agg #[.int .i64 c, .int .i64 n]) hrow (by kernel_rfl) (by kernel_rfl) (by simp [Value.cells]) (by simp [Value.cells, Value.oneCell'])
  rw [er_rls]
  simp only [Sem.run_bind, er_partsAFault, er_partsBFault, Result.andThen_ok, hl]
  simp only [ReflectliteValue.flagAddr, show ((409 / 256 % 2 == 0) = false) by decide, Bool.false_eq_true, if_false, Sem.run_bind, Sem.run_pure, Result.andThen_ok, hl, er_directFault, if_true, hs]
  simp [Value.cells]
set_option maxHeartbeats 8000000 in
theorem er_asCode (c n : Int) (t : Nat) (old : Value) (w : World) (hg : w.cell? ⟨1, 0, none⟩ = some (.iface 141 (.agg #[.pointer (some ⟨3, 32, none⟩)]))) (ht0 : w.cell? ⟨t, 0, none⟩ = some old) (hf0 : w.frozen? ⟨t, 0, none⟩ = false) :
    Calls Tryd.prog 70 #[.iface 110 (.agg #[.int .i64 c, .int .i64 n]), .iface 114 (.pointer (some ⟨t, 0, none⟩))] w fun ev w' => ev = .returned (.bool true) ∧ w' = (((((w.alloc (.cells #[.pointer (some ⟨t, 0, none⟩)] 114)).alloc (.cells #[.pointer (some ⟨3, 114, none⟩), .pointer (some ⟨w.heap.size, 0, none⟩), .int .u64 150] 127)).alloc (.cells #[.pointer (some ⟨3, 114, none⟩), .pointer (some ⟨w.heap.size, 0, none⟩), .int .u64 150] 127)).alloc (.cells #[.int .i64 c, .int .i64 n] 110)).alloc (.cells #[.int .i64 c] 85)).setCell ⟨t, 0, none⟩ (.int .i64 c) := by
  have h6 := @run_callFunc_extern Tryd.prog 79 _ (fun args => ReflectliteValue.unpack (args.getD 0 (.tuple #[]))) Tryd.func79 (by kernel_rfl) (by kernel_rfl) (by kernel_rfl) (by kernel_rfl)
  have h7 := @run_callFunc_extern Tryd.prog 80 _ (ReflectliteValue.methodAny (ReflectliteValue.valueError "reflectlite.Value.Type" 0) (fun t _ _ _ => ReflectliteType.toType t)) Tryd.func80 (by kernel_rfl) (by kernel_rfl) (by kernel_rfl) (by kernel_rfl)
  have h8 := @run_callFunc_extern Tryd.prog 81 _ (ReflectliteValue.method (ReflectliteValue.valueError "reflectlite.Value.IsNil" 0) ReflectliteValue.isNil) Tryd.func81 (by kernel_rfl) (by kernel_rfl) (by kernel_rfl) (by kernel_rfl)
  have h27 := @run_callFunc_extern Tryd.prog 106 _ (ReflectliteType.abiMethod fun t => do pure (.int .u8 (← Rtype.kind t))) Tryd.func106 (by kernel_rfl) (by kernel_rfl) (by kernel_rfl) (by kernel_rfl)
  have h37 := @run_callFunc_extern Tryd.prog 118 _ (ReflectliteType.method ReflectliteType.elem) Tryd.func118 (by kernel_rfl) (by kernel_rfl) (by kernel_rfl) (by kernel_rfl)
  have h38 := @run_callFunc_extern Tryd.prog 119 _ (ReflectliteType.relation "Implements" ReflectliteType.implements_) Tryd.func119 (by kernel_rfl) (by kernel_rfl) (by kernel_rfl) (by kernel_rfl)
  have h10 := @run_callFunc_extern Tryd.prog 88 _ ReflectliteType.typeOf Tryd.func88 (by kernel_rfl) (by kernel_rfl) (by kernel_rfl) (by kernel_rfl)
  have h35 := @run_callFunc_extern Tryd.prog 116 _ (ReflectliteType.relation "AssignableTo" ReflectliteType.assignableTo) Tryd.func116 (by kernel_rfl) (by kernel_rfl) (by kernel_rfl) (by kernel_rfl)
  have h11 := @run_callFunc_extern Tryd.prog 89 _ (ReflectliteValue.method (ReflectliteValue.valueError "reflectlite.Value.Elem" 0) ReflectliteValue.elem) Tryd.func89 (by kernel_rfl) (by kernel_rfl) (by kernel_rfl) (by kernel_rfl)
  have h12 := @run_callFunc_extern Tryd.prog 90 _ ReflectliteValue.set Tryd.func90 (by kernel_rfl) (by kernel_rfl) (by kernel_rfl) (by kernel_rfl)
  have tO := er_typeOfCode
  have tF := er_typeOfFault
  have mA := er_methodAssignableTo
  have aC := er_asgnCode
  have aF := er_asgnFault
  have aN := er_asgnNo
  have vC := er_valueOfCode
  have vF := er_valueOfFault
  have f6 := er_valueOfPCode
  have f7 := er_typeCode
  have mK := er_methodKind
  have mE := er_methodElem
  have mI := er_methodImplements
  have k27 := er_kindPCode
  have k25 := er_kindCode
  have e27 := er_elemCode
  have i25 := er_implCode
  have mU := er_methodUnwrap
  have nA := er_noAs
  have hU := er_hasUn
  have hlt : 1 < w.heap.size := by
    rcases Nat.lt_or_ge 1 w.heap.size with h | h
    · exact h
    · simp [World.cell?, Array.getElem?_eq_none h] at hg
  have n8 := er_isNilCode ⟨w.heap.size, 0, none⟩ ⟨t, 0, none⟩ ((w.alloc (.cells #[.pointer (some ⟨t, 0, none⟩)] 114)).alloc (.cells #[.pointer (some ⟨3, 114, none⟩), .pointer (some ⟨w.heap.size, 0, none⟩), .int .u64 150] 127)) (by simp)
  have hg2 : ((w.alloc (.cells #[.pointer (some ⟨t, 0, none⟩)] 114)).alloc (.cells #[.pointer (some ⟨3, 114, none⟩), .pointer (some ⟨w.heap.size, 0, none⟩), .int .u64 150] 127)).cell? ⟨1, 0, none⟩ = some (.iface 141 (.agg #[.pointer (some ⟨3, 32, none⟩)])) := by
    rw [World.cell?_alloc_lt _ _ ⟨1, 0, none⟩ (by simp <;> omega), World.cell?_alloc_lt _ _ ⟨1, 0, none⟩ hlt]; exact hg
  have htl : t < w.heap.size := by
    rcases Nat.lt_or_ge t w.heap.size with h | h
    · exact h
    · simp [World.cell?, Array.getElem?_eq_none h] at ht0
  have el := er_elemVCode ⟨w.heap.size, 0, none⟩ ⟨t, 0, none⟩ ((((w.alloc (.cells #[.pointer (some ⟨t, 0, none⟩)] 114)).alloc (.cells #[.pointer (some ⟨3, 114, none⟩), .pointer (some ⟨w.heap.size, 0, none⟩), .int .u64 150] 127)).alloc (.cells #[.pointer (some ⟨3, 114, none⟩), .pointer (some ⟨w.heap.size, 0, none⟩), .int .u64 150] 127)).alloc (.cells #[.int .i64 c, .int .i64 n] 110)) (by rw [World.cell?_alloc_lt _ _ ⟨w.heap.size, 0, none⟩ (by simp; omega), World.cell?_alloc_lt _ _ ⟨w.heap.size, 0, none⟩ (by simp; omega)]; simp)
  have st := er_setCode ⟨t, 0, none⟩ ⟨w.heap.size + 1 + 1 + 1 + 1, 0, none⟩ c old (((((w.alloc (.cells #[.pointer (some ⟨t, 0, none⟩)] 114)).alloc (.cells #[.pointer (some ⟨3, 114, none⟩), .pointer (some ⟨w.heap.size, 0, none⟩), .int .u64 150] 127)).alloc (.cells #[.pointer (some ⟨3, 114, none⟩), .pointer (some ⟨w.heap.size, 0, none⟩), .int .u64 150] 127)).alloc (.cells #[.int .i64 c, .int .i64 n] 110)).alloc (.cells #[.int .i64 c] 85))
    (by rw [World.cell?_alloc_at _ _ _ _ (by simp)]; rfl)
    (by rw [World.cell?_alloc_lt _ _ ⟨t, 0, none⟩ (by simp; omega), World.cell?_alloc_lt _ _ ⟨t, 0, none⟩ (by simp; omega), World.cell?_alloc_lt _ _ ⟨t, 0, none⟩ (by simp; omega), World.cell?_alloc_lt _ _ ⟨t, 0, none⟩ (by simp; omega), World.cell?_alloc_lt _ _ ⟨t, 0, none⟩ htl]; exact ht0)
    (by rw [World.frozen?_alloc_old _ _ ⟨t, 0, none⟩ (by simp; omega), World.frozen?_alloc_old _ _ ⟨t, 0, none⟩ (by simp; omega), World.frozen?_alloc_old _ _ ⟨t, 0, none⟩ (by simp; omega), World.frozen?_alloc_old _ _ ⟨t, 0, none⟩ (by simp; omega), World.frozen?_alloc_old _ _ ⟨t, 0, none⟩ (Nat.ne_of_lt htl)]; exact hf0)
  go_enter Tryd.func70, Tryd.ntmps70
  go_wp2
  refine wp_loop_rounds 2 ?_
  rw [rounds_succ]
  go_wp2
  rw [rounds_succ]
  go_wp2
  go_ret
  exact ⟨rfl, rfl⟩
set_option maxHeartbeats 8000000 in
theorem er_asAt (c n : Int) (t : Nat) (o1 o2 : Value) (w : World) (hg : w.cell? ⟨1, 0, none⟩ = some (.iface 141 (.agg #[.pointer (some ⟨3, 32, none⟩)]))) (e : TypeId) (hrow : w.heap[t]? = some (.cells #[o1, o2] e (0, 0))) :
    Calls Tryd.prog 70 #[.iface 110 (.agg #[.int .i64 c, .int .i64 n]), .iface 115 (.pointer (some ⟨t, 0, none⟩))] w fun ev w' => ev = .returned (.bool true) ∧ w' = ((((w.alloc (.cells #[.pointer (some ⟨t, 0, none⟩)] 115)).alloc (.cells #[.pointer (some ⟨3, 115, none⟩), .pointer (some ⟨w.heap.size, 0, none⟩), .int .u64 150] 127)).alloc (.cells #[.pointer (some ⟨3, 115, none⟩), .pointer (some ⟨w.heap.size, 0, none⟩), .int .u64 150] 127)).alloc (.cells #[.int .i64 c, .int .i64 n] 110)).setRow t #[.int .i64 c, .int .i64 n] := by
  have h6 := @run_callFunc_extern Tryd.prog 79 _ (fun args => ReflectliteValue.unpack (args.getD 0 (.tuple #[]))) Tryd.func79 (by kernel_rfl) (by kernel_rfl) (by kernel_rfl) (by kernel_rfl)
  have h7 := @run_callFunc_extern Tryd.prog 80 _ (ReflectliteValue.methodAny (ReflectliteValue.valueError "reflectlite.Value.Type" 0) (fun t _ _ _ => ReflectliteType.toType t)) Tryd.func80 (by kernel_rfl) (by kernel_rfl) (by kernel_rfl) (by kernel_rfl)
  have h8 := @run_callFunc_extern Tryd.prog 81 _ (ReflectliteValue.method (ReflectliteValue.valueError "reflectlite.Value.IsNil" 0) ReflectliteValue.isNil) Tryd.func81 (by kernel_rfl) (by kernel_rfl) (by kernel_rfl) (by kernel_rfl)
  have h27 := @run_callFunc_extern Tryd.prog 106 _ (ReflectliteType.abiMethod fun t => do pure (.int .u8 (← Rtype.kind t))) Tryd.func106 (by kernel_rfl) (by kernel_rfl) (by kernel_rfl) (by kernel_rfl)
  have h37 := @run_callFunc_extern Tryd.prog 118 _ (ReflectliteType.method ReflectliteType.elem) Tryd.func118 (by kernel_rfl) (by kernel_rfl) (by kernel_rfl) (by kernel_rfl)
  have h38 := @run_callFunc_extern Tryd.prog 119 _ (ReflectliteType.relation "Implements" ReflectliteType.implements_) Tryd.func119 (by kernel_rfl) (by kernel_rfl) (by kernel_rfl) (by kernel_rfl)
  have h10 := @run_callFunc_extern Tryd.prog 88 _ ReflectliteType.typeOf Tryd.func88 (by kernel_rfl) (by kernel_rfl) (by kernel_rfl) (by kernel_rfl)
  have h35 := @run_callFunc_extern Tryd.prog 116 _ (ReflectliteType.relation "AssignableTo" ReflectliteType.assignableTo) Tryd.func116 (by kernel_rfl) (by kernel_rfl) (by kernel_rfl) (by kernel_rfl)
  have h11 := @run_callFunc_extern Tryd.prog 89 _ (ReflectliteValue.method (ReflectliteValue.valueError "reflectlite.Value.Elem" 0) ReflectliteValue.elem) Tryd.func89 (by kernel_rfl) (by kernel_rfl) (by kernel_rfl) (by kernel_rfl)
  have h12 := @run_callFunc_extern Tryd.prog 90 _ ReflectliteValue.set Tryd.func90 (by kernel_rfl) (by kernel_rfl) (by kernel_rfl) (by kernel_rfl)
  have tO := er_typeOfCode
  have tF := er_typeOfFault
  have mA := er_methodAssignableTo
  have aC := er_asgnCode
  have aF := er_asgnFault
  have aN := er_asgnNo
  have vC := er_valueOfCode
  have vF := er_valueOfFault
  have f6 := er_valueOfPFault
  have f7 := er_typeFault
  have mK := er_methodKind
  have mE := er_methodElem
  have mI := er_methodImplements
  have k27 := er_kindPFault
  have k25 := er_kindFault
  have e27 := er_elemFault
  have i25 := er_implFault
  have mU := er_methodUnwrap
  have nA := er_noAs
  have hU := er_hasUn
  have hlt : 1 < w.heap.size := by
    rcases Nat.lt_or_ge 1 w.heap.size with h | h
    · exact h
    · simp [World.cell?, Array.getElem?_eq_none h] at hg
  have n8 := er_isNilFault ⟨w.heap.size, 0, none⟩ ⟨t, 0, none⟩ ((w.alloc (.cells #[.pointer (some ⟨t, 0, none⟩)] 115)).alloc (.cells #[.pointer (some ⟨3, 115, none⟩), .pointer (some ⟨w.heap.size, 0, none⟩), .int .u64 150] 127)) (by simp)
  have hg2 : ((w.alloc (.cells #[.pointer (some ⟨t, 0, none⟩)] 115)).alloc (.cells #[.pointer (some ⟨3, 115, none⟩), .pointer (some ⟨w.heap.size, 0, none⟩), .int .u64 150] 127)).cell? ⟨1, 0, none⟩ = some (.iface 141 (.agg #[.pointer (some ⟨3, 32, none⟩)])) := by
    rw [World.cell?_alloc_lt _ _ ⟨1, 0, none⟩ (by simp <;> omega), World.cell?_alloc_lt _ _ ⟨1, 0, none⟩ hlt]; exact hg
  have htl : t < w.heap.size := by
    rcases Nat.lt_or_ge t w.heap.size with h | h
    · exact h
    · rw [Array.getElem?_eq_none h] at hrow; cases hrow
  have el := er_elemVFault ⟨w.heap.size, 0, none⟩ ⟨t, 0, none⟩ (((w.alloc (.cells #[.pointer (some ⟨t, 0, none⟩)] 115)).alloc (.cells #[.pointer (some ⟨3, 115, none⟩), .pointer (some ⟨w.heap.size, 0, none⟩), .int .u64 150] 127)).alloc (.cells #[.pointer (some ⟨3, 115, none⟩), .pointer (some ⟨w.heap.size, 0, none⟩), .int .u64 150] 127)) (by rw [World.cell?_alloc_lt _ _ ⟨w.heap.size, 0, none⟩ (by simp; omega)]; simp)
  have st := er_setFault t (w.heap.size + 1 + 1 + 1) c n o1 o2 e ((((w.alloc (.cells #[.pointer (some ⟨t, 0, none⟩)] 115)).alloc (.cells #[.pointer (some ⟨3, 115, none⟩), .pointer (some ⟨w.heap.size, 0, none⟩), .int .u64 150] 127)).alloc (.cells #[.pointer (some ⟨3, 115, none⟩), .pointer (some ⟨w.heap.size, 0, none⟩), .int .u64 150] 127)).alloc (.cells #[.int .i64 c, .int .i64 n] 110))
    (by rw [World.cell?_alloc_at _ _ _ _ (by simp)]; rfl)
    (by rw [World.cell?_alloc_at _ _ _ _ (by simp)]; rfl)
    (by simp only [World.alloc, Array.getElem?_push, Array.size_push]; rw [if_neg (by omega), if_neg (by omega), if_neg (by omega), if_neg (by omega)]; exact hrow)
  go_enter Tryd.func70, Tryd.ntmps70
  go_wp2
  refine wp_loop_rounds 1 ?_
  rw [rounds_succ]
  go_wp2
  go_ret
  exact ⟨rfl, rfl⟩

theorem er_hg {w : World} (o : Obj) (hg : w.cell? ⟨1, 0, none⟩ = some (.iface 141 (.agg #[.pointer (some ⟨3, 32, none⟩)]))) : (w.alloc o).cell? ⟨1, 0, none⟩ = some (.iface 141 (.agg #[.pointer (some ⟨3, 32, none⟩)])) := by
  have hlt : 1 < w.heap.size := by
    rcases Nat.lt_or_ge 1 w.heap.size with h | h
    · exact h
    · simp [World.cell?, Array.getElem?_eq_none h] at hg
  rw [World.cell?_alloc_lt _ _ ⟨1, 0, none⟩ hlt]; exact hg
theorem er_setRow {B : Nat} {a w : World} (h : Below B a w) {b : Nat} (hb : B ≤ b) (c : Array Value) : Below B a (w.setRow b c) := by
  refine h.trans ⟨rfl, rfl, rfl, by simp [World.setRow], fun k hk => ?_⟩
  simp only [World.setRow, Array.getElem?_modify]
  rw [if_neg (by omega)]
set_option maxHeartbeats 4000000 in
theorem er_codeFault (c n : Int) (w : World) (hg : w.cell? ⟨1, 0, none⟩ = some (.iface 141 (.agg #[.pointer (some ⟨3, 32, none⟩)]))) : Calls Tryd.prog 55 #[.iface 110 (.agg #[.int .i64 c, .int .i64 n])] w fun e w' => e = .returned (.tuple #[.int .i64 c, .bool true]) ∧ Below w.heap.size w w' := by
  have hA := er_asCode c n w.heap.size (.int .i64 0) (w.alloc (.cells #[.int .i64 0] 85)) (er_hg _ hg) (by simp) (by simp)
  go_enter Tryd.func55, Tryd.ntmps55
  go_wp2_with (first | (go_at_call 70; refine hA.mono ?_; rintro e w' ⟨rfl, rfl⟩))
  go_ret2
  refine ⟨rfl, ?_⟩
  refine Below.alloc ?_ (by simp <;> omega) _
  refine Below.alloc ?_ (by simp <;> omega) _
  refine Below.alloc ?_ (by simp <;> omega) _
  refine Below.alloc ?_ (by simp <;> omega) _
  refine Below.alloc ?_ (by simp <;> omega) _
  refine Below.alloc ?_ (by simp <;> omega) _
  exact Below.refl _ _
set_option maxHeartbeats 4000000 in
theorem er_atFault (c n : Int) (w : World) (hg : w.cell? ⟨1, 0, none⟩ = some (.iface 141 (.agg #[.pointer (some ⟨3, 32, none⟩)]))) : Calls Tryd.prog 56 #[.iface 110 (.agg #[.int .i64 c, .int .i64 n])] w fun e w' => e = .returned (.tuple #[.int .i64 n, .bool true]) ∧ Below w.heap.size w w' := by
  have hA := er_asAt c n w.heap.size (.int .i64 0) (.int .i64 0) (w.alloc (.cells #[.int .i64 0, .int .i64 0] 110)) (er_hg _ hg) 110 (by simp only [World.alloc]; exact Array.getElem?_push_size)
  have hcell : ∀ (W : World) (c n : Value) (o1 o2 o3 o4 : Obj), (((((((W.alloc (.cells #[.int .i64 0, .int .i64 0] 110)).alloc o1).alloc o2).alloc o3).alloc o4).setRow W.heap.size #[c, n])).cell? ⟨W.heap.size, 1, none⟩ = some n := by
    intro W c n o1 o2 o3 o4
    simp only [World.cell?, World.setRow, World.alloc, Array.getElem?_modify, Array.getElem?_push, Array.size_push]
    rw [if_neg (show ¬ W.heap.size = W.heap.size + 1 + 1 + 1 + 1 by omega), if_neg (show ¬ W.heap.size = W.heap.size + 1 + 1 + 1 by omega), if_neg (show ¬ W.heap.size = W.heap.size + 1 + 1 by omega), if_neg (show ¬ W.heap.size = W.heap.size + 1 by omega)]
    simp
  go_enter Tryd.func56, Tryd.ntmps56
  go_wp2_with (first | (go_at_call 70; refine hA.mono ?_; rintro e w' ⟨rfl, rfl⟩))
  go_ret2
  refine ⟨rfl, ?_⟩
  refine er_setRow ?_ (Nat.le_refl _) _
  refine Below.alloc ?_ (by simp <;> omega) _
  refine Below.alloc ?_ (by simp <;> omega) _
  refine Below.alloc ?_ (by simp <;> omega) _
  refine Below.alloc ?_ (by simp <;> omega) _
  refine Below.alloc ?_ (by simp <;> omega) _
  exact Below.refl _ _

theorem er_rep {lim : Lim} {h : Array Obj} {v : Value} {t : TypeId} {c n : Int} (r : Rep lim h v (.iface t (.agg [.int .i64 c, .int .i64 n]))) : v = .iface t (.agg #[.int .i64 c, .int .i64 n]) := by
  cases r with
  | iface t u x hx =>
    obtain ⟨cs, rfl, hr⟩ := Rep.agg_iff.1 hx
    obtain ⟨l⟩ := cs
    match l, hr with
    | [], hr => exact absurd hr.1 (by simp)
    | [a], hr => exact absurd hr.1 (by simp)
    | [a, b], hr => rw [rep_int hr.head, rep_int hr.tail.head]
    | a :: b :: d :: r, hr => exact absurd hr.1 (by simp)
theorem er_cell {lim : Lim} {w : World} {i t b o : Nat} (r : GlAt lim w.heap i [.iface t (.agg [.gp b o])]) : w.cell? ⟨i, 0, none⟩ = some (.iface t (.agg #[.pointer (some ⟨b, o, none⟩)])) := by
  obtain ⟨b', off, vs, he, hv, hc⟩ := Rep.ro_iff.1 r.1
  injection he with he; injection he with he; injection he with h1 h2
  subst h1; subst h2
  obtain ⟨u, hu, hr⟩ := hv.get (j := 0) rfl
  have h0 := (hc 0 u hu).2
  rw [cell?_eq]
  rw [h0]
  cases hr with
  | iface t u x hx =>
    obtain ⟨cs, rfl, hr⟩ := Rep.agg_iff.1 hx
    obtain ⟨l⟩ := cs
    match l, hr with
    | [], hr => exact absurd hr.1 (by simp)
    | [a], hr => rw [rep_gp hr.head]
    | a :: b :: r, hr => exact absurd hr.1 (by simp)
def errTy : List AV := [.iface 141 (.agg [.gp 3 32])]
theorem er_rt {lim : Lim} {h : Array Obj} (n : Int) (b : Bool) : Rep lim h (.tuple #[.int .i64 n, .bool b]) (.tup [.int .i64 n, .bool b]) :=
  Rep.tup_iff.2 ⟨_, rfl, .cons (.int _ _) (.cons (.bool _) (RepL.nil _ _))⟩
theorem er_one {vs : List Value} {lim : Lim} {h : Array Obj} {x : AV} (r : RepL lim h vs [x]) : ∃ v, vs = [v] ∧ Rep lim h v x := by
  match vs, r with
  | [], r => exact absurd r.1 (by simp)
  | [a], r => exact ⟨a, rfl, r.head⟩
  | a :: b :: q, r => exact absurd r.1 (by simp)
theorem fault_Code_f (hty : g 1 = some errTy) (c n : Int) : Valid Tryd.prog (G0 g rnd) 55 [.iface 110 (.agg [.int .i64 c, .int .i64 n])] (.tup [.int .i64 c, .bool true]) :=
  valid_callsG (by kernel_rfl) fun lim w cargs hgl hargs => by
    obtain ⟨v, rfl, hv⟩ := er_one hargs
    rw [er_rep hv]
    exact (er_codeFault c n w (er_cell (hgl _ _ hty))).mono fun e w' he => ⟨_, he.1, he.2, fun _ _ => er_rt _ _⟩
theorem fault_At_f (hty : g 1 = some errTy) (c n : Int) : Valid Tryd.prog (G0 g rnd) 56 [.iface 110 (.agg [.int .i64 c, .int .i64 n])] (.tup [.int .i64 n, .bool true]) :=
  valid_callsG (by kernel_rfl) fun lim w cargs hgl hargs => by
    obtain ⟨v, rfl, hv⟩ := er_one hargs
    rw [er_rep hv]
    exact (er_atFault c n w (er_cell (hgl _ _ hty))).mono fun e w' he => ⟨_, he.1, he.2, fun _ _ => er_rt _ _⟩
end Go.Proofs.YtpjkdaechknogaaDoor
end

section
/- Contracts. -/
set_option linter.all false
set_option maxHeartbeats 1000000
set_option maxRecDepth 10000
namespace Go.Proofs.YtpjkdaechknogaaDoor
open Go Go.Pv
variable (g : Nat → Option (List AV)) (rnd : Bool)

end Go.Proofs.YtpjkdaechknogaaDoor
end
