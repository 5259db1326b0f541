import Derived.Test.YtpjkdaechknogaaGreatDoorPt
import Derived.Test.YtpjkdaechknogaaGreatDoorPvPa
import Derived.Test.YtpjkdaechknogaaGreatDoorPvX
import Derived.LaidEql
import Derived.Stop.Asserts
import Derived.RowKitTokens
import Derived.WalkKit
import Derived.Test.YtpjkdaechknogaaGreatDoorXExA
import Derived.Test.YtpjkdaechknogaaGreatDoorXShelf
import Derived.Test.YtpjkdaechknogaaGreatDoorXNaB
section
/- errors.As at the targets that the package fault has, and what fault.Code and fault.At hand back. -/
set_option linter.all false
set_option maxHeartbeats 1000000
set_option maxRecDepth 10000
namespace Go.Proofs.YtpjkdaechknogaaGreatDoor
open Go Go.Pv
variable (g : Nat → Option (List AV)) (rnd : Bool)

open Go.RowKit Go.Extern.Stop Go.Stop Go.Extern
theorem er_rlm (z : Sem Value) (f : TypeId → Addr → Nat → Nat → Sem Value) (v : Value) :
    ReflectliteValue.method z f #[v] = (do match ← ReflectliteValue.parts v with | none => z | some (t, a, fl) => f t a fl (fl % 32)) := rfl
theorem er_rls (v x : Value) : ReflectliteValue.set #[v, x] = (do
    let (some (dst, a, fl), some (src, b, _)) := (← ReflectliteValue.parts v, ← ReflectliteValue.parts x)
      | unsupported (.noEntry "extern/(internal/reflectlite.Value).Set.zeroValue")
    if fl / ReflectliteValue.flagAddr % 2 == 0 then unsupported (.noEntry "extern/(internal/reflectlite.Value).Set.unaddressable")
    let val ← loadVar src b
    if ← Rtype.directlyAssignable dst src then storeVar dst a val
    else if ← Rtype.implements dst src then
      if (← Rtype.kind src) == 20 then
        match val with
        | .nilIface => unsupported (.noEntry "extern/reflectlite: a nil value of one interface type handed on as a value of another")
        | _ => storeVar dst a val
      else storeVar dst a (.iface src val)
    else panicString ("reflectlite.Set: value of type " ++ (← Rtype.spelt src) ++ " is not assignable to type " ++ (← Rtype.spelt dst))
    pure (.tuple #[])) := rfl
theorem er_valueOfPCode (t : Addr) (w : World) : (ReflectliteValue.unpack (.iface 106 (.pointer (some t)))).run Tryz.prog w = .ok (.agg #[.pointer (some ⟨3, 106, none⟩), .pointer (some ⟨w.heap.size, 0, none⟩), .int .u64 150]) (w.alloc (.cells #[.pointer (some t)] 106)) := by kernel_rfl
theorem er_typeCode (a : Addr) (w : World) : (ReflectliteValue.methodAny (ReflectliteValue.valueError "reflectlite.Value.Type" 0) (fun t _ _ _ => ReflectliteType.toType t) #[.agg #[.pointer (some ⟨3, 106, none⟩), .pointer (some a), .int .u64 150]]).run Tryz.prog w = .ok (.iface 151 (.agg #[.pointer (some ⟨3, 106, none⟩)])) w := by kernel_rfl
theorem er_kindPCode (w : World) : ((ReflectliteType.abiMethod fun t => (fun a : Nat => Value.int IntKind.u8 (a : Int)) <$> Rtype.kind t) #[.pointer (some ⟨3, 106, none⟩)]).run Tryz.prog w = .ok (.int .u8 22) w := by kernel_rfl
theorem er_kindCode (w : World) : ((ReflectliteType.abiMethod fun t => (fun a : Nat => Value.int IntKind.u8 (a : Int)) <$> Rtype.kind t) #[.pointer (some ⟨3, 62, none⟩)]).run Tryz.prog w = .ok (.int .u8 2) w := by kernel_rfl
theorem er_partsCode (a : Addr) (w : World) : (ReflectliteValue.parts (.agg #[.pointer (some ⟨3, 106, none⟩), .pointer (some a), .int .u64 150])).run Tryz.prog w = .ok (some (106, a, 150)) w := by kernel_rfl
theorem er_isNilCode (a p : Addr) (W : World) (ha : W.cell? a = some (.pointer (some p))) :
    (ReflectliteValue.method (ReflectliteValue.valueError "reflectlite.Value.IsNil" 0) ReflectliteValue.isNil #[.agg #[.pointer (some ⟨3, 106, none⟩), .pointer (some a), .int .u64 150]]).run Tryz.prog W = .ok (.bool false) W := by
  rw [er_rlm]
  simp only [Sem.run_bind, er_partsCode, Result.andThen]
  simp [ReflectliteValue.isNil, loadVar, isAgg, underlying, Tryz.underlying106, ha, Result.andThen]
theorem er_elemCode (w : World) : (ReflectliteType.method ReflectliteType.elem #[.agg #[.pointer (some ⟨3, 106, none⟩)]]).run Tryz.prog w = .ok (.iface 151 (.agg #[.pointer (some ⟨3, 62, none⟩)])) w := by kernel_rfl
theorem er_implCode (w : World) : (ReflectliteType.relation "Implements" ReflectliteType.implements_ #[.agg #[.pointer (some ⟨3, 62, none⟩)], .iface 151 (.agg #[.pointer (some ⟨3, 30, none⟩)])]).run Tryz.prog w = .ok (.bool true) w := by kernel_rfl
theorem er_elemOfCode (w : World) : (Rtype.elem? 106).run Tryz.prog w = .ok (some 62) w := by kernel_rfl
theorem er_mkCode (p : Addr) (w : World) : (ReflectliteValue.mk 62 p ReflectliteValue.flagAddr).run Tryz.prog w = .ok (.agg #[.pointer (some ⟨3, 62, none⟩), .pointer (some p), .int .u64 386]) w := by kernel_rfl
theorem er_elemVCode (a p : Addr) (W : World) (ha : W.cell? a = some (.pointer (some p))) :
    (ReflectliteValue.method (ReflectliteValue.valueError "reflectlite.Value.Elem" 0) ReflectliteValue.elem #[.agg #[.pointer (some ⟨3, 106, none⟩), .pointer (some a), .int .u64 150]]).run Tryz.prog W
      = .ok (.agg #[.pointer (some ⟨3, 62, none⟩), .pointer (some p), .int .u64 386]) W := by
  rw [er_rlm]
  simp only [Sem.run_bind, er_partsCode, Result.andThen]
  simp [ReflectliteValue.elem, loadVar, isAgg, underlying, Tryz.underlying106, ha, Result.andThen, er_elemOfCode, er_mkCode]
theorem er_typeOfCode (v : Value) (w : World) : (ReflectliteType.typeOf #[.iface 62 v]).run Tryz.prog w = .ok (.iface 151 (.agg #[.pointer (some ⟨3, 62, none⟩)])) w := by kernel_rfl
theorem er_asgnCode (w : World) : (ReflectliteType.relation "AssignableTo" ReflectliteType.assignableTo #[.agg #[.pointer (some ⟨3, 62, none⟩)], .iface 151 (.agg #[.pointer (some ⟨3, 62, none⟩)])]).run Tryz.prog w = .ok (.bool true) w := by kernel_rfl
theorem er_partsACode (a : Addr) (w : World) : (ReflectliteValue.parts (.agg #[.pointer (some ⟨3, 62, none⟩), .pointer (some a), .int .u64 386])).run Tryz.prog w = .ok (some (62, a, 386)) w := by kernel_rfl
theorem er_partsBCode (a : Addr) (w : World) : (ReflectliteValue.parts (.agg #[.pointer (some ⟨3, 62, none⟩), .pointer (some a), .int .u64 130])).run Tryz.prog w = .ok (some (62, a, 130)) w := by kernel_rfl
theorem er_directCode (w : World) : (Rtype.directlyAssignable 62 62).run Tryz.prog w = .ok true w := by kernel_rfl
theorem er_valueOfPFault (t : Addr) (w : World) : (ReflectliteValue.unpack (.iface 109 (.pointer (some t)))).run Tryz.prog w = .ok (.agg #[.pointer (some ⟨3, 109, none⟩), .pointer (some ⟨w.heap.size, 0, none⟩), .int .u64 150]) (w.alloc (.cells #[.pointer (some t)] 109)) := by kernel_rfl
theorem er_typeFault (a : Addr) (w : World) : (ReflectliteValue.methodAny (ReflectliteValue.valueError "reflectlite.Value.Type" 0) (fun t _ _ _ => ReflectliteType.toType t) #[.agg #[.pointer (some ⟨3, 109, none⟩), .pointer (some a), .int .u64 150]]).run Tryz.prog w = .ok (.iface 151 (.agg #[.pointer (some ⟨3, 109, none⟩)])) w := by kernel_rfl
theorem er_kindPFault (w : World) : ((ReflectliteType.abiMethod fun t => (fun a : Nat => Value.int IntKind.u8 (a : Int)) <$> Rtype.kind t) #[.pointer (some ⟨3, 109, none⟩)]).run Tryz.prog w = .ok (.int .u8 22) w := by kernel_rfl
theorem er_kindFault (w : World) : ((ReflectliteType.abiMethod fun t => (fun a : Nat => Value.int IntKind.u8 (a : Int)) <$> Rtype.kind t) #[.pointer (some ⟨3, 108, none⟩)]).run Tryz.prog w = .ok (.int .u8 25) w := by kernel_rfl
theorem er_partsFault (a : Addr) (w : World) : (ReflectliteValue.parts (.agg #[.pointer (some ⟨3, 109, none⟩), .pointer (some a), .int .u64 150])).run Tryz.prog w = .ok (some (109, a, 150)) w := by kernel_rfl
theorem er_isNilFault (a p : Addr) (W : World) (ha : W.cell? a = some (.pointer (some p))) :
    (ReflectliteValue.method (ReflectliteValue.valueError "reflectlite.Value.IsNil" 0) ReflectliteValue.isNil #[.agg #[.pointer (some ⟨3, 109, none⟩), .pointer (some a), .int .u64 150]]).run Tryz.prog W = .ok (.bool false) W := by
  rw [er_rlm]
  simp only [Sem.run_bind, er_partsFault, Result.andThen]
  simp [ReflectliteValue.isNil, loadVar, isAgg, underlying, Tryz.underlying109, ha, Result.andThen]
theorem er_elemFault (w : World) : (ReflectliteType.method ReflectliteType.elem #[.agg #[.pointer (some ⟨3, 109, none⟩)]]).run Tryz.prog w = .ok (.iface 151 (.agg #[.pointer (some ⟨3, 108, none⟩)])) w := by kernel_rfl
theorem er_implFault (w : World) : (ReflectliteType.relation "Implements" ReflectliteType.implements_ #[.agg #[.pointer (some ⟨3, 108, none⟩)], .iface 151 (.agg #[.pointer (some ⟨3, 30, none⟩)])]).run Tryz.prog w = .ok (.bool true) w := by kernel_rfl
theorem er_elemOfFault (w : World) : (Rtype.elem? 109).run Tryz.prog w = .ok (some 108) w := by kernel_rfl
theorem er_mkFault (p : Addr) (w : World) : (ReflectliteValue.mk 108 p ReflectliteValue.flagAddr).run Tryz.prog w = .ok (.agg #[.pointer (some ⟨3, 108, none⟩), .pointer (some p), .int .u64 409]) w := by kernel_rfl
theorem er_elemVFault (a p : Addr) (W : World) (ha : W.cell? a = some (.pointer (some p))) :
    (ReflectliteValue.method (ReflectliteValue.valueError "reflectlite.Value.Elem" 0) ReflectliteValue.elem #[.agg #[.pointer (some ⟨3, 109, none⟩), .pointer (some a), .int .u64 150]]).run Tryz.prog W
      = .ok (.agg #[.pointer (some ⟨3, 108, none⟩), .pointer (some p), .int .u64 409]) W := by
  rw [er_rlm]
  simp only [Sem.run_bind, er_partsFault, Result.andThen]
  simp [ReflectliteValue.elem, loadVar, isAgg, underlying, Tryz.underlying109, ha, Result.andThen, er_elemOfFault, er_mkFault]
theorem er_typeOfFault (v : Value) (w : World) : (ReflectliteType.typeOf #[.iface 108 v]).run Tryz.prog w = .ok (.iface 151 (.agg #[.pointer (some ⟨3, 108, none⟩)])) w := by kernel_rfl
theorem er_asgnFault (w : World) : (ReflectliteType.relation "AssignableTo" ReflectliteType.assignableTo #[.agg #[.pointer (some ⟨3, 108, none⟩)], .iface 151 (.agg #[.pointer (some ⟨3, 108, none⟩)])]).run Tryz.prog w = .ok (.bool true) w := by kernel_rfl
theorem er_partsAFault (a : Addr) (w : World) : (ReflectliteValue.parts (.agg #[.pointer (some ⟨3, 108, none⟩), .pointer (some a), .int .u64 409])).run Tryz.prog w = .ok (some (108, a, 409)) w := by kernel_rfl
theorem er_partsBFault (a : Addr) (w : World) : (ReflectliteValue.parts (.agg #[.pointer (some ⟨3, 108, none⟩), .pointer (some a), .int .u64 153])).run Tryz.prog w = .ok (some (108, a, 153)) w := by kernel_rfl
theorem er_directFault (w : World) : (Rtype.directlyAssignable 108 108).run Tryz.prog w = .ok true w := by kernel_rfl
theorem er_valueOfCode (c : Int) (w : World) : (ReflectliteValue.unpack (.iface 62 (.int .i64 c))).run Tryz.prog w = .ok (.agg #[.pointer (some ⟨3, 62, none⟩), .pointer (some ⟨w.heap.size, 0, none⟩), .int .u64 130]) (w.alloc (.cells #[.int .i64 c] 62)) := by kernel_rfl
theorem er_valueOfFault (c n : Int) (w : World) : (ReflectliteValue.unpack (.iface 108 (.agg #[.int .i64 c, .int .i64 n]))).run Tryz.prog w = .ok (.agg #[.pointer (some ⟨3, 108, none⟩), .pointer (some ⟨w.heap.size, 0, none⟩), .int .u64 153]) (w.alloc (.cells #[.int .i64 c, .int .i64 n] 108)) := by kernel_rfl
theorem er_asgnNo (w : World) : (ReflectliteType.relation "AssignableTo" ReflectliteType.assignableTo #[.agg #[.pointer (some ⟨3, 108, none⟩)], .iface 151 (.agg #[.pointer (some ⟨3, 62, none⟩)])]).run Tryz.prog w = .ok (.bool false) w := by kernel_rfl
theorem er_methodElem (h : Value) (w : World) : (Go.method 301 151 (.agg #[h]) "Elem").run Tryz.prog w = .ok (130, .agg #[h]) w := by kernel_rfl
theorem er_methodImplements (h : Value) (w : World) : (Go.method 301 151 (.agg #[h]) "Implements").run Tryz.prog w = .ok (131, .agg #[h]) w := by kernel_rfl
theorem er_methodAssignableTo (h : Value) (w : World) : (Go.method 301 151 (.agg #[h]) "AssignableTo").run Tryz.prog w = .ok (128, .agg #[h]) w := by kernel_rfl
theorem er_methodKind (h : Value) (w : World) : (Go.method 301 151 (.agg #[h]) "Kind").run Tryz.prog w = .ok (118, h) w := by kernel_rfl
theorem er_methodUnwrap (a : Value) (w : World) : (Go.method 301 108 a "Unwrap").run Tryz.prog w = .ok (123, a) w := by kernel_rfl
theorem er_noAs (v : Value) (xT : TypeId) (w : World) : (Instr.typeAssert (.iface 108 v) xT 156 true).run Tryz.prog w = .ok (.tuple #[.nilIface, .bool false]) w := run_typeAssert_lacksB Tryz.underlying156 (by kernel_rfl) (by kernel_rfl) v xT w
theorem er_hasUn (v : Value) (xT : TypeId) (w : World) : (Instr.typeAssert (.iface 108 v) xT 159 true).run Tryz.prog w = .ok (.tuple #[.iface 108 v, .bool true]) w := run_typeAssert_hasB Tryz.underlying159 (by kernel_rfl) v xT w
theorem er_size64 (w : World) : (sizeOf 108).run Tryz.prog w = .ok 2 w := by kernel_rfl
theorem er_setCode (ta b : Addr) (c : Int) (old : Value) (W : World) (hb : W.cell? b = some (.int .i64 c)) (ht : W.cell? ta = some old) (hf : W.frozen? ta = false) :
    (ReflectliteValue.set #[.agg #[.pointer (some ⟨3, 62, none⟩), .pointer (some ta), .int .u64 386], .agg #[.pointer (some ⟨3, 62, none⟩), .pointer (some b), .int .u64 130]]).run Tryz.prog W
      = .ok (.tuple #[]) (W.setCell ta (.int .i64 c)) := by
  rw [er_rls]
  simp only [Sem.run_bind, er_partsACode, er_partsBCode, Result.andThen]
  simp [ReflectliteValue.flagAddr, loadVar, isAgg, underlying, Tryz.underlying62, hb, Result.andThen, er_directCode, storeVar, Value.cells, storeCells, Addr.add]
  rw [run_store Tryz.prog W ta _ _ (by rfl)]
  simp [ht, hf]
theorem er_setFault (ta b : Nat) (c n : Int) (o1 o2 : Value) (e : TypeId) (W : World) (hb1 : W.cell? ⟨b, 0, none⟩ = some (.int .i64 c)) (hb2 : W.cell? ⟨b, 1, none⟩ = some (.int .i64 n)) (hrow : W.heap[ta]? = some (.cells #[o1, o2] e (0, 0))) :
    (ReflectliteValue.set #[.agg #[.pointer (some ⟨3, 108, none⟩), .pointer (some ⟨ta, 0, none⟩), .int .u64 409], .agg #[.pointer (some ⟨3, 108, none⟩), .pointer (some ⟨b, 0, none⟩), .int .u64 153]]).run Tryz.prog W
      = .ok (.tuple #[]) (W.setRow ta #[.int .i64 c, .int .i64 n]) := by
  have hl : (loadVar 108 ⟨b, 0, none⟩).run Tryz.prog W = .ok (.agg #[.int .i64 c, .int .i64 n]) W := by
    have h := run_loadCells_list (P := Tryz.prog) W ⟨b, 0, none⟩ [.int .i64 c, .int .i64 n] (fun j v hj => by
      match j, hj with
      | 0, hj => injection hj with hj; subst hj; exact hb1
      | 1, hj => injection hj with hj; subst hj; exact hb2)
    unfold loadVar
    simp [isAgg, underlying, Tryz.underlying108, Result.andThen, er_size64]
    simp at h
    rw [h]
  have hs := run_storeVar (P := Tryz.prog) (w := W) (t := 108) (b := ta) (off := 0) (v := .agg #[.int .i64 c, .int .i64 n]) hrow (by kernel_rfl) (by kernel_rfl) (by simp [Value.cells]) (by simp [Value.cells, Value.oneCell'])
  rw [er_rls]
  simp only [Sem.run_bind, er_partsAFault, er_partsBFault, Result.andThen_ok, hl]
  simp only [ReflectliteValue.flagAddr, show ((409 / 256 % 2 == 0) = false) by decide, Bool.false_eq_true, if_false, Sem.run_bind, Sem.run_pure, Result.andThen_ok, hl, er_directFault, if_true, hs]
  simp [Value.cells]
set_option maxHeartbeats 8000000 in
theorem er_asCode (c n : Int) (t : Nat) (old : Value) (w : World) (hg : w.cell? ⟨0, 0, none⟩ = some (.iface 151 (.agg #[.pointer (some ⟨3, 30, none⟩)]))) (ht0 : w.cell? ⟨t, 0, none⟩ = some old) (hf0 : w.frozen? ⟨t, 0, none⟩ = false) :
    Calls Tryz.prog 54 #[.iface 108 (.agg #[.int .i64 c, .int .i64 n]), .iface 106 (.pointer (some ⟨t, 0, none⟩))] w fun ev w' => ev = .returned (.bool true) ∧ w' = (((((w.alloc (.cells #[.pointer (some ⟨t, 0, none⟩)] 106)).alloc (.cells #[.pointer (some ⟨3, 106, none⟩), .pointer (some ⟨w.heap.size, 0, none⟩), .int .u64 150] 125)).alloc (.cells #[.pointer (some ⟨3, 106, none⟩), .pointer (some ⟨w.heap.size, 0, none⟩), .int .u64 150] 125)).alloc (.cells #[.int .i64 c, .int .i64 n] 108)).alloc (.cells #[.int .i64 c] 62)).setCell ⟨t, 0, none⟩ (.int .i64 c) := by
  have h6 := @run_callFunc_extern Tryz.prog 73 _ (fun args => ReflectliteValue.unpack (args.getD 0 (.tuple #[]))) Tryz.func73 (by kernel_rfl) (by kernel_rfl) (by kernel_rfl) (by kernel_rfl)
  have h7 := @run_callFunc_extern Tryz.prog 74 _ (ReflectliteValue.methodAny (ReflectliteValue.valueError "reflectlite.Value.Type" 0) (fun t _ _ _ => ReflectliteType.toType t)) Tryz.func74 (by kernel_rfl) (by kernel_rfl) (by kernel_rfl) (by kernel_rfl)
  have h8 := @run_callFunc_extern Tryz.prog 75 _ (ReflectliteValue.method (ReflectliteValue.valueError "reflectlite.Value.IsNil" 0) ReflectliteValue.isNil) Tryz.func75 (by kernel_rfl) (by kernel_rfl) (by kernel_rfl) (by kernel_rfl)
  have h27 := @run_callFunc_extern Tryz.prog 118 _ (ReflectliteType.abiMethod fun t => do pure (.int .u8 (← Rtype.kind t))) Tryz.func118 (by kernel_rfl) (by kernel_rfl) (by kernel_rfl) (by kernel_rfl)
  have h37 := @run_callFunc_extern Tryz.prog 130 _ (ReflectliteType.method ReflectliteType.elem) Tryz.func130 (by kernel_rfl) (by kernel_rfl) (by kernel_rfl) (by kernel_rfl)
  have h38 := @run_callFunc_extern Tryz.prog 131 _ (ReflectliteType.relation "Implements" ReflectliteType.implements_) Tryz.func131 (by kernel_rfl) (by kernel_rfl) (by kernel_rfl) (by kernel_rfl)
  have h10 := @run_callFunc_extern Tryz.prog 89 _ ReflectliteType.typeOf Tryz.func89 (by kernel_rfl) (by kernel_rfl) (by kernel_rfl) (by kernel_rfl)
  have h35 := @run_callFunc_extern Tryz.prog 128 _ (ReflectliteType.relation "AssignableTo" ReflectliteType.assignableTo) Tryz.func128 (by kernel_rfl) (by kernel_rfl) (by kernel_rfl) (by kernel_rfl)
  have h11 := @run_callFunc_extern Tryz.prog 90 _ (ReflectliteValue.method (ReflectliteValue.valueError "reflectlite.Value.Elem" 0) ReflectliteValue.elem) Tryz.func90 (by kernel_rfl) (by kernel_rfl) (by kernel_rfl) (by kernel_rfl)
  have h12 := @run_callFunc_extern Tryz.prog 91 _ ReflectliteValue.set Tryz.func91 (by kernel_rfl) (by kernel_rfl) (by kernel_rfl) (by kernel_rfl)
  have tO := er_typeOfCode
  have tF := er_typeOfFault
  have mA := er_methodAssignableTo
  have aC := er_asgnCode
  have aF := er_asgnFault
  have aN := er_asgnNo
  have vC := er_valueOfCode
  have vF := er_valueOfFault
  have f6 := er_valueOfPCode
  have f7 := er_typeCode
  have mK := er_methodKind
  have mE := er_methodElem
  have mI := er_methodImplements
  have k27 := er_kindPCode
  have k25 := er_kindCode
  have e27 := er_elemCode
  have i25 := er_implCode
  have mU := er_methodUnwrap
  have nA := er_noAs
  have hU := er_hasUn
  have hlt : 0 < w.heap.size := by
    rcases Nat.lt_or_ge 0 w.heap.size with h | h
    · exact h
    · simp [World.cell?, Array.getElem?_eq_none h] at hg
  have n8 := er_isNilCode ⟨w.heap.size, 0, none⟩ ⟨t, 0, none⟩ ((w.alloc (.cells #[.pointer (some ⟨t, 0, none⟩)] 106)).alloc (.cells #[.pointer (some ⟨3, 106, none⟩), .pointer (some ⟨w.heap.size, 0, none⟩), .int .u64 150] 125)) (by simp)
  have hg2 : ((w.alloc (.cells #[.pointer (some ⟨t, 0, none⟩)] 106)).alloc (.cells #[.pointer (some ⟨3, 106, none⟩), .pointer (some ⟨w.heap.size, 0, none⟩), .int .u64 150] 125)).cell? ⟨0, 0, none⟩ = some (.iface 151 (.agg #[.pointer (some ⟨3, 30, none⟩)])) := by
    rw [World.cell?_alloc_lt _ _ ⟨0, 0, none⟩ (by simp <;> omega), World.cell?_alloc_lt _ _ ⟨0, 0, none⟩ hlt]; exact hg
  have htl : t < w.heap.size := by
    rcases Nat.lt_or_ge t w.heap.size with h | h
    · exact h
    · simp [World.cell?, Array.getElem?_eq_none h] at ht0
  have el := er_elemVCode ⟨w.heap.size, 0, none⟩ ⟨t, 0, none⟩ ((((w.alloc (.cells #[.pointer (some ⟨t, 0, none⟩)] 106)).alloc (.cells #[.pointer (some ⟨3, 106, none⟩), .pointer (some ⟨w.heap.size, 0, none⟩), .int .u64 150] 125)).alloc (.cells #[.pointer (some ⟨3, 106, none⟩), .pointer (some ⟨w.heap.size, 0, none⟩), .int .u64 150] 125)).alloc (.cells #[.int .i64 c, .int .i64 n] 108)) (by rw [World.cell?_alloc_lt _ _ ⟨w.heap.size, 0, none⟩ (by simp; omega), World.cell?_alloc_lt _ _ ⟨w.heap.size, 0, none⟩ (by simp; omega)]; simp)
  have st := er_setCode ⟨t, 0, none⟩ ⟨w.heap.size + 1 + 1 + 1 + 1, 0, none⟩ c old (((((w.alloc (.cells #[.pointer (some ⟨t, 0, none⟩)] 106)).alloc (.cells #[.pointer (some ⟨3, 106, none⟩), .pointer (some ⟨w.heap.size, 0, none⟩), .int .u64 150] 125)).alloc (.cells #[.pointer (some ⟨3, 106, none⟩), .pointer (some ⟨w.heap.size, 0, none⟩), .int .u64 150] 125)).alloc (.cells #[.int .i64 c, .int .i64 n] 108)).alloc (.cells #[.int .i64 c] 62))
    (by rw [World.cell?_alloc_at _ _ _ _ (by simp)]; rfl)
    (by rw [World.cell?_alloc_lt _ _ ⟨t, 0, none⟩ (by simp; omega), World.cell?_alloc_lt _ _ ⟨t, 0, none⟩ (by simp; omega), World.cell?_alloc_lt _ _ ⟨t, 0, none⟩ (by simp; omega), World.cell?_alloc_lt _ _ ⟨t, 0, none⟩ (by simp; omega), World.cell?_alloc_lt _ _ ⟨t, 0, none⟩ htl]; exact ht0)
    (by rw [World.frozen?_alloc_old _ _ ⟨t, 0, none⟩ (by simp; omega), World.frozen?_alloc_old _ _ ⟨t, 0, none⟩ (by simp; omega), World.frozen?_alloc_old _ _ ⟨t, 0, none⟩ (by simp; omega), World.frozen?_alloc_old _ _ ⟨t, 0, none⟩ (by simp; omega), World.frozen?_alloc_old _ _ ⟨t, 0, none⟩ (Nat.ne_of_lt htl)]; exact hf0)
  go_enter Tryz.func54, Tryz.ntmps54
  go_wp2
  refine wp_loop_rounds 2 ?_
  rw [rounds_succ]
  go_wp2
  rw [rounds_succ]
  go_wp2
  go_ret
  exact ⟨rfl, rfl⟩
set_option maxHeartbeats 8000000 in
theorem er_asAt (c n : Int) (t : Nat) (o1 o2 : Value) (w : World) (hg : w.cell? ⟨0, 0, none⟩ = some (.iface 151 (.agg #[.pointer (some ⟨3, 30, none⟩)]))) (e : TypeId) (hrow : w.heap[t]? = some (.cells #[o1, o2] e (0, 0))) :
    Calls Tryz.prog 54 #[.iface 108 (.agg #[.int .i64 c, .int .i64 n]), .iface 109 (.pointer (some ⟨t, 0, none⟩))] w fun ev w' => ev = .returned (.bool true) ∧ w' = ((((w.alloc (.cells #[.pointer (some ⟨t, 0, none⟩)] 109)).alloc (.cells #[.pointer (some ⟨3, 109, none⟩), .pointer (some ⟨w.heap.size, 0, none⟩), .int .u64 150] 125)).alloc (.cells #[.pointer (some ⟨3, 109, none⟩), .pointer (some ⟨w.heap.size, 0, none⟩), .int .u64 150] 125)).alloc (.cells #[.int .i64 c, .int .i64 n] 108)).setRow t #[.int .i64 c, .int .i64 n] := by
  have h6 := @run_callFunc_extern Tryz.prog 73 _ (fun args => ReflectliteValue.unpack (args.getD 0 (.tuple #[]))) Tryz.func73 (by kernel_rfl) (by kernel_rfl) (by kernel_rfl) (by kernel_rfl)
  have h7 := @run_callFunc_extern Tryz.prog 74 _ (ReflectliteValue.methodAny (ReflectliteValue.valueError "reflectlite.Value.Type" 0) (fun t _ _ _ => ReflectliteType.toType t)) Tryz.func74 (by kernel_rfl) (by kernel_rfl) (by kernel_rfl) (by kernel_rfl)
  have h8 := @run_callFunc_extern Tryz.prog 75 _ (ReflectliteValue.method (ReflectliteValue.valueError "reflectlite.Value.IsNil" 0) ReflectliteValue.isNil) Tryz.func75 (by kernel_rfl) (by kernel_rfl) (by kernel_rfl) (by kernel_rfl)
  have h27 := @run_callFunc_extern Tryz.prog 118 _ (ReflectliteType.abiMethod fun t => do pure (.int .u8 (← Rtype.kind t))) Tryz.func118 (by kernel_rfl) (by kernel_rfl) (by kernel_rfl) (by kernel_rfl)
  have h37 := @run_callFunc_extern Tryz.prog 130 _ (ReflectliteType.method ReflectliteType.elem) Tryz.func130 (by kernel_rfl) (by kernel_rfl) (by kernel_rfl) (by kernel_rfl)
  have h38 := @run_callFunc_extern Tryz.prog 131 _ (ReflectliteType.relation "Implements" ReflectliteType.implements_) Tryz.func131 (by kernel_rfl) (by kernel_rfl) (by kernel_rfl) (by kernel_rfl)
  have h10 := @run_callFunc_extern Tryz.prog 89 _ ReflectliteType.typeOf Tryz.func89 (by kernel_rfl) (by kernel_rfl) (by kernel_rfl) (by kernel_rfl)
  have h35 := @run_callFunc_extern Tryz.prog 128 _ (ReflectliteType.relation "AssignableTo" ReflectliteType.assignableTo) Tryz.func128 (by kernel_rfl) (by kernel_rfl) (by kernel_rfl) (by kernel_rfl)
  have h11 := @run_callFunc_extern Tryz.prog 90 _ (ReflectliteValue.method (ReflectliteValue.valueError "reflectlite.Value.Elem" 0) ReflectliteValue.elem) Tryz.func90 (by kernel_rfl) (by kernel_rfl) (by kernel_rfl) (by kernel_rfl)
  have h12 := @run_callFunc_extern Tryz.prog 91 _ ReflectliteValue.set Tryz.func91 (by kernel_rfl) (by kernel_rfl) (by kernel_rfl) (by kernel_rfl)
  have tO := er_typeOfCode
  have tF := er_typeOfFault
  have mA := er_methodAssignableTo
  have aC := er_asgnCode
  have aF := er_asgnFault
  have aN := er_asgnNo
  have vC := er_valueOfCode
  have vF := er_valueOfFault
  have f6 := er_valueOfPFault
  have f7 := er_typeFault
  have mK := er_methodKind
  have mE := er_methodElem
  have mI := er_methodImplements
  have k27 := er_kindPFault
  have k25 := er_kindFault
  have e27 := er_elemFault
  have i25 := er_implFault
  have mU := er_methodUnwrap
  have nA := er_noAs
  have hU := er_hasUn
  have hlt : 0 < w.heap.size := by
    rcases Nat.lt_or_ge 0 w.heap.size with h | h
    · exact h
    · simp [World.cell?, Array.getElem?_eq_none h] at hg
  have n8 := er_isNilFault ⟨w.heap.size, 0, none⟩ ⟨t, 0, none⟩ ((w.alloc (.cells #[.pointer (some ⟨t, 0, none⟩)] 109)).alloc (.cells #[.pointer (some ⟨3, 109, none⟩), .pointer (some ⟨w.heap.size, 0, none⟩), .int .u64 150] 125)) (by simp)
  have hg2 : ((w.alloc (.cells #[.pointer (some ⟨t, 0, none⟩)] 109)).alloc (.cells #[.pointer (some ⟨3, 109, none⟩), .pointer (some ⟨w.heap.size, 0, none⟩), .int .u64 150] 125)).cell? ⟨0, 0, none⟩ = some (.iface 151 (.agg #[.pointer (some ⟨3, 30, none⟩)])) := by
    rw [World.cell?_alloc_lt _ _ ⟨0, 0, none⟩ (by simp <;> omega), World.cell?_alloc_lt _ _ ⟨0, 0, none⟩ hlt]; exact hg
  have htl : t < w.heap.size := by
    rcases Nat.lt_or_ge t w.heap.size with h | h
    · exact h
    · rw [Array.getElem?_eq_none h] at hrow; cases hrow
  have el := er_elemVFault ⟨w.heap.size, 0, none⟩ ⟨t, 0, none⟩ (((w.alloc (.cells #[.pointer (some ⟨t, 0, none⟩)] 109)).alloc (.cells #[.pointer (some ⟨3, 109, none⟩), .pointer (some ⟨w.heap.size, 0, none⟩), .int .u64 150] 125)).alloc (.cells #[.pointer (some ⟨3, 109, none⟩), .pointer (some ⟨w.heap.size, 0, none⟩), .int .u64 150] 125)) (by rw [World.cell?_alloc_lt _ _ ⟨w.heap.size, 0, none⟩ (by simp; omega)]; simp)
  have st := er_setFault t (w.heap.size + 1 + 1 + 1) c n o1 o2 e ((((w.alloc (.cells #[.pointer (some ⟨t, 0, none⟩)] 109)).alloc (.cells #[.pointer (some ⟨3, 109, none⟩), .pointer (some ⟨w.heap.size, 0, none⟩), .int .u64 150] 125)).alloc (.cells #[.pointer (some ⟨3, 109, none⟩), .pointer (some ⟨w.heap.size, 0, none⟩), .int .u64 150] 125)).alloc (.cells #[.int .i64 c, .int .i64 n] 108))
    (by rw [World.cell?_alloc_at _ _ _ _ (by simp)]; rfl)
    (by rw [World.cell?_alloc_at _ _ _ _ (by simp)]; rfl)
    (by simp only [World.alloc, Array.getElem?_push, Array.size_push]; rw [if_neg (by omega), if_neg (by omega), if_neg (by omega), if_neg (by omega)]; exact hrow)
  go_enter Tryz.func54, Tryz.ntmps54
  go_wp2
  refine wp_loop_rounds 1 ?_
  rw [rounds_succ]
  go_wp2
  go_ret
  exact ⟨rfl, rfl⟩

theorem er_hg {w : World} (o : Obj) (hg : w.cell? ⟨0, 0, none⟩ = some (.iface 151 (.agg #[.pointer (some ⟨3, 30, none⟩)]))) : (w.alloc o).cell? ⟨0, 0, none⟩ = some (.iface 151 (.agg #[.pointer (some ⟨3, 30, none⟩)])) := by
  have hlt : 0 < w.heap.size := by
    rcases Nat.lt_or_ge 0 w.heap.size with h | h
    · exact h
    · simp [World.cell?, Array.getElem?_eq_none h] at hg
  rw [World.cell?_alloc_lt _ _ ⟨0, 0, none⟩ hlt]; exact hg
theorem er_setRow {B : Nat} {a w : World} (h : Below B a w) {b : Nat} (hb : B ≤ b) (c : Array Value) : Below B a (w.setRow b c) := by
  refine h.trans ⟨rfl, rfl, rfl, by simp [World.setRow], fun k hk => ?_⟩
  simp only [World.setRow, Array.getElem?_modify]
  rw [if_neg (by omega)]
set_option maxHeartbeats 4000000 in
set_option maxHeartbeats 4000000 in
set_option maxHeartbeats 4000000 in
theorem er_codeFault (c n : Int) (w : World) (hg : w.cell? ⟨0, 0, none⟩ = some (.iface 151 (.agg #[.pointer (some ⟨3, 30, none⟩)]))) : Calls Tryz.prog 24 #[.iface 108 (.agg #[.int .i64 c, .int .i64 n])] w fun e w' => e = .returned (.tuple #[.int .i64 c, .bool true]) ∧ Below w.heap.size w w' := by
  have hA := er_asCode c n w.heap.size (.int .i64 0) (w.alloc (.cells #[.int .i64 0] 62)) (er_hg _ hg) (by simp) (by simp)
  go_enter Tryz.func24, Tryz.ntmps24
  go_wp2_with (first | (go_at_call 54; refine hA.mono ?_; rintro e w' ⟨rfl, rfl⟩))
  go_ret2
  refine ⟨rfl, ?_⟩
  refine Below.alloc ?_ (by simp <;> omega) _
  refine Below.alloc ?_ (by simp <;> omega) _
  refine Below.alloc ?_ (by simp <;> omega) _
  refine Below.alloc ?_ (by simp <;> omega) _
  refine Below.alloc ?_ (by simp <;> omega) _
  refine Below.alloc ?_ (by simp <;> omega) _
  exact Below.refl _ _
set_option maxHeartbeats 4000000 in
theorem er_atFault (c n : Int) (w : World) (hg : w.cell? ⟨0, 0, none⟩ = some (.iface 151 (.agg #[.pointer (some ⟨3, 30, none⟩)]))) : Calls Tryz.prog 25 #[.iface 108 (.agg #[.int .i64 c, .int .i64 n])] w fun e w' => e = .returned (.tuple #[.int .i64 n, .bool true]) ∧ Below w.heap.size w w' := by
  have hA := er_asAt c n w.heap.size (.int .i64 0) (.int .i64 0) (w.alloc (.cells #[.int .i64 0, .int .i64 0] 108)) (er_hg _ hg) 108 (by simp only [World.alloc]; exact Array.getElem?_push_size)
  have hcell : ∀ (W : World) (c n : Value) (o1 o2 o3 o4 : Obj), (((((((W.alloc (.cells #[.int .i64 0, .int .i64 0] 108)).alloc o1).alloc o2).alloc o3).alloc o4).setRow W.heap.size #[c, n])).cell? ⟨W.heap.size, 1, none⟩ = some n := by
    intro W c n o1 o2 o3 o4
    simp only [World.cell?, World.setRow, World.alloc, Array.getElem?_modify, Array.getElem?_push, Array.size_push]
    rw [if_neg (show ¬ W.heap.size = W.heap.size + 1 + 1 + 1 + 1 by omega), if_neg (show ¬ W.heap.size = W.heap.size + 1 + 1 + 1 by omega), if_neg (show ¬ W.heap.size = W.heap.size + 1 + 1 by omega), if_neg (show ¬ W.heap.size = W.heap.size + 1 by omega)]
    simp
  go_enter Tryz.func25, Tryz.ntmps25
  go_wp2_with (first | (go_at_call 54; refine hA.mono ?_; rintro e w' ⟨rfl, rfl⟩))
  go_ret2
  refine ⟨rfl, ?_⟩
  refine er_setRow ?_ (Nat.le_refl _) _
  refine Below.alloc ?_ (by simp <;> omega) _
  refine Below.alloc ?_ (by simp <;> omega) _
  refine Below.alloc ?_ (by simp <;> omega) _
  refine Below.alloc ?_ (by simp <;> omega) _
  refine Below.alloc ?_ (by simp <;> omega) _
  exact Below.refl _ _

theorem er_rep {lim : Lim} {h : Array Obj} {v : Value} {t : TypeId} {c n : Int} (r : Rep lim h v (.iface t (.agg [.int .i64 c, .int .i64 n]))) : v = .iface t (.agg #[.int .i64 c, .int .i64 n]) := by
  cases r with
  | iface t u x hx =>
    obtain ⟨cs, rfl, hr⟩ := Rep.agg_iff.1 hx
    obtain ⟨l⟩ := cs
    match l, hr with
    | [], hr => exact absurd hr.1 (by simp)
    | [a], hr => exact absurd hr.1 (by simp)
    | [a, b], hr => rw [rep_int hr.head, rep_int hr.tail.head]
    | a :: b :: d :: r, hr => exact absurd hr.1 (by simp)
theorem er_cell {lim : Lim} {w : World} {i t b o : Nat} (r : GlAt lim w.heap i [.iface t (.agg [.gp b o])]) : w.cell? ⟨i, 0, none⟩ = some (.iface t (.agg #[.pointer (some ⟨b, o, none⟩)])) := by
  obtain ⟨b', off, vs, he, hv, hc⟩ := Rep.ro_iff.1 r.1
  injection he with he; injection he with he; injection he with h1 h2
  subst h1; subst h2
  obtain ⟨u, hu, hr⟩ := hv.get (j := 0) rfl
  have h0 := (hc 0 u hu).2
  rw [cell?_eq]
  rw [h0]
  cases hr with
  | iface t u x hx =>
    obtain ⟨cs, rfl, hr⟩ := Rep.agg_iff.1 hx
    obtain ⟨l⟩ := cs
    match l, hr with
    | [], hr => exact absurd hr.1 (by simp)
    | [a], hr => rw [rep_gp hr.head]
    | a :: b :: r, hr => exact absurd hr.1 (by simp)
def errTy : List AV := [.iface 151 (.agg [.gp 3 30])]
theorem er_rt {lim : Lim} {h : Array Obj} (n : Int) (b : Bool) : Rep lim h (.tuple #[.int .i64 n, .bool b]) (.tup [.int .i64 n, .bool b]) :=
  Rep.tup_iff.2 ⟨_, rfl, .cons (.int _ _) (.cons (.bool _) (RepL.nil _ _))⟩
theorem er_one {vs : List Value} {lim : Lim} {h : Array Obj} {x : AV} (r : RepL lim h vs [x]) : ∃ v, vs = [v] ∧ Rep lim h v x := by
  match vs, r with
  | [], r => exact absurd r.1 (by simp)
  | [a], r => exact ⟨a, rfl, r.head⟩
  | a :: b :: q, r => exact absurd r.1 (by simp)
theorem fault_Code_f (hty : g 0 = some errTy) (c n : Int) : Valid Tryz.prog (G0 g rnd) 24 [.iface 108 (.agg [.int .i64 c, .int .i64 n])] (.tup [.int .i64 c, .bool true]) :=
  valid_callsG (by kernel_rfl) fun lim w cargs hgl hargs => by
    obtain ⟨v, rfl, hv⟩ := er_one hargs
    rw [er_rep hv]
    exact (er_codeFault c n w (er_cell (hgl _ _ hty))).mono fun e w' he => ⟨_, he.1, he.2, fun _ _ => er_rt _ _⟩
theorem fault_At_f (hty : g 0 = some errTy) (c n : Int) : Valid Tryz.prog (G0 g rnd) 25 [.iface 108 (.agg [.int .i64 c, .int .i64 n])] (.tup [.int .i64 n, .bool true]) :=
  valid_callsG (by kernel_rfl) fun lim w cargs hgl hargs => by
    obtain ⟨v, rfl, hv⟩ := er_one hargs
    rw [er_rep hv]
    exact (er_atFault c n w (er_cell (hgl _ _ hty))).mono fun e w' he => ⟨_, he.1, he.2, fun _ _ => er_rt _ _⟩
end Go.Proofs.YtpjkdaechknogaaGreatDoor
end

section
/- Contracts. -/
set_option linter.all false
set_option maxHeartbeats 1000000
set_option maxRecDepth 10000
namespace Go.Proofs.YtpjkdaechknogaaGreatDoor
open Go Go.Pv
variable (g : Nat → Option (List AV)) (rnd : Bool)

theorem c_ref04x_Text (t : Ty) : wt t ≤ 1099511627776 → Valid Tryz.prog (G0 g rnd) 15 [.agg (encTy t)] (.str (txt t)) := by
 induction t using Ty.ind with
 | h n ts p ih =>
 intro hw
 have hw2 : n.length + 1 + wts ts ≤ 1099511627776 := by simpa [wt] using hw
 have hln := wts_len ts
 refine valid_of [] Tryz.func15 rfl (by kernel_rfl) ?_
 refine AT_seq_region fun K1 hK1 => ?_
 simp [row_map, Tryz.f15]
 repeat refine sg ?_
 refine hK1 _ ?_
 clear hK1 K1
 refine AT_seq_region fun K2 hK2 => ?_
 simp [row_map]
 repeat refine sg ?_
 refine hK2 _ ?_
 clear hK2 K2
 refine AT_seq_k fun K3 hK3 => ?_
 refine AT_seq_region fun K4 hK4 => ?_
 simp [row_map]
 repeat refine sg ?_
 refine hK4 _ ?_
 clear hK4 K4
 refine AT_block ?_
 refine AT_loop_q [3,4,1] [1] (fun j s => ∃ k, k ≤ ts.length ∧ j = ts.length - k ∧ s = { n := 35, tm := [(3, .v (.str (txtK n ts k)) none), (4, .v (.int .i64 k) none), (1, .lp 1 0)], bx := [(1, encTy (.mk n ts p))], tb := [], sh := [], hint := [] }) (ts.length) (by first | rfl | simp) ?_ ?_
 ·
  exact ⟨0, by simp [txtK]⟩
 ·
  rintro j s ⟨k, hk, rfl, rfl⟩ K5 hK5
  refine AT_seq_k fun K6 hK6 => ?_
  refine AT_seq_region fun K7 hK7 => ?_
  simp [row_map]
  repeat refine sg ?_
  refine hK7 _ ?_
  clear hK7 K7
  refine AT_cond (g := none) rfl (fun hb11 => ?_) (fun hb11 => ?_)
  ·
   try simp [row_map] at hb11
   refine AT_skip ?_
   try simp only [nrm, reduceIte, Nat.reduceEqDiff]
   refine hK6 _ ?_
   refine AT_seq_k fun K8 hK8 => ?_
   refine AT_block ?_
   refine AT_seq_k fun K9 hK9 => ?_
   refine AT_seq_region fun K10 hK10 => ?_
   simp [row_map, hb11]
   repeat refine sg ?_
   refine hK10 _ ?_
   clear hK10 K10
   refine AT_cond (g := none) rfl (fun hb15 => ?_) (fun hb15 => ?_)
   ·
    try simp [row_map, hb11] at hb15
    refine AT_region_q fun K11 hK11 => ?_
    have htk := txtK_len n ts k
    simp [row_map, hb11]
    repeat refine sg ?_
    refine hK11 _ ?_
    clear hK11 K11
    try simp only [nrm, reduceIte, Nat.reduceEqDiff]
    refine hK9 _ ?_
    refine AT_region_q fun K12 hK12 => ?_
    have htk := txtK_len n ts k
    have hm := wts_mem (l := ts) (t := ts[k]) (by simp)
    have hxt := txt_wt ts[k]
    simp [row_map, hb11]
    repeat refine sg ?_
    refine RVn_call (ih ts[k] (by simp) (by omega)) ?_
    simp [row_map, hb11]
    repeat refine sg ?_
    refine hK12 _ ?_
    clear hK12 K12
    try simp only [nrm, reduceIte, Nat.reduceEqDiff]
    refine hK8 _ ?_
    refine AT_region_q fun K13 hK13 => ?_
    simp [row_map, hb11]
    repeat refine sg ?_
    refine hK13 _ ?_
    clear hK13 K13
    try simp only [nrm, reduceIte, Nat.reduceEqDiff]
    refine hK5 _ (by first | rfl | simp) (ts.length - (k+1)) (by omega) ?_
    have hs := txtK_succ n ts k hb11
    first | rw [if_pos hb15] at hs | rw [if_neg hb15] at hs
    exact ⟨k+1, by omega, by omega, by simp [hs]⟩
   ·
    try simp [row_map, hb11] at hb15
    refine AT_region_q fun K14 hK14 => ?_
    have htk := txtK_len n ts k
    simp [row_map, hb11]
    repeat refine sg ?_
    refine hK14 _ ?_
    clear hK14 K14
    try simp only [nrm, reduceIte, Nat.reduceEqDiff]
    refine hK9 _ ?_
    refine AT_region_q fun K15 hK15 => ?_
    have htk := txtK_len n ts k
    have hm := wts_mem (l := ts) (t := ts[k]) (by simp)
    have hxt := txt_wt ts[k]
    simp [row_map, hb11]
    repeat refine sg ?_
    refine RVn_call (ih ts[k] (by simp) (by omega)) ?_
    simp [row_map, hb11]
    repeat refine sg ?_
    refine hK15 _ ?_
    clear hK15 K15
    try simp only [nrm, reduceIte, Nat.reduceEqDiff]
    refine hK8 _ ?_
    refine AT_region_q fun K16 hK16 => ?_
    simp [row_map, hb11]
    repeat refine sg ?_
    refine hK16 _ ?_
    clear hK16 K16
    try simp only [nrm, reduceIte, Nat.reduceEqDiff]
    refine hK5 _ (by first | rfl | simp) (ts.length - (k+1)) (by omega) ?_
    have hs := txtK_succ n ts k hb11
    first | rw [if_pos hb15] at hs | rw [if_neg hb15] at hs
    exact ⟨k+1, by omega, by omega, by simp [hs]⟩
  ·
   try simp [row_map] at hb11
   refine AT_exit ?_
   try simp only [nrm, reduceIte, Nat.reduceEqDiff]
   refine hK3 _ ?_
   refine AT_seq_k fun K17 hK17 => ?_
   refine AT_seq_region fun K18 hK18 => ?_
   simp [row_map, hb11]
   repeat refine sg ?_
   refine hK18 _ ?_
   clear hK18 K18
   refine AT_cond (g := none) rfl (fun hb31 => ?_) (fun hb31 => ?_)
   ·
    try simp [row_map, hb11] at hb31
    refine AT_region_q fun K19 hK19 => ?_
    have htk := txtK_len n ts k
    simp [row_map, hb11]
    repeat refine sg ?_
    refine hK19 _ ?_
    clear hK19 K19
    try simp only [nrm, reduceIte, Nat.reduceEqDiff]
    refine hK17 _ ?_
    refine AT_seq_region fun K20 hK20 => ?_
    simp [row_map, hb11]
    repeat refine sg ?_
    refine hK20 _ ?_
    clear hK20 K20
    refine AT_ret ?_
    simp [row_map, Tryz.f15]
    first
    | exact (txt_end n ts p k (by omega)).1 (by first | omega | simpa [List.length_pos_iff] using hb31)
    | exact (txt_end n ts p k (by omega)).2 (by first | omega | simpa using hb31)
   ·
    try simp [row_map, hb11] at hb31
    refine AT_skip ?_
    try simp only [nrm, reduceIte, Nat.reduceEqDiff]
    refine hK17 _ ?_
    refine AT_seq_region fun K21 hK21 => ?_
    simp [row_map, hb11]
    repeat refine sg ?_
    refine hK21 _ ?_
    clear hK21 K21
    refine AT_ret ?_
    simp [row_map, Tryz.f15]
    first
    | exact (txt_end n ts p k (by omega)).1 (by first | omega | simpa [List.length_pos_iff] using hb31)
    | exact (txt_end n ts p k (by omega)).2 (by first | omega | simpa using hb31)

end Go.Proofs.YtpjkdaechknogaaGreatDoor
end

section
/- Contracts. -/
set_option linter.all false
set_option maxHeartbeats 1000000
set_option maxRecDepth 10000
namespace Go.Proofs.YtpjkdaechknogaaGreatDoor
open Go Go.Pv
variable (g : Nat → Option (List AV)) (rnd : Bool)

theorem c_slices_IndexFunc_api_Type_api_Type (Y : Ys) (hP : Y.P = Tryz.prog) (L : Ty → List AV) (caps : List AV) (l : List Ty) (s : List AV) (hl : l.length ≤ 1099511627776) (he : elOk Y s (l.flatMap L)) (hcl : ∀ a ∈ l, ∀ s, elOk Y s (L a) → ValidY Tryz.prog (G1 g Y) Y 101 ([.agg (encTy a)] ++ caps) (s, true) (.bool (!(feed Y s (L a)).2)) (feed Y s (L a))) : ValidY Tryz.prog (G1 g Y) Y 85 [.slice (l.map encTy), .func 101 caps] (s, true) (.int .i64 (visI Y L s l 0)) (feed Y s (l.flatMap L)) := by

 refine validY_of [] Tryz.func85 rfl (by kernel_rfl) rfl hP ?_
 refine AT_seq_region fun K1 hK1 => ?_
 simp [row_map, Tryz.f85]
 repeat refine sg ?_
 refine hK1 _ ?_
 clear hK1 K1
 refine AT_seq_k fun K2 hK2 => ?_
 refine AT_seq_region fun K3 hK3 => ?_
 simp [row_map]
 repeat refine sg ?_
 refine hK3 _ ?_
 clear hK3 K3
 refine AT_block ?_
 refine AT_loop_q [0,1,7,8] [] (fun j st => ∃ k s1, k ≤ l.length ∧ feed Y s (l.flatMap L) = feed Y s1 ((l.drop k).flatMap L) ∧ visI Y L s l 0 = visI Y L s1 (l.drop k) k ∧ elOk Y s1 ((l.drop k).flatMap L) ∧ j = l.length - k ∧ st = { n := 19, tm := [(0, .v (.slice (l.map encTy)) none), (1, .v (.func 101 caps) none), (7, .v (.int .i64 l.length) none), (8, .v (.int .i64 k) none)], bx := [], tb := [], sh := [], hint := [], ys := (s1, true) }) (l.length) (by first | rfl | simp) ?_ ?_
 ·
  exact ⟨0, s, by simp [he]⟩
 ·
  rintro j st ⟨k, s1, hk, hf, hv, hel, rfl, rfl⟩ K4 hK4
  refine AT_seq_region fun K5 hK5 => ?_
  simp [row_map]
  repeat refine sg ?_
  refine hK5 _ ?_
  clear hK5 K5
  refine AT_seq_k fun K6 hK6 => ?_
  refine AT_cond (g := none) rfl (fun hb9 => ?_) (fun hb9 => ?_)
  ·
   try simp [row_map] at hb9
   refine AT_skip ?_
   try simp only [nrm, reduceIte, Nat.reduceEqDiff]
   refine hK6 _ ?_
   refine AT_seq_k fun K7 hK7 => ?_
   refine AT_block ?_
   refine AT_seq_region fun K8 hK8 => ?_
   simp [row_map, hb9]
   repeat refine sg ?_
   refine hK8 _ ?_
   clear hK8 K8
   refine AT_seq_region fun K9 hK9 => ?_
   have hk9 : k < l.length := by omega
   have hda := List.drop_eq_getElem_cons hk9
   simp [row_map, hb9]
   repeat refine sg ?_
   refine RVn_callY rfl (by simp) (hcl l[k] (by simp) s1 (by rw [hda, List.flatMap_cons, elOk_app] at hel; exact hel.1)) ?_
   simp [row_map, hb9]
   repeat refine sg ?_
   refine hK9 _ ?_
   clear hK9 K9
   refine AT_cond (g := none) rfl (fun hb16 => ?_) (fun hb16 => ?_)
   ·
    try simp [row_map, hb9] at hb16
    refine AT_seq_region fun K10 hK10 => ?_
    simp [row_map, hb9]
    repeat refine sg ?_
    refine hK10 _ ?_
    clear hK10 K10
    refine AT_ret ?_
    simp [row_map, Tryz.f85]
    first
    | (refine ⟨?_, ?_⟩
       · rw [hv, hda, visI, if_neg (by simp [hb16])]
       · rw [hf, hda, List.flatMap_cons, feed_app, if_neg (by simp [hb16])])
    | (have hnil := List.drop_eq_nil_of_le (show l.length ≤ k by omega)
       rw [hf, hv, hnil]; simp [visI, feed])
   ·
    try simp [row_map, hb9] at hb16
    refine AT_skip ?_
    try simp only [nrm, reduceIte, Nat.reduceEqDiff]
    refine hK7 _ ?_
    refine AT_region_q fun K11 hK11 => ?_
    simp [row_map, hb9]
    repeat refine sg ?_
    refine hK11 _ ?_
    clear hK11 K11
    try simp only [nrm, reduceIte, Nat.reduceEqDiff]
    refine hK4 _ (by first | rfl | simp) (l.length - (k+1)) (by omega) ?_
    refine ⟨k+1, (feed Y s1 (L l[k])).1, by omega, ?_, ?_, ?_, by omega, ?_⟩
    · rw [hf, hda, List.flatMap_cons, feed_app, if_pos hb16]
    · rw [hv, hda, visI, if_pos hb16]
    · rw [hda, List.flatMap_cons, elOk_app] at hel; exact hel.2 hb16
    · simp; exact Prod.ext rfl hb16
  ·
   try simp [row_map] at hb9
   refine AT_exit ?_
   try simp only [nrm, reduceIte, Nat.reduceEqDiff]
   refine hK2 _ ?_
   refine AT_seq_region fun K12 hK12 => ?_
   simp [row_map, hb9]
   repeat refine sg ?_
   refine hK12 _ ?_
   clear hK12 K12
   refine AT_ret ?_
   simp [row_map, Tryz.f85]
   first
   | (refine ⟨?_, ?_⟩
      · rw [hv, hda, visI, if_neg (by simp [hb16])]
      · rw [hf, hda, List.flatMap_cons, feed_app, if_neg (by simp [hb16])])
   | (have hnil := List.drop_eq_nil_of_le (show l.length ≤ k by omega)
      rw [hf, hv, hnil]; simp [visI, feed])

theorem c_slices_ContainsFunc_api_Type_api_Type (Y : Ys) (hP : Y.P = Tryz.prog) (L : Ty → List AV) (caps : List AV) (l : List Ty) (s : List AV) (hl : l.length ≤ 1099511627776) (he : elOk Y s (l.flatMap L)) (hcl : ∀ a ∈ l, ∀ s, elOk Y s (L a) → ValidY Tryz.prog (G1 g Y) Y 101 ([.agg (encTy a)] ++ caps) (s, true) (.bool (!(feed Y s (L a)).2)) (feed Y s (L a))) : ValidY Tryz.prog (G1 g Y) Y 64 [.slice (l.map encTy), .func 101 caps] (s, true) (.bool (!(feed Y s (l.flatMap L)).2)) (feed Y s (l.flatMap L)) := by

 refine validY_of [] Tryz.func64 rfl (by kernel_rfl) rfl hP ?_
 refine AT_seq_region fun K1 hK1 => ?_
 simp [Tryz.f64]
 repeat refine sg ?_
 refine hK1 _ ?_
 clear hK1 K1
 refine AT_seq_region fun K2 hK2 => ?_
 simp
 repeat refine sg ?_
 refine RVn_callY rfl (by simp) (c_slices_IndexFunc_api_Type_api_Type g Y hP L caps l s hl he hcl) ?_
 simp
 repeat refine sg ?_
 refine hK2 _ ?_
 clear hK2 K2
 refine AT_ret ?_
 simp [Tryz.f64]
 exact visI_feed Y L s l 0

end Go.Proofs.YtpjkdaechknogaaGreatDoor
end
