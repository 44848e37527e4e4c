/- Texts laid one behind the other: F1, K3, T2, T3, T4, T5, Det2, R1, R2, Map, R3. -/
import Derived.Test.YtliofoikejdjeaaDoorV1
import Derived.Stop.CallBack
import Derived.Stop.IfaceNil
import Derived.WalkKit
import Derived.LaidEql
import Derived.Stop.Asserts
import Derived.RowKitTokens
import Derived.OneCell
import Derived.Test.YtliofoikejdjeaaDoorWTab
import Derived.Maps.Own
import Derived.Maps.OwnOps
import Derived.Maps.OwnSet
import Derived.Maps.Views
/- errors.As at *place, of an error that fault.New made; fault.of, Code, At. -/
namespace Go.Proofs.YtliofoikejdjeaaDoor
open Go.RowKit Go.Proofs.YtliofoikejdjeaaDoorW.PrintWords Go.Extern.Stop Go.Stop Go.Extern
set_option linter.unusedVariables false
set_option linter.unusedSimpArgs false
theorem methodKind (h : Value) (w : World) : (Go.method 308 165 (.agg #[h]) "Kind").run Tryd.prog w = .ok (133, h) w := by kernel_rfl
theorem methodElem (h : Value) (w : World) : (Go.method 308 165 (.agg #[h]) "Elem").run Tryd.prog w = .ok (144, .agg #[h]) w := by kernel_rfl
theorem methodImplements (h : Value) (w : World) : (Go.method 308 165 (.agg #[h]) "Implements").run Tryd.prog w = .ok (145, .agg #[h]) w := by kernel_rfl
theorem methodAssignableTo (h : Value) (w : World) : (Go.method 308 165 (.agg #[h]) "AssignableTo").run Tryd.prog w = .ok (142, .agg #[h]) w := by kernel_rfl
theorem rlm (z : Sem Value) (f : TypeId → Addr → Nat → Nat → Sem Value) (v : Value) :
    ReflectliteValue.method z f #[v] = (do match ← ReflectliteValue.parts v with | none => z | some (t, a, fl) => f t a fl (fl % 32)) := rfl
theorem rls (v x : Value) : ReflectliteValue.set #[v, x] = (do
    let (some (dst, a, fl), some (src, b, _)) := (← ReflectliteValue.parts v, ← ReflectliteValue.parts x)
      | unsupported (.noEntry "extern/(internal/reflectlite.Value).Set.zeroValue")
    if fl / ReflectliteValue.flagAddr % 2 == 0 then unsupported (.noEntry "extern/(internal/reflectlite.Value).Set.unaddressable")
    let val ← loadVar src b
    if ← Rtype.directlyAssignable dst src then storeVar dst a val
    else if ← Rtype.implements dst src then
      if (← Rtype.kind src) == 20 then
        match val with
        | .nilIface => unsupported (.noEntry "extern/reflectlite: a nil value of one interface type handed on as a value of another")
        | _ => storeVar dst a val
      else storeVar dst a (.iface src val)
    else panicString ("reflectlite.Set: value of type " ++ (← Rtype.spelt src) ++ " is not assignable to type " ++ (← Rtype.spelt dst))
    pure (.tuple #[])) := rfl
def rt (t : TypeId) : Value := .iface 165 (.agg #[.pointer (some ⟨1, t, none⟩)])
theorem valueOfP (t : Addr) (w : World) : (ReflectliteValue.unpack (.iface 127 (.pointer (some t)))).run Tryd.prog w
    = .ok (.agg #[.pointer (some ⟨4, 127, none⟩), .pointer (some ⟨w.heap.size, 0, none⟩), .int .u64 150]) (w.alloc (.cells #[.pointer (some t)] 127)) := by kernel_rfl
theorem typeP (a : Addr) (w : World) : (ReflectliteValue.methodAny (ReflectliteValue.valueError "reflectlite.Value.Type" 0) (fun t _ _ _ => ReflectliteType.toType t) #[.agg #[.pointer (some ⟨4, 127, none⟩), .pointer (some a), .int .u64 150]]).run Tryd.prog w
    = .ok (.iface 165 (.agg #[.pointer (some ⟨4, 127, none⟩)])) w := by kernel_rfl
theorem kindTP (w : World) : ((ReflectliteType.abiMethod fun t => (fun a : Nat => Value.int IntKind.u8 (a : Int)) <$> Rtype.kind t) #[.pointer (some ⟨4, 127, none⟩)]).run Tryd.prog w = .ok (.int .u8 22) w := by kernel_rfl
theorem kindEP (w : World) : ((ReflectliteType.abiMethod fun t => (fun a : Nat => Value.int IntKind.u8 (a : Int)) <$> Rtype.kind t) #[.pointer (some ⟨4, 116, none⟩)]).run Tryd.prog w = .ok (.int .u8 22) w := by kernel_rfl
theorem partsP (a : Addr) (w : World) : (ReflectliteValue.parts (.agg #[.pointer (some ⟨4, 127, none⟩), .pointer (some a), .int .u64 150])).run Tryd.prog w = .ok (some (127, a, 150)) w := by kernel_rfl
theorem isNilP (a p : Addr) (W : World) (ha : W.cell? a = some (.pointer (some p))) :
    (ReflectliteValue.method (ReflectliteValue.valueError "reflectlite.Value.IsNil" 0) ReflectliteValue.isNil #[.agg #[.pointer (some ⟨4, 127, none⟩), .pointer (some a), .int .u64 150]]).run Tryd.prog W = .ok (.bool false) W := by
  rw [rlm]
  simp only [Sem.run_bind, partsP, Result.andThen]
  simp [ReflectliteValue.isNil, loadVar, isAgg, underlying, Tryd.underlying127, ha, Result.andThen]
theorem elemP (w : World) : (ReflectliteType.method ReflectliteType.elem #[.agg #[.pointer (some ⟨4, 127, none⟩)]]).run Tryd.prog w = .ok (.iface 165 (.agg #[.pointer (some ⟨4, 116, none⟩)])) w := by kernel_rfl
theorem implementsP (w : World) : (ReflectliteType.relation "Implements" ReflectliteType.implements_ #[.agg #[.pointer (some ⟨4, 116, none⟩)], .iface 165 (.agg #[.pointer (some ⟨4, 44, none⟩)])]).run Tryd.prog w = .ok (.bool true) w := by kernel_rfl
theorem valueOfEP (e : Addr) (w : World) : (ReflectliteValue.unpack (.iface 116 (.pointer (some e)))).run Tryd.prog w
    = .ok (.agg #[.pointer (some ⟨4, 116, none⟩), .pointer (some ⟨w.heap.size, 0, none⟩), .int .u64 150]) (w.alloc (.cells #[.pointer (some e)] 116)) := by kernel_rfl
theorem elemOfP (w : World) : (Rtype.elem? 127).run Tryd.prog w = .ok (some 116) w := by kernel_rfl
theorem mkP (p : Addr) (w : World) : (ReflectliteValue.mk 116 p ReflectliteValue.flagAddr).run Tryd.prog w = .ok (.agg #[.pointer (some ⟨4, 116, none⟩), .pointer (some p), .int .u64 406]) w := by kernel_rfl
theorem elemVP (a p : Addr) (W : World) (ha : W.cell? a = some (.pointer (some p))) :
    (ReflectliteValue.method (ReflectliteValue.valueError "reflectlite.Value.Elem" 0) ReflectliteValue.elem #[.agg #[.pointer (some ⟨4, 127, none⟩), .pointer (some a), .int .u64 150]]).run Tryd.prog W
      = .ok (.agg #[.pointer (some ⟨4, 116, none⟩), .pointer (some p), .int .u64 406]) W := by
  rw [rlm]
  simp only [Sem.run_bind, partsP, Result.andThen]
  simp [ReflectliteValue.elem, loadVar, isAgg, underlying, Tryd.underlying127, ha, Result.andThen, elemOfP, mkP]
theorem partsAP (a : Addr) (w : World) : (ReflectliteValue.parts (.agg #[.pointer (some ⟨4, 116, none⟩), .pointer (some a), .int .u64 406])).run Tryd.prog w = .ok (some (116, a, 406)) w := by kernel_rfl
theorem partsEP (a : Addr) (w : World) : (ReflectliteValue.parts (.agg #[.pointer (some ⟨4, 116, none⟩), .pointer (some a), .int .u64 150])).run Tryd.prog w = .ok (some (116, a, 150)) w := by kernel_rfl
theorem directP (w : World) : (Rtype.directlyAssignable 116 116).run Tryd.prog w = .ok true w := by kernel_rfl
theorem setP (ta b e : Addr) (old : Value) (W : World) (hb : W.cell? b = some (.pointer (some e))) (ht : W.cell? ta = some old) (hf : W.frozen? ta = false) :
    (ReflectliteValue.set #[.agg #[.pointer (some ⟨4, 116, none⟩), .pointer (some ta), .int .u64 406], .agg #[.pointer (some ⟨4, 116, none⟩), .pointer (some b), .int .u64 150]]).run Tryd.prog W
      = .ok (.tuple #[]) (W.setCell ta (.pointer (some e))) := by
  rw [rls]
  simp only [Sem.run_bind, partsAP, partsEP, Result.andThen]
  simp [ReflectliteValue.flagAddr, loadVar, isAgg, underlying, Tryd.underlying116, hb, Result.andThen, directP, storeVar, Value.cells, storeCells, Addr.add]
  rw [run_store Tryd.prog W ta _ _ (by rfl)]
  simp [ht, hf]
theorem asgPP (w : World) : (ReflectliteType.relation "AssignableTo" ReflectliteType.assignableTo #[.agg #[.pointer (some ⟨4, 116, none⟩)], .iface 165 (.agg #[.pointer (some ⟨4, 116, none⟩)])]).run Tryd.prog w = .ok (.bool (116 == 116)) w := by kernel_rfl
theorem typeOfP (v : Value) (w : World) : (ReflectliteType.typeOf #[.iface 116 v]).run Tryd.prog w = .ok (.iface 165 (.agg #[.pointer (some ⟨4, 116, none⟩)])) w := by kernel_rfl
set_option maxHeartbeats 4000000 in
set_option maxRecDepth 100000 in
theorem as_P {w : World} {b tb : Nat} {e a : Int} (h : w.heap[b]? = some (.cells #[.int .i64 e, .int .i64 a] 94 (0, 0))) (htb : w.heap[tb]? = some (.cells #[.pointer none] 116 (0, 0))) (pa : Addr) (ha : w.cell? pa = some (.pointer (some ⟨tb, 0, none⟩))) :
    Calls Tryd.prog 98 #[(.iface 116 (.pointer (some ⟨b, 0, none⟩))), .iface 127 (.pointer (some ⟨tb, 0, none⟩)), .agg #[.pointer (some ⟨4, 127, none⟩), .pointer (some pa), .int .u64 150], .iface 165 (.agg #[.pointer (some ⟨4, 116, none⟩)])] w fun ev w' => ev = .returned (.bool true) ∧ Below tb w w' ∧
      w'.heap[tb]? = some (.cells #[.pointer (some ⟨b, 0, none⟩)] 116 (0, 0)) ∧ w'.heap[b]? = some (.cells #[.int .i64 e, .int .i64 a] 94 (0, 0)) := by
  have hTO := @run_callFunc_extern Tryd.prog 108 _ ReflectliteType.typeOf Tryd.func108 (by kernel_rfl) (by kernel_rfl) (by kernel_rfl) (by kernel_rfl)
  have hAS := @run_callFunc_extern Tryd.prog 142 _ (ReflectliteType.relation "AssignableTo" ReflectliteType.assignableTo) Tryd.func142 (by kernel_rfl) (by kernel_rfl) (by kernel_rfl) (by kernel_rfl)
  have hVO := @run_callFunc_extern Tryd.prog 95 _ (fun args => ReflectliteValue.unpack (args.getD 0 (.tuple #[]))) Tryd.func95 (by kernel_rfl) (by kernel_rfl) (by kernel_rfl) (by kernel_rfl)
  have hEL := @run_callFunc_extern Tryd.prog 109 _ (ReflectliteValue.method (ReflectliteValue.valueError "reflectlite.Value.Elem" 0) ReflectliteValue.elem) Tryd.func109 (by kernel_rfl) (by kernel_rfl) (by kernel_rfl) (by kernel_rfl)
  have hSE := @run_callFunc_extern Tryd.prog 110 _ ReflectliteValue.set Tryd.func110 (by kernel_rfl) (by kernel_rfl) (by kernel_rfl) (by kernel_rfl)
  have tP := typeOfP
  have mA := methodAssignableTo
  have aP := asgPP
  go_enter Tryd.func98, Tryd.ntmps98
  go_wp2_with fail
  have hb0 := below_alloc (Below.refl w.heap.size w) (.cells #[.pointer (some ⟨4, 127, none⟩), .pointer (some pa), .int .u64 150] 150)
  have hk0 := blk_new w (.cells #[.pointer (some ⟨4, 127, none⟩), .pointer (some pa), .int .u64 150] 150)
  generalize w.alloc (.cells #[.pointer (some ⟨4, 127, none⟩), .pointer (some pa), .int .u64 150] 150) = W1 at *
  have v0 := blk_cell hk0 0
  have v1 := blk_cell hk0 1
  have v2 := blk_cell hk0 2
  have hlt := blk_lt hk0
  have HB0 := Aside0.mk hb0
  have H := Aside0.mk (blk_below h hb0)
  have HT := Aside0.mk (blk_below htb hb0)
  have HA := Aside0.mk ((hb0.cell (World.block_lt_of_cell? _ _ ha)).trans ha)
  have HL := Aside0.mk (blk_lt htb)
  clear h htb ha hb0 hk0
  go_loop [0] (fun u => u = (.iface 116 (.pointer (some ⟨b, 0, none⟩)))) (fun u => 0)
  case atStart => exact rfl
  case round =>
    obtain rfl := hrel
    have hb := H.out
    have hbl := blk_lt hb
    have htl := blk_lt HT.out
    have el := elemVP pa ⟨tb, 0, none⟩ W1 HA.out
    have vE := valueOfEP ⟨b, 0, none⟩ W1
    have st := setP ⟨tb, 0, none⟩ ⟨W1.heap.size, 0, none⟩ ⟨b, 0, none⟩ (.pointer none) (W1.alloc (.cells #[.pointer (some ⟨b, 0, none⟩)] 116)) (by simp) ((blk_cell (blk_alloc HT.out _) 0).trans rfl) (by have := blk_alloc HT.out (.cells #[.pointer (some ⟨b, 0, none⟩)] 116); simp [World.frozen?, this])
    have HQ : Aside0 (Below tb w ((W1.setCell ⟨tb, 0, none⟩ (.pointer (some ⟨b, 0, none⟩))).alloc (.cells #[.pointer (some ⟨b, 0, none⟩)] 116)) ∧ ((W1.setCell ⟨tb, 0, none⟩ (.pointer (some ⟨b, 0, none⟩))).alloc (.cells #[.pointer (some ⟨b, 0, none⟩)] 116)).heap[tb]? = some (.cells #[.pointer (some ⟨b, 0, none⟩)] 116 (0, 0)) ∧ ((W1.setCell ⟨tb, 0, none⟩ (.pointer (some ⟨b, 0, none⟩))).alloc (.cells #[.pointer (some ⟨b, 0, none⟩)] 116)).heap[b]? = some (.cells #[.int .i64 e, .int .i64 a] 94 (0, 0))) := ⟨by
      have hne : b ≠ tb := by
        rintro rfl
        have h1 := hb
        rw [HT.out] at h1
        simp at h1
      have hb5 : Below tb w (W1.setCell ⟨tb, 0, none⟩ (.pointer (some ⟨b, 0, none⟩))) := (HB0.out.mono (Nat.le_of_lt HL.out)).setCell (p := ⟨tb, 0, none⟩) (Nat.le_refl _) _
      refine ⟨hb5.alloc (Nat.le_of_lt (Nat.lt_of_lt_of_le HL.out hb5.size)) _, blk_alloc (one_setCell HT.out) _, ?_⟩
      refine blk_alloc ?_ _
      rw [Below.heap_setCell _ _ _ _ hne]
      exact hb⟩
    go_wp2
    go_ret
    exact ⟨rfl, HQ.out.1, HQ.out.2⟩
def GlobalAt (w : World) : Prop := w.cell? ⟨2, 0, none⟩ = some (.iface 165 (.agg #[.pointer (some ⟨4, 44, none⟩)]))
theorem global_below {w w' : World} (hg : GlobalAt w) (hb : Below w.heap.size w w') : GlobalAt w' := (hb.cell (p := ⟨2, 0, none⟩) (World.block_lt_of_cell? _ _ hg)).trans hg
set_option maxHeartbeats 4000000 in
set_option maxRecDepth 100000 in
theorem As_P {w : World} {b tb : Nat} {e a : Int} (h : w.heap[b]? = some (.cells #[.int .i64 e, .int .i64 a] 94 (0, 0))) (hg : GlobalAt w) (htb : w.heap[tb]? = some (.cells #[.pointer none] 116 (0, 0))) :
    Calls Tryd.prog 63 #[(.iface 116 (.pointer (some ⟨b, 0, none⟩))), .iface 127 (.pointer (some ⟨tb, 0, none⟩))] w fun ev w' => ev = .returned (.bool true) ∧ Below tb w w' ∧
      w'.heap[tb]? = some (.cells #[.pointer (some ⟨b, 0, none⟩)] 116 (0, 0)) ∧ w'.heap[b]? = some (.cells #[.int .i64 e, .int .i64 a] 94 (0, 0)) := by
  have hVO := @run_callFunc_extern Tryd.prog 95 _ (fun args => ReflectliteValue.unpack (args.getD 0 (.tuple #[]))) Tryd.func95 (by kernel_rfl) (by kernel_rfl) (by kernel_rfl) (by kernel_rfl)
  have hTY := @run_callFunc_extern Tryd.prog 96 _ (ReflectliteValue.methodAny (ReflectliteValue.valueError "reflectlite.Value.Type" 0) (fun t _ _ _ => ReflectliteType.toType t)) Tryd.func96 (by kernel_rfl) (by kernel_rfl) (by kernel_rfl) (by kernel_rfl)
  have hNI := @run_callFunc_extern Tryd.prog 97 _ (ReflectliteValue.method (ReflectliteValue.valueError "reflectlite.Value.IsNil" 0) ReflectliteValue.isNil) Tryd.func97 (by kernel_rfl) (by kernel_rfl) (by kernel_rfl) (by kernel_rfl)
  have hKI := @run_callFunc_extern Tryd.prog 133 _ (ReflectliteType.abiMethod fun t => do pure (.int .u8 (← Rtype.kind t))) Tryd.func133 (by kernel_rfl) (by kernel_rfl) (by kernel_rfl) (by kernel_rfl)
  have hEL := @run_callFunc_extern Tryd.prog 144 _ (ReflectliteType.method ReflectliteType.elem) Tryd.func144 (by kernel_rfl) (by kernel_rfl) (by kernel_rfl) (by kernel_rfl)
  have hIM := @run_callFunc_extern Tryd.prog 145 _ (ReflectliteType.relation "Implements" ReflectliteType.implements_) Tryd.func145 (by kernel_rfl) (by kernel_rfl) (by kernel_rfl) (by kernel_rfl)
  have f6 := valueOfP
  have f7 := typeP
  have mK := methodKind
  have mE := methodElem
  have mI := methodImplements
  have k27 := kindTP
  have k25 := kindEP
  have e27 := elemP
  have i25 := implementsP
  have hlt : 2 < w.heap.size := World.block_lt_of_cell? _ _ hg
  have n8 := isNilP ⟨w.heap.size, 0, none⟩ ⟨tb, 0, none⟩ ((w.alloc (.cells #[.pointer (some ⟨tb, 0, none⟩)] 127)).alloc (.cells #[.pointer (some ⟨4, 127, none⟩), .pointer (some ⟨w.heap.size, 0, none⟩), .int .u64 150] 150)) (by simp)
  have hb2 := below_alloc (below_alloc (Below.refl w.heap.size w) (.cells #[.pointer (some ⟨tb, 0, none⟩)] 127)) (.cells #[.pointer (some ⟨4, 127, none⟩), .pointer (some ⟨w.heap.size, 0, none⟩), .int .u64 150] 150)
  have hg2 := (hb2.cell (p := ⟨2, 0, none⟩) hlt).trans hg
  have hcall := Aside0.mk (as_P (blk_below h hb2) (blk_below htb hb2) ⟨w.heap.size, 0, none⟩ (by simp))
  have HBW := Aside0.mk (hb2.mono (Nat.le_of_lt (blk_lt htb)))
  clear h htb hg hb2
  go_enter Tryd.func63, Tryd.ntmps63
  go_wp2_with (go_at_call 98; refine hcall.out.mono ?_; rintro ev w' ⟨rfl, hq1, hq2⟩)
  go_ret
  exact ⟨rfl, HBW.out.trans hq1, hq2⟩
theorem heap_put2 {w : World} {b : Nat} {p v : Value} {T : TypeId} (h : w.heap[b]? = some (.cells #[p, v] T (0, 0))) (i : Nat) (hi : i < 2) (x : Value) :
    (w.setCell ⟨b, i, none⟩ x).heap[b]? = some (.cells (#[p, v].set! i x) T (0, 0)) := by
  simp [World.setCell, Array.getElem?_modify, h]
set_option maxHeartbeats 2000000 in
set_option maxRecDepth 100000 in
theorem fault_of {w : World} {b : Nat} {e a : Int} (h : w.heap[b]? = some (.cells #[.int .i64 e, .int .i64 a] 94 (0, 0))) (hg : GlobalAt w) :
    Calls Tryd.prog 42 #[(.iface 116 (.pointer (some ⟨b, 0, none⟩)))] w fun ev w' => ev = .returned (.tuple #[.agg #[.int .i64 e, .int .i64 a], .bool true]) ∧ Below w.heap.size w w' := by
  go_enter Tryd.func42, Tryd.ntmps42
  go_wp2_with fail
  have hb0 := below_alloc (below_alloc (Below.refl w.heap.size w) (.cells #[.int .i64 0, .int .i64 0] 94)) (.cells #[.pointer none] 116)
  have hk0 := blk_alloc (blk_new w (.cells #[.int .i64 0, .int .i64 0] 94)) (.cells #[.pointer none] 116)
  have hk1 := blk_new (w.alloc (.cells #[.int .i64 0, .int .i64 0] 94)) (.cells #[.pointer none] 116)
  rw [show (w.alloc (.cells #[.int .i64 0, .int .i64 0] 94)).heap.size = w.heap.size + 1 from by simp] at hk1
  generalize (w.alloc (.cells #[.int .i64 0, .int .i64 0] 94)).alloc (.cells #[.pointer none] 116) = W0 at *
  refine (As_P (blk_below h hb0) (global_below hg hb0) hk1).mono ?_
  rintro ev w2 ⟨rfl, hb2, hx1, hx2⟩
  have hrb : w2.heap[w.heap.size]? = some (.cells #[.int .i64 0, .int .i64 0] 94 (0, 0)) := by
    rw [hb2.block _ (Nat.lt_succ_self _)]
    exact hk0
  have g0 := blk_cell hrb 0
  have g1 := blk_cell hrb 1
  have hf0 : w2.frozen? ⟨w.heap.size, 0, none⟩ = false := by simp [World.frozen?, hrb]
  have hf1 : w2.frozen? ⟨w.heap.size, 1, none⟩ = false := by simp [World.frozen?, hrb]
  have HB := Aside0.mk (hb0.trans (hb2.mono (Nat.le_succ _)))
  have HRB := Aside0.mk hrb
  clear hb0 hk0 hk1 h hb2 hrb hg
  have y0 := blk_cell hx1 0
  have y1 := blk_cell hx2 0
  have y2 := blk_cell hx2 1
  clear hx1 hx2
  go_wp2
  have hr2 := heap_put2 (heap_put2 HRB.out 0 (by omega) (.int .i64 e)) 1 (by omega) (.int .i64 a)
  exact bodyPost_ret (results_ct (fn := Tryd.f42) rfl _ _ w.heap.size 94 _ (0, 0) _ rfl hr2 Tryd.underlying94 rfl (by kernel_rfl)) rfl ⟨rfl, (HB.out.setCell (p := ⟨w.heap.size, 0, none⟩) (Nat.le_refl _) _).setCell (p := ⟨w.heap.size, 1, none⟩) (Nat.le_refl _) _⟩
theorem fault_Code0 (w : World) : Calls Tryd.prog 23 #[.nilIface] w fun e w' => e = .returned (.int .i64 0) ∧ w' = w := by
  go_enter Tryd.func23, Tryd.ntmps23
  go_wp2
  go_ret
  exact ⟨rfl, rfl⟩
theorem fault_CodeP {w : World} {b : Nat} {e a : Int} (h : w.heap[b]? = some (.cells #[.int .i64 e, .int .i64 a] 94 (0, 0))) (hg : GlobalAt w) :
    Calls Tryd.prog 23 #[(.iface 116 (.pointer (some ⟨b, 0, none⟩)))] w fun ev w' => ev = .returned (.int .i64 e) ∧ Below w.heap.size w w' := by
  have hof := Aside0.mk (fault_of h hg)
  clear h hg
  go_enter Tryd.func23, Tryd.ntmps23
  go_wp2_with (go_at_call 42; refine hof.out.mono ?_; rintro ev w1 ⟨rfl, hb1⟩)
  go_ret
  exact ⟨rfl, below_alloc hb1 _⟩
theorem fault_AtP {w : World} {b : Nat} {e a : Int} (h : w.heap[b]? = some (.cells #[.int .i64 e, .int .i64 a] 94 (0, 0))) (hg : GlobalAt w) :
    Calls Tryd.prog 24 #[(.iface 116 (.pointer (some ⟨b, 0, none⟩)))] w fun ev w' => ev = .returned (.int .i64 a) ∧ Below w.heap.size w w' := by
  have hof := Aside0.mk (fault_of h hg)
  clear h hg
  go_enter Tryd.func24, Tryd.ntmps24
  go_wp2_with (go_at_call 42; refine hof.out.mono ?_; rintro ev w1 ⟨rfl, hb1⟩)
  go_ret
  exact ⟨rfl, below_alloc hb1 _⟩
/-- An error's number; its place. -/
theorem err_Code {w : World} {v : Value} {e a : Int} (h : ErrIs w v e a) (hg : GlobalAt w) : Calls Tryd.prog 23 #[v] w fun ev w' => ev = .returned (.int .i64 e) ∧ Below w.heap.size w w' := by
  rcases h with ⟨rfl, rfl⟩ | ⟨h0, b, rfl, hb⟩
  · exact (fault_Code0 w).mono fun ev w' ⟨he, hw⟩ => ⟨he, hw ▸ Below.refl _ _⟩
  · exact fault_CodeP hb hg
theorem err_At {w : World} {v : Value} {e a : Int} (h : ErrIs w v e a) (h0 : e ≠ 0) (hg : GlobalAt w) : Calls Tryd.prog 24 #[v] w fun ev w' => ev = .returned (.int .i64 a) ∧ Below w.heap.size w w' := by
  rcases h with ⟨h1, _⟩ | ⟨_, b, rfl, hb⟩
  · exact absurd h1 h0
  · exact fault_AtP hb hg
end Go.Proofs.YtliofoikejdjeaaDoor
/- The row's condition on errors.errorType. -/
namespace Go.Proofs.YtliofoikejdjeaaDoor
open Go.RowKit Go.Proofs.YtliofoikejdjeaaDoorW.PrintWords Go.ChangeShapes Go.WideShapes Go.ChangeAt
set_option linter.unusedVariables false
set_option linter.unusedSimpArgs false
def layErr : List (String × DataW Unit) := [("errors.errorType", Rows.laid_errors_errorType)]
theorem gErr : Tryd.prog.globalNamed "errors.errorType" = some 2 := by kernel_rfl
theorem rtRow : (Tryd.prog.cutTypes.find? (·.1 == "internal/reflectlite.rtype")).map (·.2) = some 165 := by kernel_rfl
theorem oneRow : ((List.range Tryd.prog.types.size).filter fun t => Tryd.prog.rowNamed t [101, 114, 114, 111, 114]) = [44] := by kernel_rfl
theorem err_of_laid {W : World} (h : laidMetH Tryd.prog layErr W) : GlobalAt W := by
  have h' : laidMet Tryd.prog [] W ∧ handlesMet Tryd.prog layErr W := h
  obtain ⟨name, u, ty, e1, e2, e3, e4, e5⟩ := h'.2 _ (List.mem_singleton.2 rfl)
  have en : name = [101, 114, 114, 111, 114] := (Option.some.inj e1).symm
  subst en
  obtain rfl := Option.some.inj (rtRow.symm.trans e2)
  have hm : ty ∈ (List.range Tryd.prog.types.size).filter fun t => Tryd.prog.rowNamed t [101, 114, 114, 111, 114] := List.mem_filter.2 ⟨List.mem_range.2 e3, e4⟩
  rw [oneRow] at hm
  obtain rfl := List.mem_singleton.1 hm
  have hh : typeHandle Tryd.prog 44 = .pointer (some ⟨4, 44, none⟩) := by kernel_rfl
  rw [hh] at e5
  show W.cell? _ = _
  simpa using World.var?_cell gErr e5 0
theorem err_door (os : Os) (args : Array Value) : laidMetH Tryd.prog layErr ((World.doorLaid Tryd.prog 400 os).forCall (fun _ _ => 0) ⟨#[], args, []⟩).memory :=
  laidMetH_of_parts (laidMet_nil _ _) (by kernel_rfl)
end Go.Proofs.YtliofoikejdjeaaDoor
/- gtok: comments, marks. -/
namespace Go.Proofs.YtliofoikejdjeaaDoor
open Go.RowKit Go.Proofs.YtliofoikejdjeaaDoorW.PrintWords
set_option linter.unusedVariables false
set_option linter.unusedSimpArgs false
theorem byteN_lt {s : ByteArray} {i : Nat} (h : byteN s i ≠ 0) : i < s.size := by
  unfold byteN at h
  split at h
  · assumption
  · exact absurd rfl h
set_option maxHeartbeats 1000000 in
theorem gtok_comment (s : ByteArray) (hs : s.size ≤ 8192) (a : Nat) (ha : a < s.size) (hx : s[a]'ha = 47) {w : World} (hm : MxAt w) :
    Calls Tryd.prog 76 #[.string s, .int .i64 a] w fun e w' => ∃ v, e = .returned (.tuple #[.int .i64 (commentS s a).1, v]) ∧ ErrIs w' v (commentS s a).2.1 (commentS s a).2.2 ∧ Below w.heap.size w w' := by
  have hp := Tryd.strings_HasPrefix (s.extract a s.size) ⟨#[47, 42]⟩ w
  rw [extract_list, show (⟨#[47, 42]⟩ : ByteArray).data.toList = [47, 42] from rfl, prefix2 ha 47 42 hx] at hp
  unfold commentS
  by_cases h1 : byteN s (a + 1) = 42
  · have hlt : a + 1 < s.size := byteN_lt (by omega)
    rw [show decide (byteN s (a + 1) = (42 : UInt8).toNat ∧ a + 1 < s.size) = true from by simp [hlt]; exact h1] at hp
    simp only [if_pos h1]
    obtain ⟨m, hm⟩ := hm
    have hi := Tryd.strings_Index (s.extract (a + 2) s.size) ⟨#[42, 47]⟩ m w (by rw [ByteArray.size_extract]; omega) hm
    rw [extract_list, show (⟨#[42, 47]⟩ : ByteArray).data.toList = [42, 47] from rfl] at hi
    have hle : Lib.index (s.data.toList.drop (a + 2)) [42, 47] ≤ 8192 := by
      have := Lib.index_le (s.data.toList.drop (a + 2)) [42, 47]
      rw [List.length_drop, data_length] at this
      omega
    generalize Lib.index (s.data.toList.drop (a + 2)) [42, 47] = n at *
    clear hm hx h1
    have hz : ¬ (s.size : Int) < (a : Int) + 2 := by omega
    by_cases h2 : n < 0
    · simp only [if_pos h2]
      go_enter Tryd.func76, Tryd.ntmps76
      go_wp2_with (first | (go_at_call 101; refine hp.mono ?_; rintro e w' ⟨rfl, rfl⟩) | (go_at_call 102; refine hi.mono ?_; rintro e w' ⟨rfl, rfl⟩) | (go_at_call 39; refine (fault_New _ _ _ (by decide)).mono ?_; rintro e w1 ⟨v, rfl, hv, hb1⟩))
      go_ret2
      exact ⟨_, rfl, hv, hb1⟩
    · simp only [if_neg h2]
      have h3 : 0 ≤ n := by omega
      go_enter Tryd.func76, Tryd.ntmps76
      go_wp2_with (first | (go_at_call 101; refine hp.mono ?_; rintro e w' ⟨rfl, rfl⟩) | (go_at_call 102; refine hi.mono ?_; rintro e w' ⟨rfl, rfl⟩))
      go_ret2
      exact ⟨_, rfl, .inl ⟨rfl, rfl⟩, Below.refl _ _⟩
  · rw [show decide (byteN s (a + 1) = (42 : UInt8).toNat ∧ a + 1 < s.size) = false from by simp; exact fun h => absurd h h1] at hp
    simp only [if_neg h1]
    clear hm hx h1
    go_enter Tryd.func76, Tryd.ntmps76
    go_wp2_with (first | (go_at_call 101; refine hp.mono ?_; rintro e w' ⟨rfl, rfl⟩) | (go_at_call 39; refine (fault_New _ _ _ (by decide)).mono ?_; rintro e w1 ⟨v, rfl, hv, hb1⟩))
    go_ret2
    exact ⟨_, rfl, hv, hb1⟩
theorem span_list (s : ByteArray) (a n : Nat) : (s.extract a (a + n)).data.toList = (s.data.toList.drop a).take n := by
  rw [ByteArray.data_extract, Array.toList_extract, List.extract_eq_take_drop, Nat.add_sub_cancel_left]
theorem letter_pred (w : World) : PredV w (.func (.func 80) #[] #[]) Vu8 letterB := ⟨_, _, rfl, fun _ _ => by kernel_rfl, fun W x v _ hv => by
  obtain rfl : v = .int .u8 x.toNat := hv
  exact (gtok_letter x W).mono fun e w' ⟨he, hw⟩ => ⟨he, hw ▸ Below.refl _ _⟩⟩
theorem white_pred (w : World) : PredV w (.func (.func 74) #[] #[]) Vu8 whiteB := ⟨_, _, rfl, fun _ _ => by kernel_rfl, fun W x v _ hv => by
  obtain rfl : v = .int .u8 x.toNat := hv
  exact (gtok_white x W).mono fun e w' ⟨he, hw⟩ => ⟨he, hw ▸ Below.refl _ _⟩⟩
set_option maxHeartbeats 2000000 in
theorem gtok_mark (s : ByteArray) (hs : s.size ≤ 8192) (a : Nat) (ha : a < s.size) (hx : s[a]'ha = 37) (w : World) :
    Calls Tryd.prog 78 #[.string s, .int .i64 a] w fun e w' => ∃ v, e = .returned (.tuple #[.int .i64 (markS s a).1, .int .i64 (markS s a).2.1, v]) ∧ ErrIs w' v (markS s a).2.2.1 (markS s a).2.2.2 ∧ Below w.heap.size w w' := by
  have hp := Tryd.strings_HasPrefix (s.extract a s.size) ⟨#[37, 37]⟩ w
  rw [extract_list, show (⟨#[37, 37]⟩ : ByteArray).data.toList = [37, 37] from rfl, prefix2 ha 37 37 hx] at hp
  unfold markS
  by_cases h1 : byteN s (a + 1) = 37
  · have hlt : a + 1 < s.size := byteN_lt (by omega)
    rw [show decide (byteN s (a + 1) = (37 : UInt8).toNat ∧ a + 1 < s.size) = true from by simp [hlt]; exact h1] at hp
    simp only [if_pos h1]
    clear hx h1
    go_enter Tryd.func78, Tryd.ntmps78
    go_wp2_with (go_at_call 101; refine hp.mono ?_; rintro e w' ⟨rfl, rfl⟩)
    go_ret3
    exact ⟨_, rfl, .inl ⟨rfl, rfl⟩, Below.refl _ _⟩
  · rw [show decide (byteN s (a + 1) = (37 : UInt8).toNat ∧ a + 1 < s.size) = false from by simp; exact fun h => absurd h h1] at hp
    simp only [if_neg h1]
    have hsp := gtok_span s (by omega) (a + 1) (by omega) letterB _ w (letter_pred w)
    have hle := spanS_le letterB s (a + 1) (by omega)
    rw [show (((a + 1 : Nat) : Int)) = (a : Int) + 1 from by omega] at hsp
    have hsl := span_list s (a + 1) (spanS letterB s (a + 1))
    generalize spanS letterB s (a + 1) = n at *
    rw [← hsl]
    clear hx h1 hsl
    have ht : (s.extract (a + 1) (a + 1 + n)).toList = (s.extract (a + 1) (a + 1 + n)).data.toList := ByteArray.toList_eq ..
    obtain ⟨t, ht'⟩ : ∃ t, (s.extract (a + 1) (a + 1 + n)).data.toList = t := ⟨_, rfl⟩
    rw [ht'] at ht ⊢
    clear ht'
    have hz1 : ¬ (s.size : Int) < (a : Int) + 1 + (n : Int) := by omega
    have hz2 : ¬ (a : Int) + 1 + (n : Int) < (a : Int) + 1 := by omega
    by_cases h2 : t = [116, 111, 107, 101, 110]
    · simp only [if_pos h2]
      go_enter Tryd.func78, Tryd.ntmps78
      go_wp2_with (first | (go_at_call 101; refine hp.mono ?_; rintro e w' ⟨rfl, rfl⟩) | (go_at_call 75; refine hsp.mono ?_; rintro e w' ⟨rfl, hb⟩))
      go_ret3
      exact ⟨_, rfl, .inl ⟨rfl, rfl⟩, hb⟩
    · have q1 : (t == [116, 111, 107, 101, 110]) = false := by simpa using h2
      simp only [if_neg h2]
      clear h2
      by_cases h3 : t = [115, 116, 97, 114, 116]
      · simp only [if_pos h3]
        go_enter Tryd.func78, Tryd.ntmps78
        go_wp2_with (first | (go_at_call 101; refine hp.mono ?_; rintro e w' ⟨rfl, rfl⟩) | (go_at_call 75; refine hsp.mono ?_; rintro e w' ⟨rfl, hb⟩))
        go_ret3
        exact ⟨_, rfl, .inl ⟨rfl, rfl⟩, hb⟩
      · have q2 : (t == [115, 116, 97, 114, 116]) = false := by simpa using h3
        simp only [if_neg h3]
        clear h3
        go_enter Tryd.func78, Tryd.ntmps78
        go_wp2_with (first | (go_at_call 101; refine hp.mono ?_; rintro e w' ⟨rfl, rfl⟩) | (go_at_call 75; refine hsp.mono ?_; rintro e w' ⟨rfl, hb⟩) | (go_at_call 39; refine (fault_New _ _ _ (by decide)).mono ?_; rintro e w1 ⟨v, rfl, hv, hb1⟩))
        go_ret3
        exact ⟨_, rfl, hv, hb.trans (hb1.mono hb.size)⟩
end Go.Proofs.YtliofoikejdjeaaDoor
/- gtok.one. -/
namespace Go.Proofs.YtliofoikejdjeaaDoor
open Go.RowKit Go.Proofs.YtliofoikejdjeaaDoorW.PrintWords
set_option linter.unusedVariables false
set_option linter.unusedSimpArgs false
theorem u8_ne {c : UInt8} {k : Nat} (h : ¬ c.toNat = k) : ((c.toNat : Int) == (k : Int)) = false := beq_false_of_ne (by omega)
theorem u8_eq {c : UInt8} {k : Nat} (h : c.toNat = k) : ((c.toNat : Int) == (k : Int)) = true := by rw [h]; simp
set_option maxHeartbeats 4000000 in
theorem gtok_one (s : ByteArray) (hs : s.size ≤ 8192) (a : Nat) (ha : a < s.size) {w : World} (hm : MxAt w) :
    Calls Tryd.prog 54 #[.string s, .int .i64 a] w fun e w' => ∃ v, e = .returned (.tuple #[.int .i64 (oneS s a).1, .int .i64 (oneS s a).2.1, v]) ∧ ErrIs w' v (oneS s a).2.2.1 (oneS s a).2.2.2 ∧ Below w.heap.size w w' := by
  unfold oneS
  simp only [dif_pos ha]
  have hw := gtok_white (s[a]'ha) w
  by_cases h1 : whiteB (s[a]'ha) = true
  · simp only [if_pos h1]
    rw [h1] at hw
    have hsp := gtok_span s (by omega) a (by omega) whiteB _ w (white_pred w)
    generalize spanS whiteB s a = n at *
    clear hm h1
    go_enter Tryd.func54, Tryd.ntmps54
    go_wp2_with (first | (go_at_call 74; refine hw.mono ?_; rintro e w' ⟨rfl, rfl⟩) | (go_at_call 75; refine hsp.mono ?_; rintro e w' ⟨rfl, hb⟩))
    go_ret3
    exact ⟨_, rfl, .inl ⟨rfl, rfl⟩, hb⟩
  · simp only [if_neg h1]
    rw [Bool.not_eq_true] at h1
    rw [h1] at hw
    clear h1
    by_cases h2 : (s[a]'ha).toNat = 47
    · simp only [if_pos h2]
      have hc := gtok_comment s hs a ha (UInt8.toNat_inj.1 h2) hm
      have q2 := u8_eq h2
      generalize commentS s a = r at *
      obtain ⟨n, c, p⟩ := r
      clear hm h2
      go_enter Tryd.func54, Tryd.ntmps54
      go_wp2_with (first | (go_at_call 74; refine hw.mono ?_; rintro e w' ⟨rfl, rfl⟩) | (go_at_call 76; refine hc.mono ?_; rintro e w1 ⟨v, rfl, hv, hb⟩))
      go_ret3
      exact ⟨_, rfl, hv, hb⟩
    · simp only [if_neg h2]
      have q2 := u8_ne h2
      clear h2
      by_cases h3 : (s[a]'ha).toNat = 39
      · simp only [if_pos h3]
        have hc := gtok_quoted s (by omega) a ha w
        have q3 := u8_eq h3
        generalize quotedS s a = r at *
        obtain ⟨n, c, p⟩ := r
        clear hm h3
        go_enter Tryd.func54, Tryd.ntmps54
        go_wp2_with (first | (go_at_call 74; refine hw.mono ?_; rintro e w' ⟨rfl, rfl⟩) | (go_at_call 77; refine hc.mono ?_; rintro e w1 ⟨v, rfl, hv, hb⟩))
        go_ret3
        exact ⟨_, rfl, hv, hb⟩
      · simp only [if_neg h3]
        have q3 := u8_ne h3
        clear h3
        by_cases h4 : (s[a]'ha).toNat = 37
        · simp only [if_pos h4]
          have hc := gtok_mark s hs a ha (UInt8.toNat_inj.1 h4) w
          have q4 := u8_eq h4
          generalize markS s a = r at *
          obtain ⟨k, n, c, p⟩ := r
          clear hm h4
          go_enter Tryd.func54, Tryd.ntmps54
          go_wp2_with (first | (go_at_call 74; refine hw.mono ?_; rintro e w' ⟨rfl, rfl⟩) | (go_at_call 78; refine hc.mono ?_; rintro e w1 ⟨v, rfl, hv, hb⟩))
          go_ret3
          exact ⟨_, rfl, hv, hb⟩
        · simp only [if_neg h4]
          have q4 := u8_ne h4
          clear h4
          have hcl := fun W => char_Class (s[a]'ha) W
          by_cases h5 : cls (s[a]'ha).toNat = 4
          · simp only [if_pos h5]
            rw [h5] at hcl
            have hsp := gtok_span s (by omega) a (by omega) letterB _ w (letter_pred w)
            generalize spanS letterB s a = n at *
            clear hm h5
            by_cases h6 : 24 < n
            · simp only [if_pos h6]
              have h6z : (24 : Int) < (n : Int) := by omega
              go_enter Tryd.func54, Tryd.ntmps54
              go_wp2_with (first | (go_at_call 74; refine hw.mono ?_; rintro e w' ⟨rfl, rfl⟩) | (go_at_call 79; refine (hcl _).mono ?_; rintro e w' ⟨rfl, rfl⟩) | (go_at_call 75; refine hsp.mono ?_; rintro e w' ⟨rfl, hb⟩) | (go_at_call 39; refine (fault_New _ _ _ (by decide)).mono ?_; rintro e w1 ⟨v, rfl, hv, hb1⟩))
              go_ret3
              exact ⟨_, rfl, hv, hb.trans (hb1.mono hb.size)⟩
            · simp only [if_neg h6]
              have h6z : ¬ (24 : Int) < (n : Int) := by omega
              go_enter Tryd.func54, Tryd.ntmps54
              go_wp2_with (first | (go_at_call 74; refine hw.mono ?_; rintro e w' ⟨rfl, rfl⟩) | (go_at_call 79; refine (hcl _).mono ?_; rintro e w' ⟨rfl, rfl⟩) | (go_at_call 75; refine hsp.mono ?_; rintro e w' ⟨rfl, hb⟩))
              go_ret3
              exact ⟨_, rfl, .inl ⟨rfl, rfl⟩, hb⟩
          · simp only [if_neg h5]
            have q5 : (cls (s[a]'ha).toNat == 4) = false := beq_false_of_ne h5
            have hsg := fun W => gtok_sign (s[a]'ha) W
            generalize cls (s[a]'ha).toNat = cl at *
            generalize signS (s[a]'ha).toNat = k at *
            clear hm h5
            by_cases h6 : k = 0
            · subst h6
              simp only [ne_eq, not_true_eq_false, if_false]
              go_enter Tryd.func54, Tryd.ntmps54
              go_wp2_with (first | (go_at_call 74; refine hw.mono ?_; rintro e w' ⟨rfl, rfl⟩) | (go_at_call 79; refine (hcl _).mono ?_; rintro e w' ⟨rfl, rfl⟩) | (go_at_call 81; refine (hsg _).mono ?_; rintro e w' ⟨rfl, rfl⟩) | (go_at_call 39; refine (fault_New _ _ _ (by decide)).mono ?_; rintro e w1 ⟨v, rfl, hv, hb1⟩))
              go_ret3
              exact ⟨_, rfl, hv, hb1⟩
            · simp only [ne_eq, h6, not_false_eq_true, if_true]
              have q6 : (k != 0) = true := by simpa using h6
              clear h6
              go_enter Tryd.func54, Tryd.ntmps54
              go_wp2_with (first | (go_at_call 74; refine hw.mono ?_; rintro e w' ⟨rfl, rfl⟩) | (go_at_call 79; refine (hcl _).mono ?_; rintro e w' ⟨rfl, rfl⟩) | (go_at_call 81; refine (hsg _).mono ?_; rintro e w' ⟨rfl, rfl⟩))
              go_ret3
              exact ⟨_, rfl, .inl ⟨rfl, rfl⟩, Below.refl _ _⟩
end Go.Proofs.YtliofoikejdjeaaDoor
/- gtok.All. -/
namespace Go.Proofs.YtliofoikejdjeaaDoor
open Go.RowKit Go.Proofs.YtliofoikejdjeaaDoorW.PrintWords
set_option linter.unusedVariables false
set_option linter.unusedSimpArgs false
theorem infoTok : (Tryd.prog.info? 66).map (fun i => (i.zero, i.size, i.bytes)) = some (some (.agg #[.int .i64 0, .string ⟨#[]⟩, .int .i64 0]), 3, 32) := by kernel_rfl
def kTk : Kd Tk := Kd.iso (Kd.pair (Kd.int .i64) (Kd.pair Kd.string (Kd.int .i64))) (fun x => (x.k, x.s, x.at_))
theorem kTk_M {w : World} {base : Nat} {ok : Nat → Prop} (x : Tk) : kTk.M w base ok x [.int .i64 x.k, .string x.s, .int .i64 x.at_] := ⟨[.int .i64 x.k], [.string x.s, .int .i64 x.at_], rfl, rfl, [.string x.s], [.int .i64 x.at_], rfl, rfl, rfl⟩
theorem kTk_open {w : World} {x : Tk} {cs : List Value} (h : kTk.K w x cs) : cs = [.int .i64 x.k, .string x.s, .int .i64 x.at_] := by
  obtain ⟨c0, c1, rfl, h0, c2, c3, rfl, h2, h3⟩ := h
  have e0 : c0 = [.int .i64 x.k] := h0
  have e2 : c2 = [.string x.s] := h2
  have e3 : c3 = [.int .i64 x.at_] := h3
  rw [e0, e2, e3]
  rfl
theorem span_pos {p : UInt8 → Bool} {s : ByteArray} {a : Nat} (ha : a < s.size) (h : p (s[a]'ha) = true) : 1 ≤ spanS p s a := by
  unfold spanS
  have hl := data_length s
  rw [List.drop_eq_getElem_cons (by omega), List.takeWhile_cons, show s.data.toList[a]'(by omega) = s[a]'ha from rfl, h]
  simp
theorem index2_le (l : List UInt8) (x y : UInt8) (h : ¬ Lib.index l [x, y] < 0) : Lib.index l [x, y] + 2 ≤ l.length := by
  induction l with
  | nil => simp [Lib.index] at h
  | cons b l ih =>
    have hge := Lib.index_ge l [x, y]
    unfold Lib.index at h ⊢
    by_cases hp : ([x, y] : List UInt8).isPrefixOf (b :: l) = true
    · rw [if_pos hp]
      cases l with
      | nil => simp [List.isPrefixOf] at hp
      | cons c l => simp only [List.length_cons]; omega
    · rw [if_neg hp] at h ⊢
      by_cases hq : (Lib.index l [x, y] == -1) = true
      · rw [if_pos hq] at h
        exact absurd (by decide) h
      · rw [if_neg hq] at h ⊢
        have hq' : Lib.index l [x, y] ≠ -1 := by simpa using hq
        have := ih (by omega)
        simp only [List.length_cons]
        omega
theorem one_bounds {s : ByteArray} {a : Nat} (ha : a < s.size) (h : (oneS s a).2.2.1 = 0) : 1 ≤ (oneS s a).2.1 ∧ (a : Int) + (oneS s a).2.1 ≤ s.size := by
  unfold oneS at h ⊢
  simp only [dif_pos ha] at h ⊢
  by_cases h1 : whiteB (s[a]'ha) = true
  · simp only [if_pos h1]
    have := span_pos ha h1
    have := spanS_le whiteB s a (by omega)
    exact ⟨by omega, by omega⟩
  · simp only [if_neg h1] at h ⊢
    by_cases h2 : (s[a]'ha).toNat = 47
    · simp only [if_pos h2] at h ⊢
      unfold commentS at h ⊢
      by_cases c1 : byteN s (a + 1) = 42
      · simp only [if_pos c1] at h ⊢
        have hlt : a + 1 < s.size := byteN_lt (by omega)
        by_cases c2 : Lib.index (s.data.toList.drop (a + 2)) [42, 47] < 0
        · simp [if_pos c2] at h
        · simp only [if_neg c2]
          have := index2_le _ _ _ c2
          rw [List.length_drop, data_length] at this
          exact ⟨by omega, by omega⟩
      · simp [if_neg c1] at h
    · simp only [if_neg h2] at h ⊢
      by_cases h3 : (s[a]'ha).toNat = 39
      · simp only [if_pos h3] at h ⊢
        unfold quotedS at h ⊢
        by_cases c1 : s.size ≤ a + (1 + spanS insideB s (a + 1))
        · simp [if_pos c1] at h
        · simp only [if_neg c1] at h ⊢
          by_cases c2 : byteN s (a + (1 + spanS insideB s (a + 1))) ≠ 39 ∨ spanS insideB s (a + 1) = 0
          · simp [if_pos c2] at h
          · simp only [if_neg c2] at h ⊢
            by_cases c3 : 23 ≤ spanS insideB s (a + 1)
            · simp [if_pos c3] at h
            · simp only [if_neg c3]
              exact ⟨by omega, by omega⟩
      · simp only [if_neg h3] at h ⊢
        by_cases h4 : (s[a]'ha).toNat = 37
        · simp only [if_pos h4] at h ⊢
          unfold markS at h ⊢
          by_cases c1 : byteN s (a + 1) = 37
          · simp only [if_pos c1]
            have hlt : a + 1 < s.size := byteN_lt (by omega)
            exact ⟨by omega, by omega⟩
          · simp only [if_neg c1] at h ⊢
            have := spanS_le letterB s (a + 1) (by omega)
            by_cases c2 : (s.data.toList.drop (a + 1)).take (spanS letterB s (a + 1)) = [116, 111, 107, 101, 110]
            · simp only [if_pos c2]
              exact ⟨by omega, by omega⟩
            · simp only [if_neg c2] at h ⊢
              by_cases c3 : (s.data.toList.drop (a + 1)).take (spanS letterB s (a + 1)) = [115, 116, 97, 114, 116]
              · simp only [if_pos c3]
                exact ⟨by omega, by omega⟩
              · simp [if_neg c3] at h
        · simp only [if_neg h4] at h ⊢
          by_cases h5 : cls (s[a]'ha).toNat = 4
          · simp only [if_pos h5] at h ⊢
            have := span_pos (p := letterB) ha (by simp [letterB, h5])
            have := spanS_le letterB s a (by omega)
            by_cases c1 : 24 < spanS letterB s a
            · simp [if_pos c1] at h
            · simp only [if_neg c1]
              exact ⟨by omega, by omega⟩
          · simp only [if_neg h5] at h ⊢
            by_cases c1 : signS (s[a]'ha).toNat ≠ 0
            · simp only [if_pos c1]
              exact ⟨by omega, by omega⟩
            · simp [if_neg c1] at h
/-- Tokens so far, and what is left. -/
def comb (acc : List Tk) (r : List Tk × Int × Int) : List Tk × Int × Int := if r.2.1 ≠ 0 then ([], r.2) else (acc ++ r.1, 0, 0)
theorem toks_end {s : ByteArray} {f a : Nat} (h : s.size ≤ a) : toksS s (f + 1) a = ([⟨0, ⟨#[]⟩, s.size⟩], 0, 0) := by rw [toksS, if_pos h]
theorem toks_bad {s : ByteArray} {f a : Nat} (h : a < s.size) (hc : (oneS s a).2.2.1 ≠ 0) : toksS s (f + 1) a = ([], (oneS s a).2.2) := by
  rw [toksS, if_neg (by omega)]
  simp only [if_pos hc]
theorem toks_step {s : ByteArray} {f a : Nat} {acc : List Tk} (h : a < s.size) (hc : (oneS s a).2.2.1 = 0) :
    comb acc (toksS s (f + 1) a) = comb (acc ++ if (oneS s a).1 = 0 then [] else [⟨(oneS s a).1, cutS s a (oneS s a).2.1.toNat, a⟩]) (toksS s f (a + (oneS s a).2.1.toNat)) := by
  rw [toksS, if_neg (by omega)]
  simp only [hc, ne_eq, not_true_eq_false, if_false]
  generalize toksS s f (a + (oneS s a).2.1.toNat) = r
  unfold comb
  by_cases hr : r.2.1 = 0
  · simp only [hr, ne_eq, not_true_eq_false, if_false]
    by_cases hk : (oneS s a).1 = 0
    · simp [hk]
    · simp [hk]
  · simp only [ne_eq, hr, not_false_eq_true, if_true]
theorem comb_nil (r : List Tk × Int × Int) (h : r.2.1 = 0 → r.2 = (0, 0)) (h' : r.2.1 ≠ 0 → r.1 = []) : comb [] r = r := by
  obtain ⟨l, c, p⟩ := r
  unfold comb
  by_cases hc : c = 0
  · subst hc
    have := h rfl
    simp at this
    simp [this]
  · have := h' hc
    simp at this
    simp [hc, this]
theorem toks_form (s : ByteArray) : ∀ (f a : Nat), ((toksS s f a).2.1 = 0 → (toksS s f a).2 = (0, 0)) ∧ ((toksS s f a).2.1 ≠ 0 → (toksS s f a).1 = []) := by
  intro f
  induction f with
  | zero => intro a; simp [toksS]
  | succ f ih =>
    intro a
    by_cases h : s.size ≤ a
    · rw [toks_end h]; simp
    · by_cases hc : (oneS s a).2.2.1 = 0
      · rw [toksS, if_neg h]
        simp only [hc, ne_eq, not_true_eq_false, if_false]
        have := ih (a + (oneS s a).2.1.toNat)
        by_cases hr : (toksS s f (a + (oneS s a).2.1.toNat)).2.1 = 0
        · simp [hr]
        · simp [hr]
      · rw [toks_bad (by omega) hc]
        simp [hc]
end Go.Proofs.YtliofoikejdjeaaDoor
/- gtok.All, walked. -/
namespace Go.Proofs.YtliofoikejdjeaaDoor
open Go.RowKit Go.Proofs.YtliofoikejdjeaaDoorW.PrintWords
set_option linter.unusedVariables false
set_option linter.unusedSimpArgs false
theorem allS_long {s : ByteArray} (h : 8192 < s.size) : allS s = ([], 5, 0) := by unfold allS; rw [if_pos h]
set_option maxHeartbeats 4000000 in
set_option maxRecDepth 100000 in
theorem gtok_All (s : ByteArray) (hs : s.size ≤ 140737488351232) {w : World} (hm : MxAt w) :
    Calls Tryd.prog 37 #[.string s] w fun e w' => ∃ vs v, e = .returned (.tuple #[vs, v]) ∧ ErrIs w' v (allS s).2.1 (allS s).2.2 ∧ Kd.R kTk 66 w' w.heap.size (fun _ => True) vs (allS s).1 ∧ Below w.heap.size w w' := by
  by_cases h1 : 8192 < s.size
  · rw [allS_long h1]
    have h1z : (8192 : Int) < (s.size : Int) := by omega
    clear hm
    go_enter Tryd.func37, Tryd.ntmps37
    go_wp2_with fail
    go_step3
    go_wp2_with (go_at_call 39; refine (fault_New _ _ _ (by decide)).mono ?_; rintro e w1 ⟨v, rfl, hv, hb1⟩)
    (try rw [Exit.noGoto_ret])
    go_ret2
    exact ⟨_, _, rfl, hv, Kd.R_nil _ _ _ _ _, hb1⟩
  · have h1z : ¬ (8192 : Int) < (s.size : Int) := by omega
    have hf := toks_form s (s.size + 1) 0
    have HA : Aside0 (comb [] (toksS s (s.size + 1) 0) = allS s) := ⟨by rw [comb_nil _ hf.1 hf.2]; unfold allS; rw [if_neg h1]⟩
    have HM := Aside0.mk hm
    clear hm hf
    generalize allS s = R at HA ⊢
    have hs8 : s.size ≤ 8192 := by omega
    go_enter Tryd.func37, Tryd.ntmps37
    go_wp2
    go_step3
    go_wp2
    go_step3
    go_wp2
    go_loopg [4, 5] (s.size + 1) (fun gg v4 v5 wr => ∃ (a f : Nat) (acc : List Tk), a ≤ s.size ∧ s.size - a < f ∧ s.size + 1 - a ≤ gg ∧ acc.length ≤ a ∧ v5 = .int .i64 a ∧ Aside0 (comb acc (toksS s f a) = R) ∧ Aside0 (Kd.R kTk 66 wr w.heap.size (fun _ => True) v4 acc) ∧ Aside0 (Below w.heap.size w wr))
    case atStart => exact ⟨0, s.size + 1, [], by omega, by omega, by omega, Nat.le_refl _, rfl, HA, ⟨Kd.R_nil _ _ _ _ _⟩, ⟨Below.refl _ _⟩⟩
    case round =>
      clear HA
      obtain ⟨a, f, acc, ha, hf, hgg, hacc, rfl, HA, HO, HB⟩ := hrel
      by_cases hlt : a < s.size
      · have hltz : ¬ (s.size : Int) ≤ (a : Int) := by omega
        obtain ⟨f, rfl⟩ : ∃ g, f = g + 1 := ⟨f - 1, by omega⟩
        have hone := gtok_one s hs8 a hlt (HM.out.below HB.out)
        by_cases hc : (oneS s a).2.2.1 = 0
        · obtain ⟨hb1, hb2⟩ := one_bounds hlt hc
          have HS := HA.out
          rw [toks_step hlt hc] at HS
          rw [hc] at hone
          obtain ⟨m, hme⟩ : ∃ m : Nat, (oneS s a).2.1 = m := ⟨(oneS s a).2.1.toNat, by omega⟩
          rw [hme] at hone HS hb1 hb2
          rw [Int.toNat_natCast] at HS
          generalize (oneS s a).1 = k at *
          generalize (oneS s a).2.2.2 = p at *
          clear hc HA hme
          have HS := Aside0.mk HS
          have hm1 : 1 ≤ m := by omega
          have hm2 : a + m ≤ s.size := by omega
          by_cases hk : k = 0
          · subst hk
            go_wp2_with (go_at_call 54; refine hone.mono ?_; rintro e w1 ⟨v, rfl, hv, hb3⟩; obtain rfl := hv.nil; clear hv)
            go_roundg (s.size + 1 - (a + m))
            case measure => omega
            case rel =>
              refine ⟨a + m, f, acc, by omega, by omega, by omega, by omega, by go_num, ⟨?_⟩, ⟨Kd.R_below HO.out hb3⟩, ⟨HB.out.trans (hb3.mono HB.out.size)⟩⟩
              have := HS.out
              simpa using this
          · have hk1 : (k != 0) = true := by simpa using hk
            have HK := Aside0.mk hk
            clear hk
            have hz1 : ¬ (s.size : Int) < (a : Int) + (m : Int) := by omega
            have hz2 : ¬ (a : Int) + (m : Int) < (a : Int) := by omega
            go_wp2_with (first
              | (go_at_call 54; refine hone.mono ?_; rintro e w1 ⟨v, rfl, hv, hb3⟩; obtain rfl := hv.nil; clear hv; have HB3 := Aside0.mk hb3; clear hb3)
              | (at_builtin; go_loud (refine Kd.R_append kTk (w0 := w) w.heap.size rfl (.tmp 29) (.tmp 39) 50 66 (.agg #[.int .i64 0, .string ⟨#[]⟩, .int .i64 0]) 32 rfl Tryd.underlying50 infoTok rfl (by decide) (by omega) u4 acc ⟨k, cutS s a m, a⟩ [.int .i64 k, .string (cutS s a m), .int .i64 a] (fun _ => True) (fun _ => False) rfl ?aX ?aP (fun _ hk => hk.elim) ?aF ?aO ?aB ?aS ?aL ?_); (case aX => simp [Act.eval]); (case aP => exact kTk_M _); (case aF => exact (fun _ _ => trivial)); (case aO => exact Kd.R_below HO.out HB3.out); (case aB => exact HB.out.trans (HB3.out.mono HB.out.size)); (case aS => exact (HB.out.trans (HB3.out.mono HB.out.size)).size); (case aL => omega); intro v1 w4 ho hb hg hat))
            go_roundg (s.size + 1 - (a + m))
            case measure => omega
            case rel =>
              refine ⟨a + m, f, acc ++ [⟨k, cutS s a m, a⟩], by omega, by omega, by omega, by rw [List.length_append]; simp only [List.length_cons, List.length_nil]; omega, by go_num, ⟨?_⟩, ⟨ho⟩, ⟨hb⟩⟩
              have := HS.out
              rw [if_neg HK.out] at this
              exact this
        · have HR : Aside0 (R = ([], (oneS s a).2.2)) := ⟨by rw [← HA.out, toks_bad hlt hc]; unfold comb; rw [if_pos hc]⟩
          generalize (oneS s a).1 = k at *
          generalize (oneS s a).2.1 = m at *
          generalize (oneS s a).2.2 = q at *
          obtain ⟨c, p⟩ := q
          have HC := Aside0.mk hc
          clear hc HA
          go_wp2_with (go_at_call 54; refine hone.mono ?_; rintro e w1 ⟨v, rfl, hv, hb3⟩; have HV := Aside0.mk hv; obtain ⟨b, rfl⟩ := hv.some_ HC.out; clear hv)
          (try rw [Exit.noGoto_ret])
          go_ret2
          exact ⟨_, _, rfl, by rw [HR.out]; exact HV.out, by rw [HR.out]; exact Kd.R_nil _ _ _ _ _, HB.out.trans (hb3.mono HB.out.size)⟩
      · have hltz : (s.size : Int) ≤ (a : Int) := by omega
        obtain ⟨f, rfl⟩ : ∃ g, f = g + 1 := ⟨f - 1, by omega⟩
        have HR : Aside0 (R = (acc ++ [⟨0, ⟨#[]⟩, s.size⟩], 0, 0)) := ⟨by rw [← HA.out, toks_end (by omega)]; unfold comb; rw [if_neg (by simp)]⟩
        clear HA
        go_wp2_with (at_builtin; go_loud (refine Kd.R_append kTk (w0 := w) w.heap.size rfl (.tmp 44) (.tmp 48) 50 66 (.agg #[.int .i64 0, .string ⟨#[]⟩, .int .i64 0]) 32 rfl Tryd.underlying50 infoTok rfl (by decide) (by omega) u4 acc ⟨0, ⟨#[]⟩, s.size⟩ [.int .i64 0, .string ⟨#[]⟩, .int .i64 s.size] (fun _ => True) (fun _ => False) rfl ?aX ?aP (fun _ hk => hk.elim) ?aF ?aO ?aB ?aS ?aL ?_); (case aX => simp [Act.eval]); (case aP => exact kTk_M _); (case aF => exact (fun _ _ => trivial)); (case aO => exact HO.out); (case aB => exact HB.out); (case aS => exact HB.out.size); (case aL => omega); intro v1 w4 ho hb hg hat)
        (try rw [Exit.noGoto_ret])
        go_ret2
        exact ⟨_, _, rfl, by rw [HR.out]; exact .inl ⟨rfl, rfl⟩, by rw [HR.out]; exact ho, hb⟩
end Go.Proofs.YtliofoikejdjeaaDoor
/- A region that draws its order and ends in one assignment that waits for all else: XDet's law, the assignment apart: it may write a slot that the others read. -/
namespace Go.Proofs.YtliofoikejdjeaaDoor
open Go
set_option linter.unusedVariables false
set_option linter.unusedSimpArgs false
set_option linter.unnecessarySimpa false
def detOk2 (ops : Array Oper) : Bool :=
  noDup (ops.toList.dropLast.filterMap (·.dst)) &&
  ops.toList.dropLast.all (fun o => !isSel o.op && (o.looksAt ops).all fun t => (List.range (ops.size - 1)).all fun j =>
    (ops[j]?.bind (·.dst)) != some t || o.after.any fun e => Region.binds .any e && e.on == j) &&
  ((ops[ops.size - 1]?).map fun o => (List.range (ops.size - 1)).all fun j => o.after.any fun e => Region.binds .any e && e.on == j).getD false
structure Midway2 (ops : Array Oper) (c a : Act) (listed : Array Bool) : Prop where
  size : a.tmps.size = c.tmps.size
  defers : a.defers = c.defers
  done : ∀ (j : Nat) (o : Oper) t, j < ops.size - 1 → ops[j]? = some o → o.dst = some t → listed.getD j false = true → a.tmps[t]? = c.tmps[t]?
  rest : ∀ t, (∀ (j : Nat) (o : Oper), j < ops.size - 1 → ops[j]? = some o → o.dst ≠ some t) → a.tmps[t]? = c.tmps[t]?
section
variable {P : Program} {ops : Array Oper} {Q : Exit → Act → World → Prop}
theorem drop_get {i : Nat} {o : Oper} (hn : i < ops.size - 1) (hi : ops[i]? = some o) : ops.toList.dropLast[i]? = some o := by
  rw [List.getElem?_dropLast, if_pos (by simpa using hn)]
  simpa using hi
theorem det_reads2 (hck : detOk2 ops = true) {c a : Act} {listed : Array Bool} (hm : Midway2 ops c a listed) {i : Nat} {o : Oper} (hn : i < ops.size - 1) (hi : ops[i]? = some o)
    (hr : ∀ e ∈ o.after, Region.binds .any e = true → listed.getD e.on false = true) : ∀ t ∈ o.looksAt ops, a.tmps[t]? = c.tmps[t]? := by
  intro t ht
  by_cases hw : ∃ (j : Nat) (oj : Oper), j < ops.size - 1 ∧ ops[j]? = some oj ∧ oj.dst = some t
  · obtain ⟨j, oj, hjn, hj, hd⟩ := hw
    refine hm.done j oj t hjn hj hd ?_
    unfold detOk2 at hck
    simp only [Bool.and_eq_true] at hck
    have ho := List.all_eq_true.1 hck.1.2 o (List.mem_of_getElem? (drop_get hn hi))
    have ho2 := List.all_eq_true.1 ((Bool.and_eq_true _ _ ▸ ho).2) t ht
    have ho3 := List.all_eq_true.1 ho2 j (List.mem_range.2 hjn)
    simp only [hj, Option.bind_some, hd, bne_self_eq_false, Bool.false_or] at ho3
    obtain ⟨q, hq, hb⟩ := Array.any_eq_true.1 ho3
    obtain ⟨e, he, hb⟩ : ∃ e, e ∈ o.after ∧ (Region.binds .any e && e.on == j) = true := ⟨o.after[q], Array.getElem_mem hq, hb⟩
    simp only [Bool.and_eq_true, beq_iff_eq] at hb
    rw [← hb.2]
    exact hr e he hb.1
  · exact hm.rest t fun j oj hjn hj hd => hw ⟨j, oj, hjn, hj, hd⟩
theorem midway_put2 (hnd : noDup (ops.toList.dropLast.filterMap (·.dst)) = true) {c a : Act} {listed : Array Bool} (hm : Midway2 ops c a listed) {i : Nat} {o : Oper} (hn : i < ops.size - 1) (hi : ops[i]? = some o) {v : Value}
    (hv : c.put o.dst v = c) : Midway2 ops c (a.put o.dst v) (listed.setIfInBounds i true) := by
  refine ⟨by rw [put_size]; exact hm.size, by rw [← hm.defers]; unfold Act.put; cases o.dst <;> rfl, fun j oj t hjn hj hd hl => ?_, fun t ht => ?_⟩
  · by_cases e : j = i
    · subst e
      obtain rfl : oj = o := Option.some.inj (hj.symm.trans hi)
      rw [hd] at hv ⊢
      by_cases hlt : t < c.tmps.size
      · rw [put_fix hv hlt]
        simp [Act.put, hm.size, hlt]
      · have h1 := put_size a (some t) v
        have h2 := hm.size
        rw [Array.getElem?_eq_none (Nat.le_trans (Nat.le_of_eq (h1.trans h2)) (Nat.le_of_not_lt hlt)), Array.getElem?_eq_none (Nat.le_of_not_lt hlt)]
    · have hne : o.dst ≠ some t := fun h => e (noDup_idx ops.toList.dropLast hnd j i oj o t (drop_get hjn hj) (drop_get hn hi) hd h)
      rw [put_other _ _ _ _ hne]
      refine hm.done j oj t hjn hj hd ?_
      rwa [getD_set_ne false (fun h => e h.symm)] at hl
  · rw [put_other _ _ _ _ (ht i o hn hi)]
    exact hm.rest t ht
theorem det_any2 (hck : detOk2 ops = true) {d c : Act} {Inv : World → Prop} {ol : Oper} {x : Operand} (h0 : 0 < ops.size) (hol : ops[ops.size - 1]? = some ol) (hx : ol.op = .assign x) (hg : ol.guard = none) (hc : d.put ol.dst (d.eval x) = c)
    (hops : ∀ o ∈ ops.toList.dropLast, Det1 P ops d Inv o) (hQ : ∀ W, Inv W → Q .normal c W) (hw : ∀ tm, Region.wanted ol (yielded ops tm) = true)
    (hend : ∀ l : Array Bool, l.size = ops.size → Region.ready .any ops l = [] → ∀ j, j < ops.size → l.getD j false = true) :
    ∀ (fuel : Nat) (listed : Array Bool) (a : Act) (W : World), listed.size = ops.size → listed.getD (ops.size - 1) false = false → Midway2 ops d a listed → Inv W →
      (fuel + (listed.toList.filter id).length = ops.size) → wpAny P .any ops Q fuel listed a W := by
  have hck0 := hck
  unfold detOk2 at hck0
  simp only [Bool.and_eq_true] at hck0
  obtain ⟨⟨hnd, hlooks⟩, hwait⟩ := hck0
  rw [hol] at hwait
  simp only [Option.map_some, Option.getD_some] at hwait
  have fin : ∀ (listed : Array Bool) (a : Act), Midway2 ops d a listed → (∀ j, j < ops.size - 1 → listed.getD j false = true) → a = d := by
    intro listed a hm hall
    have ht : a.tmps = d.tmps := by
      apply Array.ext_getElem?
      intro t
      by_cases hw : ∃ (j : Nat) (oj : Oper), j < ops.size - 1 ∧ ops[j]? = some oj ∧ oj.dst = some t
      · obtain ⟨j, oj, hjn, hj, hd⟩ := hw
        exact hm.done j oj t hjn hj hd (hall j hjn)
      · exact hm.rest t fun j oj hjn hj hd => hw ⟨j, oj, hjn, hj, hd⟩
    obtain ⟨t1, d1⟩ := a
    obtain ⟨t2, d2⟩ := d
    simp only at ht
    have hd := hm.defers
    simp only at hd
    rw [ht, hd]
  have key : ∀ (l : List Bool) (k : Nat) (hk : k < l.length), l[k] = false → ((l.set k true).filter id).length = (l.filter id).length + 1 := by
    intro l
    induction l with
    | nil => intro k hk; simp at hk
    | cons b l ihl =>
      intro k hk hb
      cases k with
      | zero => simp at hb; subst hb; simp
      | succ k =>
        simp at hb hk
        have := ihl k hk hb
        cases b <;> simp [this]
  intro fuel
  induction fuel with
  | zero =>
    intro listed a W hs hl hm hI hf
    exfalso
    have h1 : (listed.toList.filter id).length = listed.toList.length := by simp at hf ⊢; omega
    have hfl := List.length_filter_eq_length_iff.1 h1
    have hj' : ops.size - 1 < listed.size := by omega
    have := hfl (listed[ops.size - 1]'hj') (by simp)
    simp [Array.getD, hj'] at hl this
    rw [hl] at this
    cases this
  | succ fuel ih =>
    intro listed a W hs hl hm hI hf
    refine ⟨fun h => ?_, fun i hi => ?_⟩
    · have := hend listed hs h (ops.size - 1) (by omega)
      rw [hl] at this
      cases this
    obtain ⟨h00, o, ho, hrd⟩ := mem_ready.1 hi
    have hlt : i < ops.size := (Array.getElem?_eq_some_iff.1 ho).1
    have hi' : i < listed.size := by omega
    have hfalse : listed[i] = false := by simpa [Array.getD, hi'] using h00
    have hcount : ((listed.setIfInBounds i true).toList.filter id).length = (listed.toList.filter id).length + 1 := by
      rw [Array.toList_setIfInBounds]
      exact key listed.toList i (by simpa using hi') (by simpa using hfalse)
    by_cases hin : i = ops.size - 1
    · subst hin
      obtain rfl : o = ol := Option.some.inj (ho.symm.trans hol)
      have hall : ∀ j, j < ops.size - 1 → listed.getD j false = true := by
        intro j hj
        have h3 := List.all_eq_true.1 hwait j (List.mem_range.2 hj)
        obtain ⟨q, hq, hb⟩ := Array.any_eq_true.1 h3
        simp only [Bool.and_eq_true, beq_iff_eq] at hb
        rw [← hb.2]
        exact hrd _ (Array.getElem_mem hq) hb.1
      obtain rfl := fin listed a hm hall
      unfold wpOp
      simp only [ho]
      rw [hw, if_pos rfl]
      refine .inl ?_
      unfold Oper.wp
      rw [show execOp a.eval o = pure (.value (a.eval x)) from by unfold execOp; rw [hx]]
      show wpAny P .any ops Q fuel (listed.setIfInBounds (ops.size - 1) true) (a.put o.dst (a.eval x)) W
      rw [hc]
      have hdone : ∀ j, j < ops.size → (listed.setIfInBounds (ops.size - 1) true).getD j false = true := by
        intro j hj
        by_cases e : j = ops.size - 1
        · subst e
          simp [Array.getD, hs, hj]
        · rw [getD_set_ne false (fun h => e h.symm)]
          exact hall j (by omega)
      have hno : Region.ready .any ops (listed.setIfInBounds (ops.size - 1) true) = [] := by
        apply List.eq_nil_iff_forall_not_mem.2
        intro j hj
        obtain ⟨q0, oj, hoj, _⟩ := mem_ready.1 hj
        have hjl : j < ops.size := (Array.getElem?_eq_some_iff.1 hoj).1
        have h1 := hdone j hjl
        have hj' : j < (listed.setIfInBounds (ops.size - 1) true).size := by simp; omega
        simp only [Array.getD, hj', dite_true] at q0 h1
        rw [h1] at q0
        simp at q0
      cases fuel with
      | zero => exact ⟨hno, hQ W hI⟩
      | succ fuel => exact ⟨fun _ => hQ W hI, fun k hk => by rw [hno] at hk; cases hk⟩
    · have hn : i < ops.size - 1 := by omega
      have hsame := det_reads2 hck hm hn ho hrd
      have hmem : o ∈ ops.toList.dropLast := List.mem_of_getElem? (drop_get hn ho)
      have hsel : ∀ cs b, o.op ≠ .select cs b := by
        intro cs b h
        have hoo := List.all_eq_true.1 hlooks o hmem
        simp [h, isSel] at hoo
      have he : execOp a.eval o = execOp d.eval o := execOp_congr o hsel fun y hy => eval_same fun t ht => hsame t (by
        subst ht
        exact List.mem_append_left _ (List.mem_filterMap.2 ⟨.tmp t, by simpa using hy, rfl⟩))
      have hwn : Region.wanted o (yielded ops a.tmps) = Region.wanted o (yielded ops d.tmps) := by
        unfold Region.wanted
        cases hgg : o.guard with
        | none => rfl
        | some gw =>
          obtain ⟨g, want⟩ := gw
          have : yielded ops a.tmps g = yielded ops d.tmps g := by
            unfold yielded
            cases ht : (ops[g]?).bind (·.dst) with
            | none => rfl
            | some t =>
              simp only [Option.bind_some]
              rw [hsame t (by simp [Oper.looksAt, hgg, ht])]
          simp only [this]
      have hD := hops o hmem W hI
      have hnext : ∀ v W', d.put o.dst v = d → Inv W' → wpAny P .any ops Q fuel (listed.setIfInBounds i true) (a.put o.dst v) W' := by
        intro v W' hv hI'
        refine ih _ _ _ (by simpa using hs) ?_ (midway_put2 hnd hm hn ho hv) hI' (by omega)
        rw [getD_set_ne false (fun h => hin h)]
        exact hl
      unfold wpOp
      simp only [ho]
      rw [hwn]
      split
      · rename_i hw
        rw [if_pos hw] at hD
        exact .inl (det_wp he hD hm.defers hnext)
      · rename_i hw
        rw [if_neg hw] at hD
        exact hnext _ _ hD hI
theorem wp_region_det2 {id : Nat} {l : List Oper} {a0 d c : Act} {w : World} {ol : Oper} {x : Operand} (vs : List Value) (Inv : World → Prop) (hm : P.follows .mixedOrders = true) (hck : (detOk2 l.toArray && backOk l.toArray) = true)
    (hol : l.getLast? = some ol) (hx : ol.op = .assign x) (hg : ol.guard = none) (hd : putAll l.dropLast vs a0 = d) (hc : d.put ol.dst (d.eval x) = c)
    (hI : Inv { w with drawn := w.drawn + 1 }) (hops : DetAll P l.toArray d Inv l.dropLast) (hQ : ∀ W, Inv W → Q .normal c W) : (Code.region id l.toArray true).wp P Q a0 w := by
  simp only [Bool.and_eq_true] at hck
  refine wp_region_any hm ?_
  have hne : l ≠ [] := by intro e; rw [e] at hol; simp at hol
  have hlen : 0 < l.length := List.length_pos_iff.2 hne
  refine det_any2 (d := d) (c := c) hck.1 (by simpa using hlen) (by rw [List.getLast?_eq_getElem?] at hol; simpa using hol) hx hg hc (by simpa using detAll_mem hops) hQ (fun tm => by simp [Region.wanted, hg]) (back_ready hck.2) _ _ _ _ (by simp) ?_ ?_ hI (by simp)
  · simp only [Array.getD_eq_getD_getElem?, Array.getElem?_replicate]
    split <;> rfl
  · refine ⟨by rw [← hd, putAll_size], by rw [← hd, putAll_defers], fun j o t hjn hj hdd hl => ?_, fun t ht => ?_⟩
    · simp only [Array.getD_eq_getD_getElem?, Array.getElem?_replicate] at hl
      split at hl <;> simp at hl
    · rw [← hd, putAll_other t l.dropLast vs a0 fun o ho => ?_]
      obtain ⟨j, hj⟩ := List.mem_iff_getElem?.1 ho
      rw [List.getElem?_dropLast] at hj
      split at hj
      · rename_i hjn
        exact ht j o (by simpa using hjn) (by simpa using hj)
      · cases hj
end
theorem putAll_put {o : Oper} {os : List Oper} {v : Value} {vs : List Value} {a a' c : Act} (h1 : a.put o.dst v = a') (h2 : putAll os vs a' = c) : putAll (o :: os) (v :: vs) a = c := by
  rw [putAll, h1]
  exact h2
theorem putAll_nil (a : Act) : putAll [] [] a = a := rfl
end Go.Proofs.YtliofoikejdjeaaDoor
/- gread's reader: what it looks at, what it takes. -/
namespace Go.Proofs.YtliofoikejdjeaaDoor
open Go.RowKit Go.Proofs.YtliofoikejdjeaaDoorW.PrintWords
set_option linter.unusedVariables false
set_option linter.unusedSimpArgs false
/-- Nothing but block b has turned. -/
structure BelowBut (b : Nat) (w w' : World) : Prop where
  os : w'.os = w.os
  tape : w'.tape = w.tape
  output : w'.output = w.output
  size : w.heap.size ≤ w'.heap.size
  block : ∀ k, k < w.heap.size → k ≠ b → w'.heap[k]? = w.heap[k]?
theorem BelowBut.refl (b : Nat) (w : World) : BelowBut b w w := ⟨rfl, rfl, rfl, Nat.le_refl _, fun _ _ _ => rfl⟩
theorem BelowBut.trans {b : Nat} {w w1 w2 : World} (h : BelowBut b w w1) (k : BelowBut b w1 w2) : BelowBut b w w2 :=
  ⟨k.os.trans h.os, k.tape.trans h.tape, k.output.trans h.output, Nat.le_trans h.size k.size, fun i hi hb => (k.block i (Nat.lt_of_lt_of_le hi h.size) hb).trans (h.block i hi hb)⟩
theorem BelowBut.of {b : Nat} {w w1 : World} (h : Below w.heap.size w w1) : BelowBut b w w1 := ⟨h.os, h.tape, h.output, h.size, fun i hi _ => h.block i hi⟩
theorem BelowBut.alloc {b : Nat} {w w1 : World} (h : BelowBut b w w1) (o : Obj) : BelowBut b w (w1.alloc o) := h.trans (.of (below_alloc (Below.refl _ _) o))
theorem BelowBut.drew {b : Nat} {w w1 : World} (h : BelowBut b w w1) : BelowBut b w w1.drew := h.trans (.of (below_drew (Below.refl _ _)))
theorem BelowBut.set {b : Nat} {w w1 : World} (h : BelowBut b w w1) (i : Nat) (v : Value) : BelowBut b w (w1.setCell ⟨b, i, none⟩ v) :=
  ⟨h.os, h.tape, h.output, by simpa using h.size, fun k hk hb => (Below.heap_setCell w1 ⟨b, i, none⟩ v k hb).trans (h.block k hk hb)⟩
/-- A store into a new block. -/
theorem BelowBut.setNew {b g : Nat} {w w1 : World} (h : BelowBut b w w1) (hg : w.heap.size ≤ g) (i : Nat) (v : Value) : BelowBut b w (w1.setCell ⟨g, i, none⟩ v) :=
  ⟨h.os, h.tape, h.output, by simpa using h.size, fun k hk hb => (Below.heap_setCell w1 ⟨g, i, none⟩ v k (fun e : k = g => by omega)).trans (h.block k hk hb)⟩
theorem BelowBut.below {b B : Nat} {w w1 : World} (h : BelowBut b w w1) (hB : B ≤ b) (hs : B ≤ w.heap.size) : Below B w w1 := ⟨h.os, h.tape, h.output, h.size, fun k hk => h.block k (by omega) (by omega)⟩
/-- A token's value. -/
def tkV (t : Tk) : Value := .agg #[.int .i64 t.k, .string t.s, .int .i64 t.at_]
/-- The reader's block: its tokens, which lie below; its other cells. -/
structure RL (W0 w : World) (b : Nat) (l : List Tk) (v1 v2 v3 v4 v5 : Value) : Prop where
  below : Below W0.heap.size W0 w
  hb : W0.heap.size ≤ b
  cells : ∃ ad c, w.heap[b]? = some (.cells #[.slice (some ad) l.length c, v1, v2, v3, v4, v5] 88 (0, 0)) ∧ l.length ≤ c ∧ Kd.C kTk W0 (some ad) l.length l
  pos : 0 < l.length
theorem C_tail {α : Type} {d : Kd α} {w : World} {ad : Addr} {x : α} {l : List α} (h : d.C w (some ad) (x :: l).length (x :: l)) : d.C w (some (ad.add d.sz)) l.length l := by
  obtain ⟨h1, h2, h3⟩ := h
  refine ⟨rfl, by simp only [List.length_cons] at h2; omega, fun hp => ?_⟩
  obtain ⟨ad', e, hr⟩ := h3 (by simp)
  obtain rfl := Option.some.inj e
  refine ⟨_, rfl, fun j p hj => ?_⟩
  obtain ⟨c, hc1, hc2, hc3⟩ := hr (j + 1) p (by simpa using hj)
  refine ⟨c, hc1, hc2, fun i u hu => ?_⟩
  have := hc3 i u hu
  rw [← this]
  rw [Addr.add_add, show d.sz + (j * d.sz + i) = (j + 1) * d.sz + i from by rw [Nat.add_mul, Nat.one_mul]; omega]
theorem tok_at {w : World} {ad : Addr} {x : Tk} {l : List Tk} (h : kTk.C w (some ad) (x :: l).length (x :: l)) : w.cell? ad = some (.int .i64 x.k) ∧ w.cell? ⟨ad.block, ad.off + 1, none⟩ = some (.string x.s) ∧ w.cell? ⟨ad.block, ad.off + 2, none⟩ = some (.int .i64 x.at_) := by
  obtain ⟨_, _, h3⟩ := h
  obtain ⟨ad', e, hr⟩ := h3 (by simp)
  obtain rfl := Option.some.inj e
  obtain ⟨c, hc1, hc2, hc3⟩ := hr 0 x rfl
  have e := kTk_open hc2
  subst e
  have k0 := hc3 0 _ rfl
  have k1 := hc3 1 _ rfl
  have k2 := hc3 2 _ rfl
  rw [show (0 : Nat) * kTk.sz + 1 = 0 + 1 from rfl, add_field _ _ _ (by omega)] at k1
  rw [show (0 : Nat) * kTk.sz + 2 = 0 + 2 from rfl, add_field _ _ _ (by omega)] at k2
  have e0 : ad.add (0 * kTk.sz + 0) = ad := by
    show ad.add 0 = ad
    unfold Addr.add
    split <;> simp_all
  have e1 : ad.add 0 = ad := by
    unfold Addr.add
    split <;> simp_all
  rw [e0] at k0
  rw [e1] at k1 k2
  exact ⟨k0, k1, k2⟩
theorem RL.head {W0 w : World} {b : Nat} {l : List Tk} {v1 v2 v3 v4 v5 : Value} (h : RL W0 w b l v1 v2 v3 v4 v5) : ∃ ad c, w.cell? ⟨b, 0, none⟩ = some (.slice (some ad) l.length c) ∧ l.length ≤ c ∧ w.cell? ad = some (.int .i64 (hd l).k) ∧ w.cell? ⟨ad.block, ad.off + 1, none⟩ = some (.string (hd l).s) ∧ w.cell? ⟨ad.block, ad.off + 2, none⟩ = some (.int .i64 (hd l).at_) := by
  obtain ⟨ad, c, hk, hc, hC⟩ := h.cells
  refine ⟨ad, c, (blk_cell hk 0).trans rfl, hc, ?_⟩
  cases l with
  | nil => exact absurd h.pos (Nat.lt_irrefl 0)
  | cons x l => exact tok_at (Kd.C_below hC h.below)
theorem rd_is {W0 w : World} {b : Nat} {l : List Tk} {v1 v2 v3 v4 v5 : Value} (h : RL W0 w b l v1 v2 v3 v4 v5) (k : Int) :
    Calls Tryd.prog 55 #[.pointer (some ⟨b, 0, none⟩), .int .i64 k] w fun e w' => e = .returned (.bool ((hd l).k == k)) ∧ w' = w := by
  obtain ⟨ad, c, c0, hc, k0, k1, k2⟩ := h.head
  have hp := h.pos
  clear h
  generalize (hd l).k = x at *
  go_enter Tryd.func55, Tryd.ntmps55
  go_wp2
  go_ret
  exact ⟨rfl, rfl⟩
theorem rd_symbol {W0 w : World} {b : Nat} {l : List Tk} {v1 v2 v3 v4 v5 : Value} (h : RL W0 w b l v1 v2 v3 v4 v5) :
    Calls Tryd.prog 82 #[.pointer (some ⟨b, 0, none⟩)] w fun e w' => e = .returned (.bool (symB (hd l))) ∧ w' = w := by
  have h1 := rd_is h 1
  have h2 := rd_is h 2
  have HS : Aside0 (symB (hd l) = (((hd l).k == 1) || ((hd l).k == 2))) := ⟨by unfold symB; rw [Bool.eq_iff_iff]; simp⟩
  clear h
  generalize symB (hd l) = sb at *
  cases hk : ((hd l).k == 1) with
  | true =>
    rw [hk] at h1
    have HK := Aside0.mk hk
    clear hk
    go_enter Tryd.func82, Tryd.ntmps82
    go_wp2_with (go_at_call 55; refine h1.mono ?_; rintro e w' ⟨rfl, rfl⟩)
    go_ret
    exact ⟨rbool (by rw [HS.out, HK.out]; rfl), rfl⟩
  | false =>
    rw [hk] at h1
    have HK := Aside0.mk hk
    clear hk
    obtain ⟨y, hy⟩ : ∃ y, ((hd l).k == 2) = y := ⟨_, rfl⟩
    rw [hy] at h2 HS
    clear hy
    go_enter Tryd.func82, Tryd.ntmps82
    go_wp2_with (first | (go_at_call 55; ((with_reducible refine h1.mono ?_); rintro e w' ⟨rfl, rfl⟩)) | (go_at_call 55; ((with_reducible refine h2.mono ?_); rintro e w' ⟨rfl, rfl⟩)))
    go_ret
    exact ⟨rbool (by rw [HS.out, HK.out]; rfl), rfl⟩
/-- What a reader gives up with. -/
def wrongV (e p : Int) : Value := .iface 82 (.agg #[.int .i64 e, .int .i64 p])
def Panics (f : Ft) (ev : Ending) : Prop := ∃ older, ev = .panicked ({ v := wrongV f.1 f.2, recovered := false } :: older) ∧ older.dropWhile (fun x => !x.goexit) = []
theorem gread_fail (e p : Int) (w : World) : Calls Tryd.prog 88 #[.int .i64 e, .int .i64 p] w fun ev w' => Panics (e, p) ev ∧ w' = w := by
  go_enter Tryd.func88, Tryd.ntmps88
  go_wp2
  exact ⟨rfl, ⟨[], rfl, rfl⟩, rfl⟩
set_option maxHeartbeats 1000000 in
theorem rd_take {W0 w : World} {b : Nat} {x : Tk} {l : List Tk} {v1 v2 v3 v4 v5 : Value} (h : RL W0 w b (x :: l) v1 v2 v3 v4 v5) (hl : 0 < l.length) :
    Calls Tryd.prog 57 #[.pointer (some ⟨b, 0, none⟩)] w fun e w' => e = .returned (tkV x) ∧ RL W0 w' b l v1 v2 v3 v4 v5 ∧ BelowBut b w w' := by
  obtain ⟨ad, c, hk, hc, hC⟩ := h.cells
  obtain ⟨k0, k1, k2⟩ := tok_at (Kd.C_below hC h.below)
  have HH := Aside0.mk h
  have HC := Aside0.mk (C_tail hC)
  have c0 := (blk_cell hk 0).trans rfl
  have cf := blk_frozen hk 0
  have HK := Aside0.mk hk
  have hlt := blk_lt hk
  have hlt2 := World.block_lt_of_cell? _ _ k0
  simp only [List.length_cons] at hc c0
  clear h hC hk
  go_enter Tryd.func57, Tryd.ntmps57
  go_wp2
  refine bodyPost_ret (v := tkV x) (by simp [results, Tryd.results57, go_sem, tkV]) rfl ⟨rfl, ?_, ?_⟩
  · have hb : Below W0.heap.size W0 (((w.setCell ⟨b, 0, none⟩ (.slice (some ⟨ad.block, ad.off + 3, none⟩) l.length (c - 1))).alloc (.cells #[.int .i64 x.k, .string x.s, .int .i64 x.at_] 66)).alloc (.cells #[.int .i64 x.k, .string x.s, .int .i64 x.at_] 66)) :=
      ((HH.out.below.setCell (p := ⟨b, 0, none⟩) HH.out.hb _).alloc (by simpa using HH.out.below.size) _).alloc (by have := HH.out.below.size; simp; omega) _
    refine ⟨hb, HH.out.hb, ⟨_, _, blk_alloc (blk_alloc (blk_set HK.out 0 _) _) _, by omega, HC.out⟩, hl⟩
  · exact ((((BelowBut.refl b w).set 0 _).alloc _).alloc _)
theorem tend_two {x : Tk} {l : List Tk} (h : ∃ l0 t, x :: l = l0 ++ [t] ∧ t.k = 0) (hx : x.k ≠ 0) : 0 < l.length ∧ ∃ l0 t, l = l0 ++ [t] ∧ t.k = 0 := by
  obtain ⟨l0, t, e, ht⟩ := h
  cases l0 with
  | nil =>
    simp only [List.nil_append, List.cons.injEq] at e
    exact absurd (by rw [e.1]; exact ht) hx
  | cons y l0 =>
    simp only [List.cons_append, List.cons.injEq] at e
    obtain ⟨rfl, rfl⟩ := e
    exact ⟨by simp, l0, t, rfl, ht⟩
theorem rd_bad {W0 w : World} {b : Nat} {l : List Tk} {v1 v2 v3 v4 v5 : Value} (h : RL W0 w b l v1 v2 v3 v4 v5) :
    Calls Tryd.prog 83 #[.pointer (some ⟨b, 0, none⟩)] w fun e w' => Panics (badS l) e ∧ w' = w := by
  have h1 := rd_is h 0
  obtain ⟨ad, c, c0, hc, k0, k1, k2⟩ := h.head
  have hp := h.pos
  have HB : Aside0 (badS l = if (hd l).k = 0 then (4, (hd l).at_) else (3, (hd l).at_)) := ⟨rfl⟩
  clear h
  generalize badS l = f at *
  generalize (hd l).at_ = p at *
  by_cases hk : (hd l).k = 0
  · have hf : f = (4, p) := by rw [HB.out, if_pos hk]
    subst hf
    rw [hk] at h1
    clear HB hk
    go_enter Tryd.func83, Tryd.ntmps83
    go_wp2_with (first | (go_at_call 55; refine h1.mono ?_; rintro e w' ⟨rfl, rfl⟩) | (go_at_call 88; refine (gread_fail _ _ _).mono ?_; rintro e w' ⟨⟨older, rfl, ho⟩, rfl⟩))
    exact ⟨rfl, ⟨older, rfl, ho⟩, rfl⟩
  · have hf : f = (3, p) := by rw [HB.out, if_neg hk]
    subst hf
    rw [show ((hd l).k == 0) = false from beq_false_of_ne hk] at h1
    clear HB hk
    go_enter Tryd.func83, Tryd.ntmps83
    go_wp2_with (first | (go_at_call 55; refine h1.mono ?_; rintro e w' ⟨rfl, rfl⟩) | (go_at_call 88; refine (gread_fail _ _ _).mono ?_; rintro e w' ⟨⟨older, rfl, ho⟩, rfl⟩))
    exact ⟨rfl, ⟨older, rfl, ho⟩, rfl⟩
theorem RL.later {W0 w w1 : World} {b : Nat} {l : List Tk} {v1 v2 v3 v4 v5 : Value} (h : RL W0 w b l v1 v2 v3 v4 v5) (hb : Below w.heap.size w w1) : RL W0 w1 b l v1 v2 v3 v4 v5 := by
  obtain ⟨ad, c, hk, hc, hC⟩ := h.cells
  exact ⟨h.below.trans (hb.mono h.below.size), h.hb, ⟨ad, c, blk_below hk hb, hc, hC⟩, h.pos⟩
theorem RL.alloc {W0 w : World} {b : Nat} {l : List Tk} {v1 v2 v3 v4 v5 : Value} (h : RL W0 w b l v1 v2 v3 v4 v5) (o : Obj) : RL W0 (w.alloc o) b l v1 v2 v3 v4 v5 := h.later (below_alloc (Below.refl _ _) o)
theorem RL.setOther {W0 w : World} {b g : Nat} {l : List Tk} {v1 v2 v3 v4 v5 : Value} (h : RL W0 w b l v1 v2 v3 v4 v5) (hg : g ≠ b) (hW : W0.heap.size ≤ g) (i : Nat) (v : Value) : RL W0 (w.setCell ⟨g, i, none⟩ v) b l v1 v2 v3 v4 v5 := by
  obtain ⟨ad, c, hk, hc, hC⟩ := h.cells
  exact ⟨h.below.setCell (p := ⟨g, i, none⟩) hW v, h.hb, ⟨ad, c, blk_far (p := ⟨g, i, none⟩) hk (Ne.symm hg) v, hc, hC⟩, h.pos⟩
theorem results_c {P : Program} {fn : Func} {p : Tmp} {ty : TypeId} (h : fn.results = #[.cell p ty]) (tmps : Array Value) (w : World) (g : Nat) (t : TypeId) (cs : Array Value) (fr : Nat × Nat) (d : TypeDesc)
    (hp : tmps.getD p undef = .pointer (some ⟨g, 0, none⟩)) (hg : w.heap[g]? = some (.cells cs t fr))
    (hu : P.underlying ty = some d) (hd : (match d with | .struct _ | .array _ _ => true | _ => false) = true) (hi : (P.info? ty).map (·.size) = some cs.size) :
    (results fn tmps).run P w = .ok (.agg cs) w := by
  have hp' : tmps[p]?.getD undef = .pointer (some ⟨g, 0, none⟩) := by simpa using hp
  simp [results, h, hp', asAddr, run_loadVar_row w g t ty cs fr d hg hu hd hi]
theorem rd_isn {W0 w : World} {b : Nat} {l : List Tk} {v1 v2 v3 v4 v5 : Value} (h : RL W0 w b l v1 v2 v3 v4 v5) {k : Int} (hk : (hd l).k ≠ k) :
    Calls Tryd.prog 55 #[.pointer (some ⟨b, 0, none⟩), .int .i64 k] w fun e w' => e = .returned (.bool false) ∧ w' = w := by
  have h1 := rd_is h k
  rw [show ((hd l).k == k) = false from beq_false_of_ne hk] at h1
  exact h1
theorem rd_isy {W0 w : World} {b : Nat} {l : List Tk} {v1 v2 v3 v4 v5 : Value} (h : RL W0 w b l v1 v2 v3 v4 v5) {k : Int} (hk : (hd l).k = k) :
    Calls Tryd.prog 55 #[.pointer (some ⟨b, 0, none⟩), .int .i64 k] w fun e w' => e = .returned (.bool true) ∧ w' = w := by
  have h1 := rd_is h k
  rw [show ((hd l).k == k) = true from by rw [hk]; exact beq_self_eq_true k] at h1
  exact h1
theorem rd_want_no {W0 w : World} {b : Nat} {l : List Tk} {v1 v2 v3 v4 v5 : Value} (h : RL W0 w b l v1 v2 v3 v4 v5) {k : Int} (hk : (hd l).k ≠ k) :
    Calls Tryd.prog 84 #[.pointer (some ⟨b, 0, none⟩), .int .i64 k] w fun e w' => Panics (badS l) e ∧ BelowBut b w w' := by
  have H := Aside0.mk h
  have HK := Aside0.mk hk
  clear h hk
  go_enter Tryd.func84, Tryd.ntmps84
  go_wp2_with (first | (go_at_call 55; refine (rd_isn (H.out.alloc _) HK.out).mono ?_; rintro e w' ⟨rfl, rfl⟩) | (go_at_call 83; refine (rd_bad (H.out.alloc _)).mono ?_; rintro e w' ⟨⟨older, rfl, ho⟩, rfl⟩))
  exact ⟨rfl, ⟨older, rfl, ho⟩, (BelowBut.refl b w).alloc _⟩
theorem rd_want {W0 w : World} {b : Nat} {x : Tk} {l : List Tk} {v1 v2 v3 v4 v5 : Value} (h : RL W0 w b (x :: l) v1 v2 v3 v4 v5) (hl : 0 < l.length) {k : Int} (hk : x.k = k) :
    Calls Tryd.prog 84 #[.pointer (some ⟨b, 0, none⟩), .int .i64 k] w fun e w' => e = .returned (tkV x) ∧ RL W0 w' b l v1 v2 v3 v4 v5 ∧ BelowBut b w w' := by
  have H := Aside0.mk h
  have HK := Aside0.mk (show (hd (x :: l)).k = k from hk)
  have HS := Aside0.mk (show w.heap.size ≠ b from fun e => by obtain ⟨ad, c, hk, _⟩ := h.cells; have := blk_lt hk; omega)
  clear h hk
  go_enter Tryd.func84, Tryd.ntmps84
  go_wp2_with (first | (go_at_call 55; refine (rd_isy (H.out.alloc _) HK.out).mono ?_; rintro e w' ⟨rfl, rfl⟩) | (go_at_call 57; refine (rd_take (H.out.alloc _) hl).mono ?_; rintro e w2 ⟨rfl, h2, hb2⟩; have hn : w2.heap[w.heap.size]? = some (.cells #[.int .i64 0, .string ⟨#[]⟩, .int .i64 0] 66 (0, 0)) := (hb2.block _ (by simp) HS.out).trans (blk_new w _); have f0 := (blk_cell hn 0).trans rfl; have f1 := (blk_cell hn 1).trans rfl; have f2 := (blk_cell hn 2).trans rfl; have g0 := blk_frozen hn 0; have g1 := blk_frozen hn 1; have g2 := blk_frozen hn 2; have H2 := Aside0.mk h2; have HB2 := Aside0.mk hb2; have HN := Aside0.mk hn; clear h2 hb2 hn; unfold tkV))
  have b3 := blk_set (blk_set (blk_set HN.out 0 (.int .i64 x.k)) 1 (.string x.s)) 2 (.int .i64 x.at_)
  have hW : W0.heap.size ≤ w.heap.size := H.out.below.size
  refine bodyPost_ret (results_c (fn := Tryd.f84) rfl _ _ w.heap.size 66 _ (0, 0) _ rfl b3 Tryd.underlying66 rfl (by kernel_rfl)) rfl ⟨rfl, ((H2.out.setOther HS.out hW 0 _).setOther HS.out hW 1 _).setOther HS.out hW 2 _, ?_⟩
  exact (((((BelowBut.refl b w).alloc _).trans HB2.out).setNew (Nat.le_refl _) 0 _).setNew (Nat.le_refl _) 1 _).setNew (Nat.le_refl _) 2 _
end Go.Proofs.YtliofoikejdjeaaDoor
/- gread's reader: a right side. -/
namespace Go.Proofs.YtliofoikejdjeaaDoor
open Go.RowKit Go.Proofs.YtliofoikejdjeaaDoorW.PrintWords Go.Proofs.YtliofoikejdjeaaDoorW.PrintLast
set_option linter.unusedVariables false
set_option linter.unusedSimpArgs false
theorem BelowBut.grown {b : Nat} {w W w1 : World} {row : Option Nat} (h : BelowBut b w W) (hg : W.grownBy w1 row) (hr : ∀ k, row = some k → w.heap.size ≤ k) : BelowBut b w w1 :=
  ⟨hg.os.trans h.os, hg.tape.trans h.tape, hg.output.trans h.output, Nat.le_trans h.size hg.size, fun k hk hb => (hg.block k (Nat.lt_of_lt_of_le hk h.size) (fun e => by have := hr k e.symm; omega)).trans (h.block k hk hb)⟩
theorem grown_none {W w1 : World} (hg : W.grownBy w1 none) : Below W.heap.size W w1 := Below.grown (Below.refl _ _) hg (Nat.le_refl _) (fun k hk => by cases hk)
theorem RL.grown {α : Type} {d : Kd α} {e base : Nat} {ok : Nat → Prop} {v : Value} {xs : List α} {W0 w w1 : World} {b : Nat} {l : List Tk} {v1 v2 v3 v4 v5 : Value} (h : RL W0 w b l v1 v2 v3 v4 v5) (ho : d.R e w base ok v xs) (hbase : W0.heap.size ≤ base) (hg : w.grownBy w1 v.ownBlock) (he : e ≠ 88) : RL W0 w1 b l v1 v2 v3 v4 v5 := by
  obtain ⟨ad, c, hk, hc, hC⟩ := h.cells
  exact ⟨Below.grown h.below hg h.below.size (fun k hk => Nat.le_trans hbase (Kd.R_base ho k hk)), h.hb, ⟨ad, c, blk_grown hk hg (Kd.R_ne ho hk he), hc, hC⟩, h.pos⟩
theorem RL.lt {W0 w : World} {b : Nat} {l : List Tk} {v1 v2 v3 v4 v5 : Value} (h : RL W0 w b l v1 v2 v3 v4 v5) : b < w.heap.size := by
  obtain ⟨ad, c, hk, _⟩ := h.cells
  exact blk_lt hk
def TEnd (l : List Tk) : Prop := ∃ l0 t, l = l0 ++ [t] ∧ t.k = 0
theorem TEnd.hd {l : List Tk} (h : TEnd l) (hs : (hd l).k ≠ 0) : ∃ x r, l = x :: r ∧ 0 < r.length ∧ TEnd r := by
  cases l with
  | nil => obtain ⟨l0, t, e, _⟩ := h; simp at e
  | cons x r => exact ⟨x, r, rfl, (tend_two h hs).1, (tend_two h hs).2⟩
theorem TEnd.drop {l : List Tk} (h : TEnd l) : TEnd (l.dropWhile symB) := by
  obtain ⟨l0, t, rfl, ht⟩ := h
  have hns : symB t = false := by simp [symB, ht]
  induction l0 with
  | nil => exact ⟨[], t, by simp [List.dropWhile, hns], ht⟩
  | cons y r ih =>
    rw [List.cons_append, List.dropWhile_cons]
    by_cases hy : symB y = true
    · rw [if_pos hy]; exact ih
    · rw [if_neg hy]; exact ⟨y :: r, t, rfl, ht⟩
theorem while_parts {p : Tk → Bool} {l1 l2 : List Tk} (h1 : ∀ x ∈ l1, p x = true) (h2 : p (hd l2) = false) : (l1 ++ l2).takeWhile p = l1 ∧ ((l1 ++ l2).dropWhile p = l2 ∨ l2 = []) := by
  induction l1 with
  | nil =>
    cases l2 with
    | nil => exact ⟨rfl, .inr rfl⟩
    | cons y r =>
      have : p y = false := h2
      exact ⟨by simp [List.takeWhile, this], .inl (by simp [List.dropWhile, this])⟩
  | cons x r ih =>
    have hx := h1 x List.mem_cons_self
    obtain ⟨e1, e2⟩ := ih (fun y hy => h1 y (List.mem_cons_of_mem _ hy))
    exact ⟨by rw [List.cons_append, List.takeWhile_cons, if_pos hx, e1], e2.imp_left fun e => by rw [List.cons_append, List.dropWhile_cons, if_pos hx, e]⟩
theorem symB_ne {t : Tk} (h : symB t = true) : t.k ≠ 0 := by
  intro e
  simp [symB, e] at h
def rdSideT : Bool × List (List Nat × List Nat) := (true, [([], []), ([0], [0]), ([], []), ([2], [2]), ([3], [3]), ([1, 4, 3], [1, 4]), ([0, 1, 2, 3, 4, 5], []), ([6, 5, 5, 0, 1, 2, 3, 4, 5], [5, 6])])
def rdSideB : List Nat := [0, 1, 0, 4, 12, 31, 63, 127]
theorem rdSideTab : rtab .any (opsOf Tryd.f85 3) = rdSideT := by kernel_rfl
theorem rdSideBits : waitsOk rdSideT.2 rdSideB = true := by kernel_rfl
set_option maxHeartbeats 4000000 in
set_option maxRecDepth 100000 in
theorem rd_side {W0 w : World} {b : Nat} {l : List Tk} {v1 v2 v3 v4 v5 : Value} (h : RL W0 w b l v1 v2 v3 v4 v5) (ht : TEnd l) (hm : l.length ≤ 100000) :
    Calls Tryd.prog 85 #[.pointer (some ⟨b, 0, none⟩)] w fun e w' => ∃ As cs, e = .returned (.agg #[.slice As (l.takeWhile symB).length cs, .int .i64 (hd l).at_]) ∧ Kd.R kTk 66 w' w.heap.size (fun k => k ≠ b) (.slice As (l.takeWhile symB).length cs) (l.takeWhile symB) ∧ RL W0 w' b (l.dropWhile symB) v1 v2 v3 v4 v5 ∧ BelowBut b w w' := by
  obtain ⟨ad, c, c0, hc, k0, k1, k2⟩ := h.head
  have HH := Aside0.mk h
  have HT := Aside0.mk ht
  have hp := h.pos
  have hlt := h.lt
  have hlt2 := World.block_lt_of_cell? _ _ k0
  have HW : W0.heap.size ≤ w.heap.size := h.below.size
  obtain ⟨p, hpe⟩ : ∃ p, (hd l).at_ = p := ⟨_, rfl⟩
  rw [hpe] at k2 ⊢
  clear h ht hpe
  go_enter Tryd.func85, Tryd.ntmps85
  go_wp2
  have q1 := blk_alloc (blk_new w (.cells #[.slice none 0 0, .int .i64 0] 124)) (.cells #[.slice none 0 0, .int .i64 p] 124)
  have q2 := blk_new (w.alloc (.cells #[.slice none 0 0, .int .i64 0] 124)) (.cells #[.slice none 0 0, .int .i64 p] 124)
  rw [show (w.alloc (.cells #[.slice none 0 0, .int .i64 0] 124)).heap.size = w.heap.size + 1 from by simp] at q2
  have q3 := (HH.out.alloc (.cells #[.slice none 0 0, .int .i64 0] 124)).alloc (.cells #[.slice none 0 0, .int .i64 p] 124)
  have q4 := ((BelowBut.refl b w).alloc (.cells #[.slice none 0 0, .int .i64 0] 124)).alloc (.cells #[.slice none 0 0, .int .i64 p] 124)
  obtain ⟨sB, hsB⟩ : ∃ y, y = w.heap.size + 1 := ⟨_, rfl⟩
  rw [← hsB] at q2 ⊢
  have hsb : sB ≠ b := by omega
  have hrb : w.heap.size ≠ b := by omega
  have hsr : w.heap.size ≠ sB := by omega
  have hsw : w.heap.size ≤ sB := by omega
  have hrw := Nat.le_refl w.heap.size
  clear k0 k1 k2 c0 hlt hlt2 hc hsB
  go_loopg [13] l.length (fun gg v13 wr => ∃ (l1 l2 : List Tk) (As : Option Addr) (cs : Nat), l1.length + l2.length = l.length ∧ l2.length ≤ gg ∧ Aside0 (l = l1 ++ l2 ∧ ∀ x ∈ l1, symB x = true) ∧ Aside0 (RL W0 wr b l2 v1 v2 v3 v4 v5) ∧ Aside0 (TEnd l2) ∧ Aside0 (wr.heap[sB]? = some (.cells #[.slice As l1.length cs, .int .i64 p] 124 (0, 0))) ∧ Aside0 (wr.heap[w.heap.size]? = some (.cells #[.slice none 0 0, .int .i64 0] 124 (0, 0))) ∧ Aside0 (Kd.R kTk 66 wr w.heap.size (fun k => k ≠ b) (.slice As l1.length cs) l1) ∧ Aside0 (BelowBut b w wr))
  case atStart => exact ⟨[], l, none, 0, by simp, Nat.le_refl _, ⟨rfl, fun x hx => by cases hx⟩, ⟨q3⟩, HT, ⟨q2⟩, ⟨q1⟩, ⟨Kd.R_nil _ _ _ _ _⟩, ⟨q4⟩⟩
  case round =>
    clear q1 q2 q3 q4
    obtain ⟨l1, l2, As, cs, hlen, hgg, HL, HRL, HT2, BK, BR, HO, HB⟩ := hrel
    have hsym := rd_symbol HRL.out
    cases hq : symB (hd l2) with
    | true =>
      obtain ⟨x, l3, e2, hl3, ht3⟩ := HT2.out.hd (symB_ne hq)
      subst e2
      have HQ := Aside0.mk hq
      have HT3 := Aside0.mk ht3
      rw [hq] at hsym
      simp only [List.length_cons] at hlen hgg
      clear hq ht3
      go_wp2_with (go_at_call 82; refine hsym.mono ?_; rintro e w' ⟨rfl, rfl⟩)
      have n1_ := Aside0.mk (blk_drew BK.out)
      have n2_ := Aside0.mk (blk_drew BR.out)
      have n3_ := Aside0.mk (Kd.R_drew HO.out)
      have n4_ := Aside0.mk HB.out.drew
      have n5_ := Aside0.mk (HRL.out.later (below_drew (Below.refl _ _)))
      clear BK BR HO HB HRL hsym
      have BK := n1_
      have BR := n2_
      have HO := n3_
      have HB := n4_
      have HRL := n5_
      clear n1_ n2_ n3_ n4_ n5_
      refine start_ (n := 8) (S := fun w' => w'.cell? ⟨sB, 0, none⟩ = some (.slice As l1.length cs)) (ds := [7]) #[false, false, false, false, false, false, false, false] (by kernel_rfl) rfl rfl ((blk_cell BK.out 0).trans rfl) (fun hHeld => ?_)
      refine with_tabW rdSideTab rdSideBits (fun HT_ HW_ => ?_)
      generalize World.drew _ = w5 at HRL BK BR HO HB hHeld ⊢
      refine pure_ (i := 0) (N := (some 14)) (v := ?_) (a' := ?_) #[true, false, false, false, false, false, false, false] rfl rfl (any_of HT_.out (by kernel_rfl)) (fun _ _ _ h => h) (Or.inl ⟨by rfl, ?_⟩) ?_ ?_
      rotate_left
      · intro w'
        go_simp
        with_reducible rfl
      rotate_left
      · simp only [Act.put, List.setIfInBounds_toArray, List.set_cons_zero, List.set_cons_succ, i64_w, i32_w]
        rfl
      refine take_ (i := 1) (N := (some 15)) (v := ?_) (a' := ?_) #[true, true, false, false, false, false, false, false] rfl rfl (take_ofW HT_.out HW_.out (by kernel_rfl)) (fun _ _ _ h => h) (Or.inl ⟨by rfl, ?_⟩) hHeld ?_ ?_
      rotate_left
      · rintro w' s0
        go_simp
        with_reducible rfl
      rotate_left
      · simp only [Act.put, List.setIfInBounds_toArray, List.set_cons_zero, List.set_cons_succ, i64_w, i32_w]
        rfl
      refine pure_ (i := 2) (N := (some 16)) (v := ?_) (a' := ?_) #[true, true, true, false, false, false, false, false] rfl rfl (any_of HT_.out (by kernel_rfl)) (fun _ _ _ h => h) (Or.inl ⟨by rfl, ?_⟩) ?_ ?_
      rotate_left
      · intro w'
        go_simp
        with_reducible rfl
      rotate_left
      · simp only [Act.put, List.setIfInBounds_toArray, List.set_cons_zero, List.set_cons_succ, i64_w, i32_w]
        rfl
      refine one_ (i := 3) (N := (some 17)) #[true, true, true, true, false, false, false, false] rfl rfl (one_of HT_.out (by kernel_rfl)) (by decide) (fun K hK => ?_)
      refine goes_ Tryd.func57 (by kernel_rfl) rfl #[.pointer (some ⟨b, 0, none⟩)] (by rfl) rfl rfl (by first | rfl | (simp [Act.eval]; done) | (simp [Act.eval]; rfl)) ?_
      refine (rd_take HRL.out hl3).mono ?_
      rintro e w6 ⟨rfl, h6, hb6⟩
      refine ⟨_, rfl, ?_⟩
      have n1_ := Aside0.mk ((hb6.block sB (blk_lt BK.out) hsb).trans BK.out)
      have n2_ := Aside0.mk ((hb6.block w.heap.size (blk_lt BR.out) hrb).trans BR.out)
      have n3_ := Aside0.mk (Kd.R_step HO.out (fun k hk hlt => hb6.block k hlt hk))
      have n4_ := Aside0.mk (HB.out.trans hb6)
      have n5_ := Aside0.mk h6
      clear HRL BK BR HO HB h6 hb6
      have BK := n1_
      have BR := n2_
      have HO := n3_
      have HB := n4_
      have HRL := n5_
      clear n1_ n2_ n3_ n4_ n5_
      unfold tkV
      refine hK.out _ _ ((blk_cell BK.out 0).trans rfl) (fun hHeld => ?_)
      clear hK K
      refine norm_ (a' := ?_) ?_ ?_
      rotate_left
      · show Act.put _ (some 17) _ = _
        simp only [Act.put, List.setIfInBounds_toArray, List.set_cons_zero, List.set_cons_succ, i64_w, i32_w]
        rfl
      refine one_ (i := 4) (N := (some 18)) #[true, true, true, true, true, false, false, false] rfl rfl (one_of HT_.out (by kernel_rfl)) (by decide) (fun K hK => ?_)
      refine Kd.R_lit_step kTk (w0 := w6) w6.heap.size 66 ?hg (N := 18) ?hd (xs := [x]) (inner := [.int .i64 x.k, .string x.s, .int .i64 x.at_]) (ok := fun _ => True) (okp := fun _ => True) ?hr ?hp (fun _ hk => hk) trivial (Below.refl _ _) (Nat.le_refl _) (by simp) ?_; (case hd => rfl); (case hg => rfl); (case hr => first | (go_simp; done) | (go_simp; rfl)); (case hp => exact (Reps.snoc (Reps.none _ _) (kTk_M x) rfl))
      intro v18 w7 ho hb hg hnew
      obtain ⟨A8, c8, e8, l8, C8⟩ := Kd.R_reads ho
      subst e8
      have n1_ := Aside0.mk (blk_grown BK.out hg (by simp))
      have n2_ := Aside0.mk (blk_grown BR.out hg (by simp))
      have n3_ := Aside0.mk (Kd.R_grown HO.out hg (fun _ _ => by simp))
      have n4_ := Aside0.mk (HB.out.trans (.of (grown_none hg)))
      have n5_ := Aside0.mk (HRL.out.later (grown_none hg))
      have HX := Aside0.mk C8
      clear HRL BK BR HO HB ho hb hg hnew C8 l8
      have BK := n1_
      have BR := n2_
      have HO := n3_
      have HB := n4_
      have HRL := n5_
      clear n1_ n2_ n3_ n4_ n5_
      refine hK.out _ _ ((blk_cell BK.out 0).trans rfl) (fun hHeld => ?_)
      clear hK K
      refine norm_ (a' := ?_) ?_ ?_
      rotate_left
      · show Act.put _ (some 18) _ = _
        simp only [Act.put, List.setIfInBounds_toArray, List.set_cons_zero, List.set_cons_succ, i64_w, i32_w]
        rfl
      refine one_ (i := 5) (N := (some 19)) #[true, true, true, true, true, true, false, false] rfl rfl (one_of HT_.out (by kernel_rfl)) (by decide) (fun K hK => ?_)
      refine Kd.R_append_rows_step kTk (w0 := w7) w.heap.size (by rfl) (.tmp 15) (.tmp 18) 50 66 (.agg #[.int .i64 0, .string ⟨#[]⟩, .int .i64 0]) 32 rfl Tryd.underlying50 infoTok rfl (by decide) (by omega) (.slice As l1.length cs) l1 [x] _ _ _ (fun k => k ≠ b) (fun _ => False) rfl rfl HO.out HX.out (fun p cs hp => (show cs = _ from kTk_open hp) ▸ kTk_M p) (fun _ h => h.elim) (fun k hk he => by have := HRL.out.lt; omega) (Below.refl _ _) HB.out.size ?aL ?_
      case aL => simp only [List.length_cons, List.length_nil]; omega
      intro v19 w8 ho hb hg hat
      have hr_ : ∀ k, (Value.slice As l1.length cs).ownBlock = some k → w.heap.size ≤ k := fun k hk => Kd.R_base HO.out k hk
      have n1_ := Aside0.mk (blk_grown BK.out hg (Kd.R_ne HO.out BK.out (by decide)))
      have n2_ := Aside0.mk (blk_grown BR.out hg (Kd.R_ne HO.out BR.out (by decide)))
      have n4_ := Aside0.mk (HB.out.grown hg hr_)
      have n5_ := Aside0.mk (HRL.out.grown HO.out HW hg (by decide))
      obtain ⟨A9, c9, e9, l9, C9⟩ := Kd.R_reads ho
      obtain rfl : v19 = .slice A9 (l1 ++ [x]).length c9 := e9
      clear HRL BK BR HO HB HX hb hg hat hr_ l9 C9
      have BK := n1_
      have BR := n2_
      have HO := Aside0.mk ho
      have HB := n4_
      have HRL := n5_
      clear n1_ n2_ n4_ n5_ ho
      refine hK.out _ _ ((blk_cell BK.out 0).trans rfl) (fun hHeld => ?_)
      clear hK K
      refine norm_ (a' := ?_) ?_ ?_
      rotate_left
      · show Act.put _ (some 19) _ = _
        simp only [Act.put, List.setIfInBounds_toArray, List.set_cons_zero, List.set_cons_succ, i64_w, i32_w]
        rfl
      refine pure_ (i := 6) (N := (some 20)) (v := ?_) (a' := ?_) #[true, true, true, true, true, true, true, false] rfl rfl (any_of HT_.out (by kernel_rfl)) (fun _ _ _ h => h) (Or.inl ⟨by rfl, ?_⟩) ?_ ?_
      rotate_left
      · intro w'
        go_simp
        with_reducible rfl
      rotate_left
      · simp only [Act.put, List.setIfInBounds_toArray, List.set_cons_zero, List.set_cons_succ, i64_w, i32_w]
        rfl
      refine last_ (i := 7) (N := none) #[true, true, true, true, true, true, true, true] rfl rfl (one_of HT_.out (by kernel_rfl)) (by decide) (fun K hK => ?_)
      have f0 := (blk_cell BK.out 0).trans rfl
      have f1 := blk_frozen BK.out 0
      refine skip_ (by rfl) rfl (w1 := w8.setCell ⟨sB, 0, none⟩ (.slice A9 (l1 ++ [x]).length c9)) ?hrun ?_; (case hrun => first | (go_simp; done) | (go_simp; rfl))
      refine hK.out _ _ ?_
      clear hK K
      refine done_ (done_of HT_.out (by kernel_rfl)) ?_
      go_wp2
      go_roundg l3.length
      case measure => omega
      case rel =>
        refine ⟨l1 ++ [x], l3, A9, c9, by rw [List.length_append]; simp only [List.length_cons, List.length_nil]; omega, Nat.le_refl _, ⟨by rw [HL.out.1]; simp, fun y hy => ?_⟩, ⟨HRL.out.setOther hsb (Nat.le_trans HW hsw) 0 _⟩, HT3, ⟨?_⟩, ⟨blk_far (p := ⟨sB, 0, none⟩) BR.out hsr _⟩, ⟨Kd.R_set HO.out BK.out (by decide) 0 _⟩, ⟨HB.out.setNew hsw 0 _⟩⟩
        · rcases List.mem_append.1 hy with h | h
          · exact HL.out.2 y h
          · rw [List.mem_singleton.1 h]; exact HQ.out
        · have := blk_set BK.out 0 (.slice A9 (l1 ++ [x]).length c9)
          simpa using this
    | false =>
      rw [hq] at hsym
      have g0 := (blk_cell BK.out 0).trans rfl
      have g1 := (blk_cell BK.out 1).trans rfl
      have f0 := (blk_cell BR.out 0).trans rfl
      have f1 := (blk_cell BR.out 1).trans rfl
      have r0 := blk_frozen BR.out 0
      have r1 := blk_frozen BR.out 1
      obtain ⟨ep, ed⟩ := while_parts HL.out.2 hq
      rw [← HL.out.1] at ep ed
      have hne : l2 ≠ [] := by
        rintro rfl
        obtain ⟨l0, t, e, _⟩ := HT2.out
        simp at e
      have HE := Aside0.mk (And.intro ep (ed.resolve_right hne))
      clear hq ep ed hne HL
      go_wp2_with (go_at_call 82; refine hsym.mono ?_; rintro e w' ⟨rfl, rfl⟩)
      have b1 := blk_set (blk_set BR.out 0 (.slice As l1.length cs)) 1 (.int .i64 p)
      obtain ⟨e1, e2⟩ := HE.out
      rw [e1, e2]
      have b0 := blk_set BR.out 0 (.slice As l1.length cs)
      refine bodyPost_ret (results_c (fn := Tryd.f85) rfl _ _ w.heap.size 124 _ (0, 0) _ rfl b1 Tryd.underlying124 rfl (by kernel_rfl)) rfl ⟨As, cs, rfl, Kd.R_set (Kd.R_set HO.out BR.out (by decide) 0 _) b0 (by decide) 1 _, (HRL.out.setOther hrb (Nat.le_trans HW hrw) 0 _).setOther hrb (Nat.le_trans HW hrw) 1 _, (HB.out.setNew hrw 0 _).setNew hrw 1 _⟩
end Go.Proofs.YtliofoikejdjeaaDoor
/- A map from strings to ints that the call made. -/
namespace Go.Proofs.YtliofoikejdjeaaDoor
open Go.RowKit Go.Proofs.YtliofoikejdjeaaDoorW.PrintWords Go.Maps
set_option linter.unusedVariables false
set_option linter.unusedSimpArgs false
theorem lawS : Keyed Tryd.prog 9 := string_keyed Tryd.underlying9
theorem zeroI (w : World) : (zeroValue 3).run Tryd.prog w = .ok (.int .i64 0) w := by kernel_rfl
def litS (s : ByteArray) : Lit := .string s.data.toList
theorem keyS (s : ByteArray) (hs : s.size ≤ 140737488351232) : keyOf Tryd.prog 9 (.string s) = some (litS s) := WideMaps.keyOf_string_mk Tryd.underlying9 (by unfold maxLen; omega)
theorem litS_inj {s t : ByteArray} (h : litS s = litS t) : s = t := by
  injection h with h
  exact WideShapes.bytes_inj h
/-- Block b is a map that holds f, of c keys, and of n at most. -/
def MapSI (w : World) (b n : Nat) (f : ByteArray → Option Int) (c : Nat) : Prop :=
  ∃ D : DataW Unit, w.ownsMap Tryd.prog 9 (plainElem Tryd.prog 3) b n D ∧ Tidy D ∧ size D = c ∧ ∀ s, has D (litS s) = (f s).isSome ∧ D.atKey (litS s) (.lit (.int .i64 0)) = .lit (.int .i64 ((f s).getD 0))
theorem MapSI.made (w : World) : MapSI (w.alloc (.map #[] 0)) w.heap.size 0 (fun _ => none) 0 :=
  ⟨.map [], World.ownsMap_made _ _ _ _, tidy_empty, rfl, fun s => ⟨rfl, rfl⟩⟩
theorem MapSI.lt {w : World} {b n : Nat} {f : ByteArray → Option Int} {c : Nat} (h : MapSI w b n f c) : b < w.heap.size := by
  obtain ⟨D, h, _⟩ := h
  exact h.lt
theorem MapSI.below {w w1 : World} {b n : Nat} {f : ByteArray → Option Int} {c : Nat} (h : MapSI w b n f c) (hb : Below w.heap.size w w1) : MapSI w1 b n f c := by
  obtain ⟨D, ⟨es, clock, h1, h2⟩, h3⟩ := h
  exact ⟨D, ⟨es, clock, blk_below h1 hb, h2⟩, h3⟩
theorem MapSI.grown {w w1 : World} {b n : Nat} {f : ByteArray → Option Int} {c : Nat} (h : MapSI w b n f c) {row : Option Nat} (hg : w.grownBy w1 row) (hr : some b ≠ row) : MapSI w1 b n f c := by
  obtain ⟨D, ⟨es, clock, h1, h2⟩, h3⟩ := h
  exact ⟨D, ⟨es, clock, blk_grown h1 hg hr, h2⟩, h3⟩
theorem MapSI.map_ {w : World} {b n : Nat} {f : ByteArray → Option Int} {c : Nat} (h : MapSI w b n f c) : ∃ es clock, w.heap[b]? = some (.map es clock) := by
  obtain ⟨D, ⟨es, clock, h1, _⟩, _⟩ := h
  exact ⟨es, clock, h1⟩
/-- A cell stays where a map is written. -/
theorem cell_map {w w1 : World} {b : Nat} {es : Array MapEntry} {clock : Nat} (hm : w.heap[b]? = some (.map es clock)) (hg : w.grownBy w1 (some b)) {p : Addr} {v : Value} (h : w.cell? p = some v) : w1.cell? p = some v := by
  have hlt := World.block_lt_of_cell? w p h
  have hne : some p.block ≠ some b := by
    intro e
    injection e with e
    unfold World.cell? at h
    rw [e, hm] at h
    cases h
  unfold World.cell? at h ⊢
  rw [hg.block _ hlt hne]
  exact h
theorem C_str_map {w w1 : World} {b : Nat} {es : Array MapEntry} {clock : Nat} (hm : w.heap[b]? = some (.map es clock)) (hg : w.grownBy w1 (some b)) {A : Option Addr} {n : Nat} {xs : List ByteArray} (h : Kd.C Kd.string w A n xs) : Kd.C Kd.string w1 A n xs := by
  obtain ⟨h1, h2, h3⟩ := Kd.reads_of_C (d := (default : ByteArray)) h
  exact Kd.C_of_reads (d := (default : ByteArray)) ⟨h1, h2, fun hn => by
    obtain ⟨ad, e, hc⟩ := h3 hn
    exact ⟨ad, e, fun j hj => cell_map hm hg (hc j hj)⟩⟩
section
variable {w : World} {ops : Array Oper} {rest : List Oper} {o : Oper} {a : Act} {Q : Exit → Act → World → Prop} {b n c : Nat} {f : ByteArray → Option Int}
theorem msi_lookup (hg : o.guard = none) (m x : Operand) (t : TypeId) (hop : o.op = Op.lookup t m x false) (ht : Tryd.prog.underlying t = some (.map 9 3)) (hm : a.eval m = .map (some b)) (h : MapSI w b n f c) (s : ByteArray) (hx : a.eval x = .string s) (hs : s.size ≤ 140737488351232)
    (hK : wpList Tryd.prog ops Q rest (a.put o.dst (.int .i64 ((f s).getD 0))) w) : wpList Tryd.prog ops Q (o :: rest) a w := by
  obtain ⟨D, h1, h2, h3, h4⟩ := h
  refine wpList_lookup_own_int w hg m x t hop 9 3 .i64 lawS ht Tryd.underlying3 (zeroI w) b n D hm h1 _ _ hx (keyS s hs) ?_
  intro q hq _
  rw [(h4 s).2] at hq
  injection hq with hq
  injection hq with _ hq
  rw [← hq]
  exact hK
theorem msi_update (hg : o.guard = none) (m x v : Operand) (t : TypeId) (hop : o.op = Op.mapUpdate t m x v) (ht : Tryd.prog.underlying t = some (.map 9 3)) (hm : a.eval m = .map (some b)) (h : MapSI w b n f c) (hn : n ≤ 140737488351232) (s : ByteArray) (hx : a.eval x = .string s) (hs : s.size ≤ 140737488351232) (q : Int) (hv : a.eval v = .int .i64 q) (hq : (Lit.int .i64 q).wf = true)
    (hK : ∀ w', MapSI w' b (n + 1) (fun u => if u = s then some q else f u) (if (f s).isSome then c else c + 1) → w.grownBy w' (some b) → wpList Tryd.prog ops Q rest (a.put o.dst undef) w') : wpList Tryd.prog ops Q (o :: rest) a w := by
  obtain ⟨D, h1, h2, h3, h4⟩ := h
  refine wpList_mapUpdate_own w hg m x v t hop 9 3 lawS ht (plainElem Tryd.prog 3) b n D hm h1 (by unfold maxLen; omega) _ _ _ hx hv (keyS s hs) _ [] (plainElem_int Tryd.underlying3 hq) ?_
  intro w' h5 h6
  have hkl : WideAt.IsKeyLit (litS s) := lawS.key (keyS s hs)
  refine hK w' ⟨_, h5, h2.put hkl _, ?_, fun u => ?_⟩ h6
  · rw [size_put h2, (h4 s).1, h3]
  · by_cases e : u = s
    · subst e
      show has _ _ = (if u = u then some q else f u).isSome ∧ _ = DataW.lit (Lit.int .i64 ((if u = u then some q else f u).getD 0))
      rw [if_pos rfl]
      exact ⟨has_put_same h2.isMap hkl _, atKey_put_same h2.isMap hkl _ _⟩
    · show has _ _ = (if u = s then some q else f u).isSome ∧ _ = DataW.lit (Lit.int .i64 ((if u = s then some q else f u).getD 0))
      rw [if_neg e]
      have hne : litS u ≠ litS s := fun h => e (litS_inj h)
      exact ⟨(has_put_other hne _).trans (h4 u).1, (atKey_put_other hne _ _).trans (h4 u).2⟩
theorem msi_len (hg : o.guard = none) (m : Operand) (t : TypeId) (hop : o.op = Op.call { callee := Callee.builtin Builtin.len, args := #[m], argTypes := #[t] }) (ht : Tryd.prog.underlying t = some (.map 9 3)) (hm : a.eval m = .map (some b)) (h : MapSI w b n f c)
    (hK : wpList Tryd.prog ops Q rest (a.put o.dst (.int .i64 c)) w) : wpList Tryd.prog ops Q (o :: rest) a w := by
  obtain ⟨D, h1, h2, h3, h4⟩ := h
  refine wpList_len_own w hg m t hop 9 3 ht _ b n D hm h1 ?_
  rw [h3]
  exact hK
end
end Go.Proofs.YtliofoikejdjeaaDoor
/- gread's reader: its state while declarations are read. -/
namespace Go.Proofs.YtliofoikejdjeaaDoor
open Go.RowKit Go.Proofs.YtliofoikejdjeaaDoorW.PrintWords Go.Proofs.YtliofoikejdjeaaDoorW.PrintLast
set_option linter.unusedVariables false
set_option linter.unusedSimpArgs false
theorem MapSI.same {w w1 : World} {b n : Nat} {f : ByteArray → Option Int} {c : Nat} (h : MapSI w b n f c) (hs : w1.heap[b]? = w.heap[b]?) : MapSI w1 b n f c := by
  obtain ⟨D, ⟨es, clock, h1, h2⟩, h3⟩ := h
  exact ⟨D, ⟨es, clock, hs.trans h1, h2⟩, h3⟩
theorem MapSI.ne {w : World} {b n : Nat} {f : ByteArray → Option Int} {c g : Nat} (h : MapSI w b n f c) {cs : Array Value} {t : TypeId} {fr : Nat × Nat} (hg : w.heap[g]? = some (.cells cs t fr)) : b ≠ g := by
  obtain ⟨es, clock, h1⟩ := h.map_
  rintro rfl
  rw [h1] at hg
  cases hg
theorem own_cells {α : Type} {d : Kd α} {e base : Nat} {ok : Nat → Prop} {w : World} {v : Value} {xs : List α} (h : d.R e w base ok v xs) : ∀ k, v.ownBlock = some k → ∃ cs, w.heap[k]? = some (.cells cs e (0, 0)) := fun k hk => Kd.R_typed h k hk
theorem MapSI.own {α : Type} {d : Kd α} {e base : Nat} {ok : Nat → Prop} {w w1 : World} {v : Value} {xs : List α} {b n : Nat} {f : ByteArray → Option Int} {c : Nat} (h : MapSI w b n f c) (ho : d.R e w base ok v xs) (hg : w.grownBy w1 v.ownBlock) : MapSI w1 b n f c :=
  h.grown hg (fun he => by obtain ⟨cs, hc⟩ := own_cells ho b he.symm; exact h.ne hc rfl)
theorem RL.blk {W0 w : World} {b : Nat} {l : List Tk} {v1 v2 v3 v4 v5 : Value} (h : RL W0 w b l v1 v2 v3 v4 v5) : ∃ v0, w.heap[b]? = some (.cells #[v0, v1, v2, v3, v4, v5] 88 (0, 0)) := by
  obtain ⟨ad, c, hk, _⟩ := h.cells
  exact ⟨_, hk⟩
theorem RL.put {W0 w : World} {b : Nat} {l : List Tk} {v1 v2 v3 v4 v5 : Value} (h : RL W0 w b l v1 v2 v3 v4 v5) (v : Value) :
    RL W0 (w.setCell ⟨b, 1, none⟩ v) b l v v2 v3 v4 v5 ∧ RL W0 (w.setCell ⟨b, 2, none⟩ v) b l v1 v v3 v4 v5 ∧ RL W0 (w.setCell ⟨b, 3, none⟩ v) b l v1 v2 v v4 v5 ∧ RL W0 (w.setCell ⟨b, 4, none⟩ v) b l v1 v2 v3 v v5 := by
  obtain ⟨ad, c, hk, hc, hC⟩ := h.cells
  exact ⟨⟨h.below.setCell (p := ⟨b, 1, none⟩) h.hb v, h.hb, ⟨ad, c, blk_set hk 1 v, hc, hC⟩, h.pos⟩, ⟨h.below.setCell (p := ⟨b, 2, none⟩) h.hb v, h.hb, ⟨ad, c, blk_set hk 2 v, hc, hC⟩, h.pos⟩, ⟨h.below.setCell (p := ⟨b, 3, none⟩) h.hb v, h.hb, ⟨ad, c, blk_set hk 3 v, hc, hC⟩, h.pos⟩, ⟨h.below.setCell (p := ⟨b, 4, none⟩) h.hb v, h.hb, ⟨ad, c, blk_set hk 4 v, hc, hC⟩, h.pos⟩⟩
/-- The reader's state while declarations are read. -/
structure HS (W0 w : World) (b : Nat) (l : List Tk) (v1 v2 v3 v4 : Value) (m n : Nat) (f : ByteArray → Option Int) (c : Nat) (D : List Tk) (M : List Int) (S : List Tk) : Prop where
  rl : RL W0 w b l v1 v2 v3 v4 (.map (some m))
  r1 : Kd.R kTk 66 w W0.heap.size (fun k => k ≠ b ∧ some k ≠ v3.ownBlock) v1 D
  r2 : Kd.R (Kd.int .i64) 3 w W0.heap.size (fun k => k ≠ b) v2 M
  r3 : Kd.R kTk 66 w W0.heap.size (fun k => k ≠ b ∧ some k ≠ v1.ownBlock) v3 S
  mp : MapSI w m n f c
  mb : W0.heap.size ≤ m
theorem tokField2 (k : Int) (s : ByteArray) (p : Int) (w : World) : (Instr.field 66 (.agg #[.int .i64 k, .string s, .int .i64 p]) 2).run Tryd.prog w = .ok (.int .i64 p) w := by kernel_rfl
section
variable {W0 w w1 : World} {b : Nat} {l l' : List Tk} {v1 v2 v3 v4 : Value} {m n : Nat} {f : ByteArray → Option Int} {c : Nat} {D : List Tk} {M : List Int} {S : List Tk}
theorem HS.mne (h : HS W0 w b l v1 v2 v3 v4 m n f c D M S) : m ≠ b := by
  obtain ⟨v0, hk⟩ := h.rl.blk
  exact h.mp.ne hk
theorem HS.but (h : HS W0 w b l v1 v2 v3 v4 m n f c D M S) (hb : BelowBut b w w1) (hr : RL W0 w1 b l' v1 v2 v3 v4 (.map (some m))) : HS W0 w1 b l' v1 v2 v3 v4 m n f c D M S :=
  ⟨hr, Kd.R_step h.r1 (fun k hk hlt => hb.block k hlt hk.1), Kd.R_step h.r2 (fun k hk hlt => hb.block k hlt hk), Kd.R_step h.r3 (fun k hk hlt => hb.block k hlt hk.1), h.mp.same (hb.block m h.mp.lt h.mne), h.mb⟩
theorem HS.later (h : HS W0 w b l v1 v2 v3 v4 m n f c D M S) (hb : Below w.heap.size w w1) : HS W0 w1 b l v1 v2 v3 v4 m n f c D M S := h.but (.of hb) (h.rl.later hb)
theorem HS.put1 (h : HS W0 w b l v1 v2 v3 v4 m n f c D M S) {v1' : Value} {D' : List Tk} (ho : Kd.R kTk 66 w1 W0.heap.size (fun k => k ≠ b ∧ some k ≠ v3.ownBlock) v1' D') (hg : w.grownBy w1 v1.ownBlock) (hat : v1'.ownBlock = v1.ownBlock ∨ ∃ k, v1'.ownBlock = some k ∧ w.heap.size ≤ k) :
    RL W0 w1 b l v1 v2 v3 v4 (.map (some m)) ∧ HS W0 (w1.setCell ⟨b, 1, none⟩ v1') b l v1' v2 v3 v4 m n f c D' M S := by
  have hr := h.rl.grown h.r1 (Nat.le_refl _) hg (by decide)
  obtain ⟨v0, hk⟩ := hr.blk
  refine ⟨hr, (hr.put v1').1, Kd.R_set ho hk (by decide) 1 v1', ?_, ?_, ?_, h.mb⟩
  · exact Kd.R_set (Kd.R_over h.r2 h.r1 (by decide) hg) hk (by decide) 1 v1'
  · exact Kd.R_set (Kd.R_after (ok := fun k => k ≠ b) h.r3 hg hat) hk (by decide) 1 v1'
  · have h2 := h.mp.own h.r1 hg
    exact h2.same (Below.heap_setCell w1 ⟨b, 1, none⟩ v1' m h.mne)
theorem HS.put3 (h : HS W0 w b l v1 v2 v3 v4 m n f c D M S) {v3' : Value} {S' : List Tk} (ho : Kd.R kTk 66 w1 W0.heap.size (fun k => k ≠ b ∧ some k ≠ v1.ownBlock) v3' S') (hg : w.grownBy w1 v3.ownBlock) (hat : v3'.ownBlock = v3.ownBlock ∨ ∃ k, v3'.ownBlock = some k ∧ w.heap.size ≤ k) :
    RL W0 w1 b l v1 v2 v3 v4 (.map (some m)) ∧ HS W0 (w1.setCell ⟨b, 3, none⟩ v3') b l v1 v2 v3' v4 m n f c D M S' := by
  have hr := h.rl.grown h.r3 (Nat.le_refl _) hg (by decide)
  obtain ⟨v0, hk⟩ := hr.blk
  refine ⟨hr, (hr.put v3').2.2.1, ?_, ?_, Kd.R_set ho hk (by decide) 3 v3', ?_, h.mb⟩
  · exact Kd.R_set (Kd.R_after (ok := fun k => k ≠ b) h.r1 hg hat) hk (by decide) 3 v3'
  · exact Kd.R_set (Kd.R_over h.r2 h.r3 (by decide) hg) hk (by decide) 3 v3'
  · have h2 := h.mp.own h.r3 hg
    exact h2.same (Below.heap_setCell w1 ⟨b, 3, none⟩ v3' m h.mne)
theorem HS.put2 (h : HS W0 w b l v1 v2 v3 v4 m n f c D M S) {v2' : Value} {M' : List Int} (ho : Kd.R (Kd.int .i64) 3 w1 W0.heap.size (fun k => k ≠ b) v2' M') (hg : w.grownBy w1 v2.ownBlock) :
    RL W0 w1 b l v1 v2 v3 v4 (.map (some m)) ∧ HS W0 (w1.setCell ⟨b, 2, none⟩ v2') b l v1 v2' v3 v4 m n f c D M' S := by
  have hr := h.rl.grown h.r2 (Nat.le_refl _) hg (by decide)
  obtain ⟨v0, hk⟩ := hr.blk
  refine ⟨hr, (hr.put v2').2.1, Kd.R_set (Kd.R_over h.r1 h.r2 (by decide) hg) hk (by decide) 2 v2', Kd.R_set ho hk (by decide) 2 v2', Kd.R_set (Kd.R_over h.r3 h.r2 (by decide) hg) hk (by decide) 2 v2', ?_, h.mb⟩
  have h2 := h.mp.own h.r2 hg
  exact h2.same (Below.heap_setCell w1 ⟨b, 2, none⟩ v2' m h.mne)
end
section
variable {P : Program} {ops : Array Oper} {Q : Exit → Act → World → Prop}
/-- A call that panics, within a region that draws. -/
theorem goesP_ {oi : Oper} {N : Option Tmp} {a : Act} {w : World} {K : Act → World → Prop} {f : FuncId} {fn : Func} {asx : Array Operand} {ts : Array TypeId} (hf : P.funcs[f]? = some fn) (hname : (fn.name == "runtime.NumGoroutine") = false) (hb : fn.body.isSome = true) (args : Array Value)
    (hw : Region.wanted oi (yielded ops a.tmps) = true) (hop : oi.op = .call { callee := .value (.func f), args := asx, argTypes := ts }) (hargs : asx.map a.eval = args)
    (h : Calls P f args w fun e w' => ∃ ch, e = .panicked ch ∧ Q (.panic ch) a w') : if Region.wanted oi (yielded ops a.tmps) = true then Oper.wp P oi a w K Q else K (a.put N undef) w := by
  rw [if_pos hw]
  have he := enters_ hf hname hb args w
  have hrun : (execOp a.eval oi).run P w = .ok (.enter f args) w := by
    unfold execOp
    simp [hop, resolve, Deferred.ofValue, invoke, Act.eval, hargs, he]
  unfold Oper.wp
  rw [hrun, Oper.upon_enter]
  refine h.mono fun e w'' hh => ?_
  obtain ⟨ch, rfl, hk⟩ := hh
  exact hk
end
end Go.Proofs.YtliofoikejdjeaaDoor
