/- errors.As at the two targets. -/
import Derived.Test.YtnkmpinlijfocaaFmtE5
namespace Go.Proofs.YtnkmpinlijfocaaFmt
open Go.RowKit Go.Proofs.YtnkmpinlijfocaaFmtW.PrintWords Go.Extern.Stop Go.Stop Go.Extern
set_option linter.unusedVariables false
set_option linter.unusedSimpArgs false
theorem As_nil (t : Value) (w : World) : Calls Tryf.prog 22 #[.nilIface, t] w fun e w' => e = .returned (.bool false) ∧ w' = w := by
  go_enter Tryf.func22, Tryf.ntmps22
  go_wp2
  go_ret
  exact ⟨rfl, rfl⟩
def GlobalAt (w : World) : Prop := w.cell? ⟨0, 0, none⟩ = some (.iface 77 (.agg #[.pointer (some ⟨1, 24, none⟩)]))
set_option maxHeartbeats 4000000 in
set_option maxRecDepth 100000 in
theorem As_P {w : World} {v : Value} {E : Er} {tb : Nat} (h : ErAt w v E) (hg : GlobalAt w) (htb : w.heap[tb]? = some (.cells #[.pointer none] 45 (0, 0))) :
    ∀ Q : Ending → World → Prop, (∀ W (a : Addr), Below w.heap.size w W → W.cell? a = some (.pointer (some ⟨tb, 0, none⟩)) → Calls Tryf.prog 28 #[v, .iface 65 (.pointer (some ⟨tb, 0, none⟩)), .agg #[.pointer (some ⟨1, 65, none⟩), .pointer (some a), .int .u64 150], .iface 77 (.agg #[.pointer (some ⟨1, 45, none⟩)])] W fun ev w' => ∃ r, ev = .returned (.bool r) ∧ Q (.returned (.bool r)) w') →
    Calls Tryf.prog 22 #[v, .iface 65 (.pointer (some ⟨tb, 0, none⟩))] w Q := by
  intro Q hQ
  have hVO := @run_callFunc_extern Tryf.prog 25 _ (fun args => ReflectliteValue.unpack (args.getD 0 (.tuple #[]))) Tryf.func25 (by kernel_rfl) (by kernel_rfl) (by kernel_rfl) (by kernel_rfl)
  have hTY := @run_callFunc_extern Tryf.prog 26 _ (ReflectliteValue.methodAny (ReflectliteValue.valueError "reflectlite.Value.Type" 0) (fun t _ _ _ => ReflectliteType.toType t)) Tryf.func26 (by kernel_rfl) (by kernel_rfl) (by kernel_rfl) (by kernel_rfl)
  have hNI := @run_callFunc_extern Tryf.prog 27 _ (ReflectliteValue.method (ReflectliteValue.valueError "reflectlite.Value.IsNil" 0) ReflectliteValue.isNil) Tryf.func27 (by kernel_rfl) (by kernel_rfl) (by kernel_rfl) (by kernel_rfl)
  have hKI := @run_callFunc_extern Tryf.prog 45 _ (ReflectliteType.abiMethod fun t => do pure (.int .u8 (← Rtype.kind t))) Tryf.func45 (by kernel_rfl) (by kernel_rfl) (by kernel_rfl) (by kernel_rfl)
  have hEL := @run_callFunc_extern Tryf.prog 62 _ (ReflectliteType.method ReflectliteType.elem) Tryf.func62 (by kernel_rfl) (by kernel_rfl) (by kernel_rfl) (by kernel_rfl)
  have hIM := @run_callFunc_extern Tryf.prog 63 _ (ReflectliteType.relation "Implements" ReflectliteType.implements_) Tryf.func63 (by kernel_rfl) (by kernel_rfl) (by kernel_rfl) (by kernel_rfl)
  have f6 := valueOfP
  have f7 := typeP
  have mK := methodKind
  have mE := methodElem
  have mI := methodImplements
  have k27 := kindTP
  have k25 := kindEP
  have e27 := elemP
  have i25 := implementsP
  have hlt : 0 < w.heap.size := World.block_lt_of_cell? _ _ hg
  have n8 := isNilP ⟨w.heap.size, 0, none⟩ ⟨tb, 0, none⟩ ((w.alloc (.cells #[.pointer (some ⟨tb, 0, none⟩)] 65)).alloc (.cells #[.pointer (some ⟨1, 65, none⟩), .pointer (some ⟨w.heap.size, 0, none⟩), .int .u64 150] 69)) (by simp)
  have hb2 := below_alloc (below_alloc (Below.refl w.heap.size w) (.cells #[.pointer (some ⟨tb, 0, none⟩)] 65)) (.cells #[.pointer (some ⟨1, 65, none⟩), .pointer (some ⟨w.heap.size, 0, none⟩), .int .u64 150] 69)
  have hg2 := (hb2.cell (p := ⟨0, 0, none⟩) hlt).trans hg
  have hcall := Aside0.mk (hQ _ ⟨w.heap.size, 0, none⟩ hb2 (by simp))
  obtain ⟨ty, eb, rfl⟩ := erAt_iface h
  clear h htb hg hb2 hQ
  go_enter Tryf.func22, Tryf.ntmps22
  go_wp2_with (go_at_call 28; refine hcall.out.mono ?_; rintro ev w' ⟨r, rfl, hq⟩)
  exact hq
set_option maxHeartbeats 4000000 in
set_option maxRecDepth 100000 in
theorem As_N {w : World} {v : Value} {E : Er} {tb : Nat} (h : ErAt w v E) (hg : GlobalAt w) (htb : w.heap[tb]? = some (.cells #[.pointer none] 48 (0, 0))) :
    ∀ Q : Ending → World → Prop, (∀ W (a : Addr), Below w.heap.size w W → W.cell? a = some (.pointer (some ⟨tb, 0, none⟩)) → Calls Tryf.prog 28 #[v, .iface 57 (.pointer (some ⟨tb, 0, none⟩)), .agg #[.pointer (some ⟨1, 57, none⟩), .pointer (some a), .int .u64 150], .iface 77 (.agg #[.pointer (some ⟨1, 48, none⟩)])] W fun ev w' => ∃ r, ev = .returned (.bool r) ∧ Q (.returned (.bool r)) w') →
    Calls Tryf.prog 22 #[v, .iface 57 (.pointer (some ⟨tb, 0, none⟩))] w Q := by
  intro Q hQ
  have hVO := @run_callFunc_extern Tryf.prog 25 _ (fun args => ReflectliteValue.unpack (args.getD 0 (.tuple #[]))) Tryf.func25 (by kernel_rfl) (by kernel_rfl) (by kernel_rfl) (by kernel_rfl)
  have hTY := @run_callFunc_extern Tryf.prog 26 _ (ReflectliteValue.methodAny (ReflectliteValue.valueError "reflectlite.Value.Type" 0) (fun t _ _ _ => ReflectliteType.toType t)) Tryf.func26 (by kernel_rfl) (by kernel_rfl) (by kernel_rfl) (by kernel_rfl)
  have hNI := @run_callFunc_extern Tryf.prog 27 _ (ReflectliteValue.method (ReflectliteValue.valueError "reflectlite.Value.IsNil" 0) ReflectliteValue.isNil) Tryf.func27 (by kernel_rfl) (by kernel_rfl) (by kernel_rfl) (by kernel_rfl)
  have hKI := @run_callFunc_extern Tryf.prog 45 _ (ReflectliteType.abiMethod fun t => do pure (.int .u8 (← Rtype.kind t))) Tryf.func45 (by kernel_rfl) (by kernel_rfl) (by kernel_rfl) (by kernel_rfl)
  have hEL := @run_callFunc_extern Tryf.prog 62 _ (ReflectliteType.method ReflectliteType.elem) Tryf.func62 (by kernel_rfl) (by kernel_rfl) (by kernel_rfl) (by kernel_rfl)
  have hIM := @run_callFunc_extern Tryf.prog 63 _ (ReflectliteType.relation "Implements" ReflectliteType.implements_) Tryf.func63 (by kernel_rfl) (by kernel_rfl) (by kernel_rfl) (by kernel_rfl)
  have f6 := valueOfN
  have f7 := typeN
  have mK := methodKind
  have mE := methodElem
  have mI := methodImplements
  have k27 := kindTN
  have k25 := kindEN
  have e27 := elemN
  have i25 := implementsN
  have hlt : 0 < w.heap.size := World.block_lt_of_cell? _ _ hg
  have n8 := isNilN ⟨w.heap.size, 0, none⟩ ⟨tb, 0, none⟩ ((w.alloc (.cells #[.pointer (some ⟨tb, 0, none⟩)] 57)).alloc (.cells #[.pointer (some ⟨1, 57, none⟩), .pointer (some ⟨w.heap.size, 0, none⟩), .int .u64 150] 69)) (by simp)
  have hb2 := below_alloc (below_alloc (Below.refl w.heap.size w) (.cells #[.pointer (some ⟨tb, 0, none⟩)] 57)) (.cells #[.pointer (some ⟨1, 57, none⟩), .pointer (some ⟨w.heap.size, 0, none⟩), .int .u64 150] 69)
  have hg2 := (hb2.cell (p := ⟨0, 0, none⟩) hlt).trans hg
  have hcall := Aside0.mk (hQ _ ⟨w.heap.size, 0, none⟩ hb2 (by simp))
  obtain ⟨ty, eb, rfl⟩ := erAt_iface h
  clear h htb hg hb2 hQ
  go_enter Tryf.func22, Tryf.ntmps22
  go_wp2_with (go_at_call 28; refine hcall.out.mono ?_; rintro ev w' ⟨r, rfl, hq⟩)
  exact hq
end Go.Proofs.YtnkmpinlijfocaaFmt
