/- errors.Is, fault.Is. -/
import Derived.Test.YtnkmpinlijfocaaFmtE9
namespace Go.Proofs.YtnkmpinlijfocaaFmt
open Go.RowKit Go.Proofs.YtnkmpinlijfocaaFmtW.PrintWords Go.Extern.Stop Go.Stop Go.Extern
set_option linter.unusedVariables false
set_option linter.unusedSimpArgs false
theorem typeOfE (v : Value) (w : World) : (ReflectliteType.typeOf #[.iface 22 v]).run Tryf.prog w = .ok (.iface 77 (.agg #[.pointer (some ⟨1, 22, none⟩)])) w := by kernel_rfl
theorem comparableE (w : World) : (callFunc 61 #[.agg #[.pointer (some ⟨1, 22, none⟩)]]).run Tryf.prog w = .ok (.value (.bool true)) w := by kernel_rfl
set_option maxHeartbeats 4000000 in
set_option maxRecDepth 100000 in
theorem errors_Is {w : World} {v : Value} {E : Er} (x : Int) (h : ErAt w v E) :
    Calls Tryf.prog 13 #[v, .iface 22 (.int .i64 x)] w fun ev w' => ev = .returned (.bool (isOf E.pl x)) ∧ w' = w := by
  have hTO := @run_callFunc_extern Tryf.prog 23 _ ReflectliteType.typeOf Tryf.func23 (by kernel_rfl) (by kernel_rfl) (by kernel_rfl) (by kernel_rfl)
  have tE := typeOfE
  have mC := methodComparable
  have cE := comparableE
  have hi := Aside0.mk (errors_is x h)
  obtain ⟨ty, eb, rfl⟩ := erAt_iface h
  clear h
  go_enter Tryf.func13, Tryf.ntmps13
  go_wp2_with (go_at_call 24; refine hi.out.mono ?_; rintro ev w2 ⟨rfl, rfl⟩)
  go_ret
  exact ⟨rfl, rfl⟩
theorem fault_Is0 (w : World) (x : Int) : Calls Tryf.prog 12 #[.nilIface, .int .i64 x] w fun e w' => e = .returned (.bool (x == 0)) ∧ w' = w := by
  go_enter Tryf.func12, Tryf.ntmps12
  go_wp2
  go_ret
  exact ⟨rfl, rfl⟩
theorem fault_Is {w : World} {v : Value} {E : Er} (x : Int) (h : ErAt w v E) :
    Calls Tryf.prog 12 #[v, .int .i64 x] w fun e w' => e = .returned (.bool (x != 0 && isOf E.pl x)) ∧ w' = w := by
  have hi := Aside0.mk (errors_Is x h)
  obtain ⟨ty, eb, rfl⟩ := erAt_iface h
  clear h
  cases hq : (x != 0) with
  | true =>
    go_enter Tryf.func12, Tryf.ntmps12
    go_wp2_with (go_at_call 13; refine hi.out.mono ?_; rintro ev w2 ⟨rfl, rfl⟩)
    go_ret
    exact ⟨rfl, rfl⟩
  | false =>
    go_enter Tryf.func12, Tryf.ntmps12
    go_wp2
    go_ret
    exact ⟨rfl, rfl⟩
end Go.Proofs.YtnkmpinlijfocaaFmt
