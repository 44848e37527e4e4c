/- errors.is, errors.Is, fault.Is. -/
import Derived.Test.YtnkmpinlijfocaaFmtE8
namespace Go.Proofs.YtnkmpinlijfocaaFmt
open Go.RowKit Go.Proofs.YtnkmpinlijfocaaFmtW.PrintWords Go.Extern.Stop Go.Stop Go.Extern
set_option linter.unusedVariables false
set_option linter.unusedSimpArgs false
theorem taErrno (e : Int) (w : World) : (Instr.typeAssert (.iface 22 (.int .i64 e)) 24 22 true).run Tryf.prog w = .ok (.tuple #[.int .i64 e, .bool true]) w := by kernel_rfl
theorem place_Is {w : World} {b : Nat} {e a : Int} (x : Int) (h : w.heap[b]? = some (.cells #[.int .i64 e, .int .i64 a] 47 (0, 0))) :
    Calls Tryf.prog 50 #[.pointer (some ⟨b, 0, none⟩), .iface 22 (.int .i64 x)] w fun ev w' => ev = .returned (.bool (x == e)) ∧ w' = w := by
  have c0 : w.cell? ⟨b, 0, none⟩ = some (.int .i64 e) := by simp [World.cell?, h]
  have ta := taErrno
  clear h
  go_enter Tryf.func50, Tryf.ntmps50
  go_wp2
  go_ret
  exact ⟨rfl, rfl⟩
def isOf (o : Option (Int × Int)) (x : Int) : Bool := match o with
  | some (e, _) => x == e
  | none => false
theorem eqP (a : Addr) (x : Int) (w : World) : (binOp .eql 24 (.iface 45 (.pointer (some a))) (.iface 22 (.int .i64 x))).run Tryf.prog w = .ok (.bool false) w := by kernel_rfl
theorem eqN (a : Addr) (x : Int) (w : World) : (binOp .eql 24 (.iface 48 (.pointer (some a))) (.iface 22 (.int .i64 x))).run Tryf.prog w = .ok (.bool false) w := by kernel_rfl
theorem eqW (a : Addr) (x : Int) (w : World) : (binOp .eql 24 (.iface 53 (.pointer (some a))) (.iface 22 (.int .i64 x))).run Tryf.prog w = .ok (.bool false) w := by kernel_rfl
theorem eqO (a : Addr) (x : Int) (w : World) : (binOp .eql 24 (.iface 62 (.pointer (some a))) (.iface 22 (.int .i64 x))).run Tryf.prog w = .ok (.bool false) w := by kernel_rfl
set_option maxHeartbeats 4000000 in
set_option maxRecDepth 100000 in
theorem errors_is {w : World} {v : Value} {E : Er} (x : Int) (h : ErAt w v E) :
    Calls Tryf.prog 24 #[v, .iface 22 (.int .i64 x), .bool true] w fun ev w' => ev = .returned (.bool (isOf E.pl x)) ∧ w' = w := by
  have xPIs := taPIs
  have xPUn := taPUn
  have xPUs := taPUs
  have xNIs := taNIs
  have xNUn := taNUn
  have xNUs := taNUs
  have xWIs := taWIs
  have xWUn := taWUn
  have xWUs := taWUs
  have xOIs := taOIs
  have xOUn := taOUn
  have xOUs := taOUs
  have qP := eqP
  have qN := eqN
  have qW := eqW
  have qO := eqO
  have mUN := metUN
  have mUW := metUW
  have mIP := metIP
  have H := Aside0.mk h
  clear h
  go_enter Tryf.func24, Tryf.ntmps24
  go_wp2_with fail
  go_loop [0] (fun u => ∃ E', Aside0 (ErAt w u E') ∧ Aside0 (E'.pl = E.pl)) (fun u => deepOf w u)
  case atStart => exact ⟨E, H, ⟨rfl⟩⟩
  case round =>
    obtain ⟨E', hE, hp⟩ := hrel
    cases E' with
    | place e a =>
      obtain ⟨b, rfl, hb⟩ := hE.out
      have hi := place_Is x hb
      cases hq : (x == e) with
      | true =>
        rw [hq] at hi
        go_wp2_with (go_at_call 50; refine hi.mono ?_; rintro ev w2 ⟨rfl, rfl⟩)
        go_ret
        exact ⟨by rw [← hp.out, show isOf (Er.place e a).pl x = (x == e) from rfl, hq]; rfl, rfl⟩
      | false =>
        rw [hq] at hi
        go_wp2_with (go_at_call 50; refine hi.mono ?_; rintro ev w2 ⟨rfl, rfl⟩)
        go_ret
        exact ⟨by rw [← hp.out, show isOf (Er.place e a).pl x = (x == e) from rfl, hq]; rfl, rfl⟩
    | named n i =>
      obtain ⟨b, u, rfl, hb, hu⟩ := hE.out
      have hun := named_Unwrap hb
      have HU := Aside0.mk hu
      have HD : Aside0 (deepOf w u < deepOf w (.iface 48 (.pointer (some ⟨b, 0, none⟩)))) := ⟨by rw [deepOf_eq hu, deepOf_eq hE.out]; exact Nat.lt_succ_self _⟩
      obtain ⟨ut, ub, rfl⟩ := erAt_iface hu
      go_wp2_with (go_at_call 52; refine hun.mono ?_; rintro e w2 ⟨rfl, rfl⟩)
      go_round
      case rel => exact ⟨i, HU, hp⟩
      case measure => exact HD.out
    | wrap n i =>
      obtain ⟨b, u, rfl, hb, hu⟩ := hE.out
      have hun := wrap_Unwrap hb
      have HU := Aside0.mk hu
      have HD : Aside0 (deepOf w u < deepOf w (.iface 53 (.pointer (some ⟨b, 0, none⟩)))) := ⟨by rw [deepOf_eq hu, deepOf_eq hE.out]; exact Nat.lt_succ_self _⟩
      obtain ⟨ut, ub, rfl⟩ := erAt_iface hu
      go_wp2_with (go_at_call 54; refine hun.mono ?_; rintro e w2 ⟨rfl, rfl⟩)
      go_round
      case rel => exact ⟨i, HU, hp⟩
      case measure => exact HD.out
    | other s =>
      obtain ⟨b, rfl, hb⟩ := hE.out
      go_wp2
      go_ret
      exact ⟨by rw [← hp.out]; rfl, rfl⟩
end Go.Proofs.YtnkmpinlijfocaaFmt
