/- errors.as at **named; errors.As. -/
import Derived.Test.YtnkmpinlijfocaaFmtE4
namespace Go.Proofs.YtnkmpinlijfocaaFmt
open Go.RowKit Go.Proofs.YtnkmpinlijfocaaFmtW.PrintWords Go.Extern.Stop Go.Stop Go.Extern
set_option linter.unusedVariables false
set_option linter.unusedSimpArgs false
set_option maxHeartbeats 4000000 in
set_option maxRecDepth 100000 in
theorem as_N {w : World} {v : Value} {E : Er} {tb : Nat} {fl : Int} (h : ErAt w v E) (htb : w.heap[tb]? = some (.cells #[.pointer none] 48 (0, 0))) (pa : Addr) (ha : w.cell? pa = some (.pointer (some ⟨tb, 0, none⟩))) :
    Calls Tryf.prog 28 #[v, .iface 57 (.pointer (some ⟨tb, 0, none⟩)), .agg #[.pointer (some ⟨1, 57, none⟩), .pointer (some pa), .int .u64 150], .iface 77 (.agg #[.pointer (some ⟨1, 48, none⟩)])] w fun ev w' => ev = .returned (.bool E.nm.isSome) ∧ Below tb w w' ∧
      ∀ n, E.nm = some n → ∃ b u, w'.heap[tb]? = some (.cells #[.pointer (some ⟨b, 0, none⟩)] 48 (0, 0)) ∧ w'.heap[b]? = some (.cells #[.string n, u] 50 (0, 0)) := by
  have hTO := @run_callFunc_extern Tryf.prog 23 _ ReflectliteType.typeOf Tryf.func23 (by kernel_rfl) (by kernel_rfl) (by kernel_rfl) (by kernel_rfl)
  have hAS := @run_callFunc_extern Tryf.prog 60 _ (ReflectliteType.relation "AssignableTo" ReflectliteType.assignableTo) Tryf.func60 (by kernel_rfl) (by kernel_rfl) (by kernel_rfl) (by kernel_rfl)
  have hVO := @run_callFunc_extern Tryf.prog 25 _ (fun args => ReflectliteValue.unpack (args.getD 0 (.tuple #[]))) Tryf.func25 (by kernel_rfl) (by kernel_rfl) (by kernel_rfl) (by kernel_rfl)
  have hEL := @run_callFunc_extern Tryf.prog 29 _ (ReflectliteValue.method (ReflectliteValue.valueError "reflectlite.Value.Elem" 0) ReflectliteValue.elem) Tryf.func29 (by kernel_rfl) (by kernel_rfl) (by kernel_rfl) (by kernel_rfl)
  have hSE := @run_callFunc_extern Tryf.prog 30 _ ReflectliteValue.set Tryf.func30 (by kernel_rfl) (by kernel_rfl) (by kernel_rfl) (by kernel_rfl)
  have tP := typeOfP
  have tN := typeOfN
  have tW := typeOfW
  have tO := typeOfO
  have mA := methodAssignableTo
  have aP := asgPN
  have aN := asgNN
  have aW := asgWN
  have aO := asgON
  have xPAs := taPAs
  have xPUn := taPUn
  have xPUs := taPUs
  have xNAs := taNAs
  have xNUn := taNUn
  have xNUs := taNUs
  have xWAs := taWAs
  have xWUn := taWUn
  have xWUs := taWUs
  have xOAs := taOAs
  have xOUn := taOUn
  have xOUs := taOUs
  have mUN := metUN
  have mUW := metUW
  go_enter Tryf.func28, Tryf.ntmps28
  go_wp2_with fail
  have hb0 := below_alloc (Below.refl w.heap.size w) (.cells #[.pointer (some ⟨1, 57, none⟩), .pointer (some pa), .int .u64 150] 69)
  have hk0 := blk_new w (.cells #[.pointer (some ⟨1, 57, none⟩), .pointer (some pa), .int .u64 150] 69)
  generalize w.alloc (.cells #[.pointer (some ⟨1, 57, none⟩), .pointer (some pa), .int .u64 150] 69) = W1 at *
  have v0 := blk_cell hk0 0
  have v1 := blk_cell hk0 1
  have v2 := blk_cell hk0 2
  have hlt := blk_lt hk0
  have HB0 := Aside0.mk hb0
  have H := Aside0.mk (h.below hb0)
  have HT := Aside0.mk (blk_below htb hb0)
  have HA := Aside0.mk ((hb0.cell (World.block_lt_of_cell? _ _ ha)).trans ha)
  have HL := Aside0.mk (blk_lt htb)
  clear h htb ha hb0 hk0
  go_loop [0] (fun u => ∃ E', Aside0 (ErAt W1 u E') ∧ Aside0 (E'.nm = E.nm)) (fun u => deepOf W1 u)
  case atStart => exact ⟨E, H, ⟨rfl⟩⟩
  case round =>
    obtain ⟨E', hE, hp⟩ := hrel
    cases E' with
    | place e a =>
      obtain ⟨b, rfl, hb⟩ := hE.out
      go_wp2
      go_ret
      refine ⟨rbool ?_, HB0.out.mono (Nat.le_of_lt HL.out), fun n' he => ?_⟩
      · rw [← hp.out]; rfl
      · rw [← hp.out] at he
        exact absurd he (by simp [Er.nm])
    | named n i =>
      obtain ⟨b, u, rfl, hb, hu⟩ := hE.out
      clear hu
      have hbl := blk_lt hb
      have htl := blk_lt HT.out
      have el := elemVN pa ⟨tb, 0, none⟩ W1 HA.out
      have vE := valueOfEN ⟨b, 0, none⟩ W1
      have st := setN ⟨tb, 0, none⟩ ⟨W1.heap.size, 0, none⟩ ⟨b, 0, none⟩ (.pointer none) (W1.alloc (.cells #[.pointer (some ⟨b, 0, none⟩)] 48)) (by simp) ((blk_cell (blk_alloc HT.out _) 0).trans rfl) (by have := blk_alloc HT.out (.cells #[.pointer (some ⟨b, 0, none⟩)] 48); simp [World.frozen?, this])
      have HQ : Aside0 (Below tb w ((W1.setCell ⟨tb, 0, none⟩ (.pointer (some ⟨b, 0, none⟩))).alloc (.cells #[.pointer (some ⟨b, 0, none⟩)] 48)) ∧ ((W1.setCell ⟨tb, 0, none⟩ (.pointer (some ⟨b, 0, none⟩))).alloc (.cells #[.pointer (some ⟨b, 0, none⟩)] 48)).heap[tb]? = some (.cells #[.pointer (some ⟨b, 0, none⟩)] 48 (0, 0)) ∧ ((W1.setCell ⟨tb, 0, none⟩ (.pointer (some ⟨b, 0, none⟩))).alloc (.cells #[.pointer (some ⟨b, 0, none⟩)] 48)).heap[b]? = some (.cells #[.string n, u] 50 (0, 0))) := ⟨by
        have hne : b ≠ tb := by
          rintro rfl
          have h1 := hb
          rw [HT.out] at h1
          simp at h1
        have hb5 : Below tb w (W1.setCell ⟨tb, 0, none⟩ (.pointer (some ⟨b, 0, none⟩))) := (HB0.out.mono (Nat.le_of_lt HL.out)).setCell (p := ⟨tb, 0, none⟩) (Nat.le_refl _) _
        refine ⟨hb5.alloc (Nat.le_of_lt (Nat.lt_of_lt_of_le HL.out hb5.size)) _, blk_alloc (one_setCell HT.out) _, ?_⟩
        refine blk_alloc ?_ _
        rw [Below.heap_setCell _ _ _ _ hne]
        exact hb⟩
      go_wp2
      go_ret
      refine ⟨rbool ?_, HQ.out.1, fun n' he => ?_⟩
      · rw [← hp.out]; rfl
      · rw [← hp.out] at he
        obtain rfl : n = n' := by simpa [Er.nm] using he
        exact ⟨b, HQ.out.2.1, u, HQ.out.2.2⟩
    | wrap n i =>
      obtain ⟨b, u, rfl, hb, hu⟩ := hE.out
      have hun := wrap_Unwrap hb
      have HU := Aside0.mk hu
      have HD : Aside0 (deepOf W1 u < deepOf W1 (.iface 53 (.pointer (some ⟨b, 0, none⟩)))) := ⟨by rw [deepOf_eq hu, deepOf_eq hE.out]; exact Nat.lt_succ_self _⟩
      obtain ⟨ut, ub, rfl⟩ := erAt_iface hu
      go_wp2_with (go_at_call 54; refine hun.mono ?_; rintro e w2 ⟨rfl, rfl⟩)
      go_round
      case rel => exact ⟨i, HU, hp⟩
      case measure => exact HD.out
    | other s =>
      obtain ⟨b, rfl, hb⟩ := hE.out
      go_wp2
      go_ret
      refine ⟨rbool ?_, HB0.out.mono (Nat.le_of_lt HL.out), fun n' he => ?_⟩
      · rw [← hp.out]; rfl
      · rw [← hp.out] at he
        exact absurd he (by simp [Er.nm])
end Go.Proofs.YtnkmpinlijfocaaFmt
