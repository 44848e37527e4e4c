/- errors.as at the two targets. -/
import Derived.Test.YtnkmpinlijfocaaFmtE3
import Derived.OneCell
namespace Go.Proofs.YtnkmpinlijfocaaFmt
open Go.RowKit Go.Proofs.YtnkmpinlijfocaaFmtW.PrintWords Go.Extern.Stop Go.Stop Go.Extern
set_option linter.unusedVariables false
set_option linter.unusedSimpArgs false
theorem ErAt.uniq {w : World} : ∀ {E E' : Er} {v : Value}, ErAt w v E → ErAt w v E' → E = E' := by
  intro E
  induction E with
  | place e a =>
    rintro E' v ⟨b, rfl, h⟩ h'
    cases E' with
    | place e' a' => obtain ⟨b', hv, h2⟩ := h'; simp only [Value.iface.injEq, Value.pointer.injEq, Option.some.injEq, Addr.mk.injEq] at hv; obtain ⟨_, rfl, _⟩ := hv; rw [h] at h2; simp at h2; rw [h2.1, h2.2]
    | named _ _ => obtain ⟨b', u, hv, _⟩ := h'; simp at hv
    | wrap _ _ => obtain ⟨b', u, hv, _⟩ := h'; simp at hv
    | other _ => obtain ⟨b', hv, _⟩ := h'; simp at hv
  | named n i ih =>
    rintro E' v ⟨b, u, rfl, h, hu⟩ h'
    cases E' with
    | place _ _ => obtain ⟨b', hv, _⟩ := h'; simp at hv
    | named n' i' => obtain ⟨b', u', hv, h2, hu'⟩ := h'; simp only [Value.iface.injEq, Value.pointer.injEq, Option.some.injEq, Addr.mk.injEq] at hv; obtain ⟨_, rfl, _⟩ := hv; rw [h] at h2; simp at h2; obtain ⟨rfl, rfl⟩ := h2; rw [ih hu hu']
    | wrap _ _ => obtain ⟨b', u, hv, _⟩ := h'; simp at hv
    | other _ => obtain ⟨b', hv, _⟩ := h'; simp at hv
  | wrap n i ih =>
    rintro E' v ⟨b, u, rfl, h, hu⟩ h'
    cases E' with
    | place _ _ => obtain ⟨b', hv, _⟩ := h'; simp at hv
    | wrap n' i' => obtain ⟨b', u', hv, h2, hu'⟩ := h'; simp only [Value.iface.injEq, Value.pointer.injEq, Option.some.injEq, Addr.mk.injEq] at hv; obtain ⟨_, rfl, _⟩ := hv; rw [h] at h2; simp at h2; obtain ⟨rfl, rfl⟩ := h2; rw [ih hu hu']
    | named _ _ => obtain ⟨b', u, hv, _⟩ := h'; simp at hv
    | other _ => obtain ⟨b', hv, _⟩ := h'; simp at hv
  | other s =>
    rintro E' v ⟨b, rfl, h⟩ h'
    cases E' with
    | other s' => obtain ⟨b', hv, h2⟩ := h'; simp only [Value.iface.injEq, Value.pointer.injEq, Option.some.injEq, Addr.mk.injEq] at hv; obtain ⟨_, rfl, _⟩ := hv; rw [h] at h2; simp at h2; rw [h2]
    | named _ _ => obtain ⟨b', u, hv, _⟩ := h'; simp at hv
    | wrap _ _ => obtain ⟨b', u, hv, _⟩ := h'; simp at hv
    | place _ _ => obtain ⟨b', hv, _⟩ := h'; simp at hv
theorem taPAs (x : Value) (w : World) : (Instr.typeAssert (.iface 45 x) 24 89 true).run Tryf.prog w = .ok (.tuple #[.nilIface, .bool false]) w := run_typeAssert_lacksB Tryf.underlying89 (by kernel_rfl) (by kernel_rfl) x 24 w
theorem taPUn (x : Value) (w : World) : (Instr.typeAssert (.iface 45 x) 24 82 true).run Tryf.prog w = .ok (.tuple #[.nilIface, .bool false]) w := run_typeAssert_lacksB Tryf.underlying82 (by kernel_rfl) (by kernel_rfl) x 24 w
theorem taPUs (x : Value) (w : World) : (Instr.typeAssert (.iface 45 x) 24 84 true).run Tryf.prog w = .ok (.tuple #[.nilIface, .bool false]) w := run_typeAssert_lacksB Tryf.underlying84 (by kernel_rfl) (by kernel_rfl) x 24 w
theorem taPIs (x : Value) (w : World) : (Instr.typeAssert (.iface 45 x) 24 79 true).run Tryf.prog w = .ok (.tuple #[.iface 45 x, .bool true]) w := by kernel_rfl
theorem taNAs (x : Value) (w : World) : (Instr.typeAssert (.iface 48 x) 24 89 true).run Tryf.prog w = .ok (.tuple #[.nilIface, .bool false]) w := run_typeAssert_lacksB Tryf.underlying89 (by kernel_rfl) (by kernel_rfl) x 24 w
theorem taNUn (x : Value) (w : World) : (Instr.typeAssert (.iface 48 x) 24 82 true).run Tryf.prog w = .ok (.tuple #[.iface 48 x, .bool true]) w := by kernel_rfl
theorem taNUs (x : Value) (w : World) : (Instr.typeAssert (.iface 48 x) 24 84 true).run Tryf.prog w = .ok (.tuple #[.nilIface, .bool false]) w := run_typeAssert_lacksB Tryf.underlying84 (by kernel_rfl) (by kernel_rfl) x 24 w
theorem taNIs (x : Value) (w : World) : (Instr.typeAssert (.iface 48 x) 24 79 true).run Tryf.prog w = .ok (.tuple #[.nilIface, .bool false]) w := run_typeAssert_lacksB Tryf.underlying79 (by kernel_rfl) (by kernel_rfl) x 24 w
theorem taWAs (x : Value) (w : World) : (Instr.typeAssert (.iface 53 x) 24 89 true).run Tryf.prog w = .ok (.tuple #[.nilIface, .bool false]) w := run_typeAssert_lacksB Tryf.underlying89 (by kernel_rfl) (by kernel_rfl) x 24 w
theorem taWUn (x : Value) (w : World) : (Instr.typeAssert (.iface 53 x) 24 82 true).run Tryf.prog w = .ok (.tuple #[.iface 53 x, .bool true]) w := by kernel_rfl
theorem taWUs (x : Value) (w : World) : (Instr.typeAssert (.iface 53 x) 24 84 true).run Tryf.prog w = .ok (.tuple #[.nilIface, .bool false]) w := run_typeAssert_lacksB Tryf.underlying84 (by kernel_rfl) (by kernel_rfl) x 24 w
theorem taWIs (x : Value) (w : World) : (Instr.typeAssert (.iface 53 x) 24 79 true).run Tryf.prog w = .ok (.tuple #[.nilIface, .bool false]) w := run_typeAssert_lacksB Tryf.underlying79 (by kernel_rfl) (by kernel_rfl) x 24 w
theorem taOAs (x : Value) (w : World) : (Instr.typeAssert (.iface 62 x) 24 89 true).run Tryf.prog w = .ok (.tuple #[.nilIface, .bool false]) w := run_typeAssert_lacksB Tryf.underlying89 (by kernel_rfl) (by kernel_rfl) x 24 w
theorem taOUn (x : Value) (w : World) : (Instr.typeAssert (.iface 62 x) 24 82 true).run Tryf.prog w = .ok (.tuple #[.nilIface, .bool false]) w := run_typeAssert_lacksB Tryf.underlying82 (by kernel_rfl) (by kernel_rfl) x 24 w
theorem taOUs (x : Value) (w : World) : (Instr.typeAssert (.iface 62 x) 24 84 true).run Tryf.prog w = .ok (.tuple #[.nilIface, .bool false]) w := run_typeAssert_lacksB Tryf.underlying84 (by kernel_rfl) (by kernel_rfl) x 24 w
theorem taOIs (x : Value) (w : World) : (Instr.typeAssert (.iface 62 x) 24 79 true).run Tryf.prog w = .ok (.tuple #[.nilIface, .bool false]) w := run_typeAssert_lacksB Tryf.underlying79 (by kernel_rfl) (by kernel_rfl) x 24 w
theorem metUN (x : Value) (w : World) : (Go.method 225 48 x "Unwrap").run Tryf.prog w = .ok (52, x) w := by kernel_rfl
theorem metUW (x : Value) (w : World) : (Go.method 225 53 x "Unwrap").run Tryf.prog w = .ok (54, x) w := by kernel_rfl
theorem metIP (x : Value) (w : World) : (Go.method 225 45 x "Is").run Tryf.prog w = .ok (50, x) w := by kernel_rfl
def Er.deep : Er → Nat
  | .place _ _ => 0
  | .named _ i => i.deep + 1
  | .wrap _ i => i.deep + 1
  | .other _ => 0
open Classical in
/-- How many links lie behind a value. -/
noncomputable def deepOf (w : World) (v : Value) : Nat := if h : ∃ E, ErAt w v E then (Classical.choose h).deep else 0
theorem deepOf_eq {w : World} {v : Value} {E : Er} (h : ErAt w v E) : deepOf w v = E.deep := by
  unfold deepOf
  have hx : ∃ E, ErAt w v E := ⟨E, h⟩
  rw [dif_pos hx, ErAt.uniq (Classical.choose_spec hx) h]
def Er.pl : Er → Option (Int × Int)
  | .place e a => some (e, a)
  | .named _ i => i.pl
  | .wrap _ i => i.pl
  | .other _ => none
def Er.nm : Er → Option ByteArray
  | .place _ _ => none
  | .named n _ => some n
  | .wrap _ i => i.nm
  | .other _ => none
set_option maxHeartbeats 4000000 in
set_option maxRecDepth 100000 in
theorem as_P {w : World} {v : Value} {E : Er} {tb : Nat} {fl : Int} (h : ErAt w v E) (htb : w.heap[tb]? = some (.cells #[.pointer none] 45 (0, 0))) (pa : Addr) (ha : w.cell? pa = some (.pointer (some ⟨tb, 0, none⟩))) :
    Calls Tryf.prog 28 #[v, .iface 65 (.pointer (some ⟨tb, 0, none⟩)), .agg #[.pointer (some ⟨1, 65, none⟩), .pointer (some pa), .int .u64 150], .iface 77 (.agg #[.pointer (some ⟨1, 45, none⟩)])] w fun ev w' => ev = .returned (.bool E.pl.isSome) ∧ Below tb w w' ∧
      ∀ e a, E.pl = some (e, a) → ∃ b, w'.heap[tb]? = some (.cells #[.pointer (some ⟨b, 0, none⟩)] 45 (0, 0)) ∧ w'.heap[b]? = some (.cells #[.int .i64 e, .int .i64 a] 47 (0, 0)) := by
  have hTO := @run_callFunc_extern Tryf.prog 23 _ ReflectliteType.typeOf Tryf.func23 (by kernel_rfl) (by kernel_rfl) (by kernel_rfl) (by kernel_rfl)
  have hAS := @run_callFunc_extern Tryf.prog 60 _ (ReflectliteType.relation "AssignableTo" ReflectliteType.assignableTo) Tryf.func60 (by kernel_rfl) (by kernel_rfl) (by kernel_rfl) (by kernel_rfl)
  have hVO := @run_callFunc_extern Tryf.prog 25 _ (fun args => ReflectliteValue.unpack (args.getD 0 (.tuple #[]))) Tryf.func25 (by kernel_rfl) (by kernel_rfl) (by kernel_rfl) (by kernel_rfl)
  have hEL := @run_callFunc_extern Tryf.prog 29 _ (ReflectliteValue.method (ReflectliteValue.valueError "reflectlite.Value.Elem" 0) ReflectliteValue.elem) Tryf.func29 (by kernel_rfl) (by kernel_rfl) (by kernel_rfl) (by kernel_rfl)
  have hSE := @run_callFunc_extern Tryf.prog 30 _ ReflectliteValue.set Tryf.func30 (by kernel_rfl) (by kernel_rfl) (by kernel_rfl) (by kernel_rfl)
  have tP := typeOfP
  have tN := typeOfN
  have tW := typeOfW
  have tO := typeOfO
  have mA := methodAssignableTo
  have aP := asgPP
  have aN := asgNP
  have aW := asgWP
  have aO := asgOP
  have xPAs := taPAs
  have xPUn := taPUn
  have xPUs := taPUs
  have xNAs := taNAs
  have xNUn := taNUn
  have xNUs := taNUs
  have xWAs := taWAs
  have xWUn := taWUn
  have xWUs := taWUs
  have xOAs := taOAs
  have xOUn := taOUn
  have xOUs := taOUs
  have mUN := metUN
  have mUW := metUW
  go_enter Tryf.func28, Tryf.ntmps28
  go_wp2_with fail
  have hb0 := below_alloc (Below.refl w.heap.size w) (.cells #[.pointer (some ⟨1, 65, none⟩), .pointer (some pa), .int .u64 150] 69)
  have hk0 := blk_new w (.cells #[.pointer (some ⟨1, 65, none⟩), .pointer (some pa), .int .u64 150] 69)
  generalize w.alloc (.cells #[.pointer (some ⟨1, 65, none⟩), .pointer (some pa), .int .u64 150] 69) = W1 at *
  have v0 := blk_cell hk0 0
  have v1 := blk_cell hk0 1
  have v2 := blk_cell hk0 2
  have hlt := blk_lt hk0
  have HB0 := Aside0.mk hb0
  have H := Aside0.mk (h.below hb0)
  have HT := Aside0.mk (blk_below htb hb0)
  have HA := Aside0.mk ((hb0.cell (World.block_lt_of_cell? _ _ ha)).trans ha)
  have HL := Aside0.mk (blk_lt htb)
  clear h htb ha hb0 hk0
  go_loop [0] (fun u => ∃ E', Aside0 (ErAt W1 u E') ∧ Aside0 (E'.pl = E.pl)) (fun u => deepOf W1 u)
  case atStart => exact ⟨E, H, ⟨rfl⟩⟩
  case round =>
    obtain ⟨E', hE, hp⟩ := hrel
    cases E' with
    | place e a =>
      obtain ⟨b, rfl, hb⟩ := hE.out
      have hbl := blk_lt hb
      have htl := blk_lt HT.out
      have el := elemVP pa ⟨tb, 0, none⟩ W1 HA.out
      have vE := valueOfEP ⟨b, 0, none⟩ W1
      have st := setP ⟨tb, 0, none⟩ ⟨W1.heap.size, 0, none⟩ ⟨b, 0, none⟩ (.pointer none) (W1.alloc (.cells #[.pointer (some ⟨b, 0, none⟩)] 45)) (by simp) ((blk_cell (blk_alloc HT.out _) 0).trans rfl) (by have := blk_alloc HT.out (.cells #[.pointer (some ⟨b, 0, none⟩)] 45); simp [World.frozen?, this])
      have HQ : Aside0 (Below tb w ((W1.setCell ⟨tb, 0, none⟩ (.pointer (some ⟨b, 0, none⟩))).alloc (.cells #[.pointer (some ⟨b, 0, none⟩)] 45)) ∧ ((W1.setCell ⟨tb, 0, none⟩ (.pointer (some ⟨b, 0, none⟩))).alloc (.cells #[.pointer (some ⟨b, 0, none⟩)] 45)).heap[tb]? = some (.cells #[.pointer (some ⟨b, 0, none⟩)] 45 (0, 0)) ∧ ((W1.setCell ⟨tb, 0, none⟩ (.pointer (some ⟨b, 0, none⟩))).alloc (.cells #[.pointer (some ⟨b, 0, none⟩)] 45)).heap[b]? = some (.cells #[.int .i64 e, .int .i64 a] 47 (0, 0))) := ⟨by
        have hne : b ≠ tb := by
          rintro rfl
          have h1 := hb
          rw [HT.out] at h1
          simp at h1
        have hb5 : Below tb w (W1.setCell ⟨tb, 0, none⟩ (.pointer (some ⟨b, 0, none⟩))) := (HB0.out.mono (Nat.le_of_lt HL.out)).setCell (p := ⟨tb, 0, none⟩) (Nat.le_refl _) _
        refine ⟨hb5.alloc (Nat.le_of_lt (Nat.lt_of_lt_of_le HL.out hb5.size)) _, blk_alloc (one_setCell HT.out) _, ?_⟩
        refine blk_alloc ?_ _
        rw [Below.heap_setCell _ _ _ _ hne]
        exact hb⟩
      go_wp2
      go_ret
      refine ⟨rbool ?_, HQ.out.1, fun e' a' he => ?_⟩
      · rw [← hp.out]; rfl
      · rw [← hp.out] at he
        obtain ⟨rfl, rfl⟩ : e = e' ∧ a = a' := by simpa [Er.pl] using he
        exact ⟨b, HQ.out.2⟩
    | named n i =>
      obtain ⟨b, u, rfl, hb, hu⟩ := hE.out
      have hun := named_Unwrap hb
      have HU := Aside0.mk hu
      have HD : Aside0 (deepOf W1 u < deepOf W1 (.iface 48 (.pointer (some ⟨b, 0, none⟩)))) := ⟨by rw [deepOf_eq hu, deepOf_eq hE.out]; exact Nat.lt_succ_self _⟩
      obtain ⟨ut, ub, rfl⟩ := erAt_iface hu
      go_wp2_with (go_at_call 52; refine hun.mono ?_; rintro e w2 ⟨rfl, rfl⟩)
      go_round
      case rel => exact ⟨i, HU, hp⟩
      case measure => exact HD.out
    | wrap n i =>
      obtain ⟨b, u, rfl, hb, hu⟩ := hE.out
      have hun := wrap_Unwrap hb
      have HU := Aside0.mk hu
      have HD : Aside0 (deepOf W1 u < deepOf W1 (.iface 53 (.pointer (some ⟨b, 0, none⟩)))) := ⟨by rw [deepOf_eq hu, deepOf_eq hE.out]; exact Nat.lt_succ_self _⟩
      obtain ⟨ut, ub, rfl⟩ := erAt_iface hu
      go_wp2_with (go_at_call 54; refine hun.mono ?_; rintro e w2 ⟨rfl, rfl⟩)
      go_round
      case rel => exact ⟨i, HU, hp⟩
      case measure => exact HD.out
    | other s =>
      obtain ⟨b, rfl, hb⟩ := hE.out
      go_wp2
      go_ret
      refine ⟨rbool ?_, HB0.out.mono (Nat.le_of_lt HL.out), fun e' a' he => ?_⟩
      · rw [← hp.out]; rfl
      · rw [← hp.out] at he
        exact absurd he (by simp [Er.pl])
end Go.Proofs.YtnkmpinlijfocaaFmt
