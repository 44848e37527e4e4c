/- char: classes of bytes, names; the document's likewise: both by one plain function. -/
import Derived.Test.YtliofoikejdjeaaFn
import Derived.Lib.OthersKept
namespace Go.Proofs.Ytliofoikejdjeaa
open Go.RowKit Go.Proofs.YtliofoikejdjeaaW.PrintWords
set_option linter.unusedVariables false
set_option linter.unusedSimpArgs false
def alpha (n : Int) : Bool := decide (65 ≤ n ∧ n ≤ 90) || decide (97 ≤ n ∧ n ≤ 122)
def ltr (n : Int) : Int := if 48 ≤ n ∧ n ≤ 57 then 3 else if n = 95 ∨ alpha n = true then 4 else 8
def cls (n : Int) : Int :=
  if n = 0 then 0 else if n = 32 ∨ n = 9 then 1 else if n = 10 then 2
  else if n = 38 ∨ n = 124 ∨ n = 59 ∨ n = 60 ∨ n = 62 ∨ n = 40 ∨ n = 41 then 5
  else if n = 39 ∨ n = 34 ∨ n = 92 ∨ n = 96 then 6 else if n = 36 then 7 else ltr n
def nameOk (s : ByteArray) : Bool := decide (0 < s.size) && decide (∀ (i : Nat) (h : i < s.size), cls (s[i]'h).toNat = 4 ∨ cls (s[i]'h).toNat = 3 ∧ 0 < i)
theorem or32 : ∀ c : UInt8, (97 ≤ bits BinOp.or IntKind.u8 (c.toNat : Int) 32 ∧ bits BinOp.or IntKind.u8 (c.toNat : Int) 32 ≤ 122) ↔ alpha c.toNat = true := by
  have h : ∀ n : Fin 256, (97 ≤ bits BinOp.or IntKind.u8 (n.val : Int) 32 ∧ bits BinOp.or IntKind.u8 (n.val : Int) 32 ≤ 122) ↔ alpha n.val = true := by decide +kernel
  intro c
  exact h ⟨c.toNat, c.toNat_lt⟩
theorem cls_hi (n : Int) (h : 128 ≤ n) : cls n = 8 := by
  have : alpha n = false := by simp [alpha]; omega
  unfold cls ltr
  rw [this]
  (repeat' split) <;> first | rfl | (exfalso; omega) | simp_all

theorem char_letter (c : UInt8) (w : World) : Calls Try.prog 84 #[.int .u8 c.toNat] w fun e w' => e = .returned (.int .i64 (ltr c.toNat)) ∧ w' = w := by
  have hc : (c.toNat : Int) ≤ 255 := by have := c.toNat_lt; omega
  have H := Aside0.mk (or32 c)
  go_enter Try.func84, Try.ntmps84
  go_wp2
  all_goals
    go_ret
    refine ⟨rint ?_, rfl⟩
    have h := H.out
    try simp only [beq_iff_eq, beq_eq_false_iff_ne, ne_eq] at *
    unfold ltr
    cases ha : alpha c.toNat
    · have h0 := mt h.1 (by simp [ha])
      simp only [Bool.false_eq_true, or_false]
      (repeat' split) <;> omega
    · have h0 := h.2 ha
      simp only [or_true, if_true]
      (repeat' split) <;> first | omega | (simp [alpha] at ha; omega)

theorem char_Class (c : UInt8) (w : World) : Calls Try.prog 73 #[.int .u8 c.toNat] w fun e w' => e = .returned (.int .i64 (cls c.toNat)) ∧ w' = w := by
  have hc : (c.toNat : Int) ≤ 255 := by have := c.toNat_lt; omega
  have hl := char_letter c w
  go_enter Try.func73, Try.ntmps73
  go_wp2_with (go_at_call 84; refine hl.mono ?_; rintro e w' ⟨rfl, rfl⟩)
  all_goals
    go_ret
    refine ⟨rint ?_, rfl⟩
    try simp only [beq_iff_eq, beq_eq_false_iff_ne, ne_eq] at *
    unfold cls
    (repeat' split) <;> first | rfl | (exfalso; omega)

set_option maxHeartbeats 4000000 in
theorem ref01_Class (c : UInt8) (w : World) : Calls Try.prog 86 #[.int .u8 c.toNat] w fun e w' => e = .returned (.int .i64 (cls c.toNat)) ∧ w' = w := by
  have hc : (c.toNat : Int) ≤ 255 := by have := c.toNat_lt; omega
  go_enter Try.func86, Try.ntmps86
  go_wp2
  all_goals
    go_ret
    refine ⟨rint ?_, rfl⟩
    try simp only [beq_iff_eq, beq_eq_false_iff_ne, ne_eq] at *
    unfold cls ltr alpha
    simp only [Bool.or_eq_true, decide_eq_true_eq]
    (repeat' split) <;> first | rfl | (exfalso; omega) | (exfalso; simp_all; done)

theorem char_ascii (s : ByteArray) (hs : s.size ≤ 140737488351232) (w : World) : Calls Try.prog 70 #[.string s] w fun e w' => e = .returned (.bool (decide (∀ (i : Nat) (h : i < s.size), (s[i]'h).toNat < 128))) ∧ w' = w := by
  go_enter Try.func70, Try.ntmps70
  go_wp2
  go_loop [3, 6] (fun _ i => ∃ k : Nat, k ≤ s.size ∧ i = .int .i64 k ∧ Aside0 (∀ (j : Nat) (h : j < s.size), j < k → (s[j]'h).toNat < 128)) (fun _ i => s.size - (intOf i).toNat)
  case atStart => exact ⟨0, Nat.zero_le _, rfl, ⟨fun j _ hj => absurd hj (Nat.not_lt_zero _)⟩⟩
  case round =>
    obtain ⟨k, hk, rfl, A⟩ := hrel
    by_cases hlt : k < s.size
    · by_cases h8 : (s[k]'hlt).toNat < 128
      · have HB : Aside0 _ := ⟨h8⟩
        have h8' : ¬ (128 : Int) ≤ ((s[k]'hlt).toNat : Int) := by omega
        clear h8
        go_wp2
        go_round
        case rel =>
          refine ⟨k + 1, by omega, by go_num, ⟨fun j h hj => ?_⟩⟩
          by_cases e : j = k
          · subst e
            exact HB.out
          · exact A.out j h (by omega)
        case measure => simp [intOf]; omega
      · have HB : Aside0 _ := ⟨h8⟩
        have h8' : (128 : Int) ≤ ((s[k]'hlt).toNat : Int) := by omega
        clear h8
        go_wp2
        go_ret
        refine ⟨rbool ?_, rfl⟩
        exact (decide_eq_false fun h => HB.out (h k hlt)).symm
    · go_wp2
      go_ret
      exact ⟨rbool (decide_eq_true fun i h => A.out i h (by omega)).symm, rfl⟩

end Go.Proofs.Ytliofoikejdjeaa
