/- Equality of lists of numbers, of rules: the library's and the document's. -/
import Derived.Test.YtliofoikejdjeaaTok2
namespace Go.Proofs.Ytliofoikejdjeaa
open Go.RowKit Go.Proofs.YtliofoikejdjeaaW.PrintWords
set_option linter.unusedVariables false
set_option linter.unusedSimpArgs false
theorem eq_lists {α : Type} [Inhabited α] [DecidableEq α] {a b : List α} (hl : a.length = b.length) (h : ∀ j, j < a.length → a.getD j default = b.getD j default) : a = b := by
  apply List.ext_getElem hl
  intro j h1 h2
  have := h j h1
  simpa [List.getD_eq_getElem?_getD, h1, h2] using this
section
variable {w : World} {A B : Option Addr} {c d : Nat} {xs ys : List Int}
set_option maxHeartbeats 1000000 in
theorem equal_int (hx : Kd.C (Kd.int .i64) w A xs.length xs) (hy : Kd.C (Kd.int .i64) w B ys.length ys) :
    Calls Try.prog 59 #[.slice A xs.length c, .slice B ys.length d] w fun e w' => e = .returned (.bool (decide (xs = ys))) ∧ ∃ n, w' = w.drewN n := by
  have hm := Kd.C_max hx
  have hm2 := Kd.C_max hy
  have HX := Aside0.mk hx
  have HY := Aside0.mk hy
  clear hx hy
  by_cases hl : xs.length = ys.length
  · have HL := Aside0.mk hl
    rw [← hl]
    clear hl
    go_enter Try.func59, Try.ntmps59
    go_wp2
    go_loopw [5, 13] (fun _ i wr => ∃ k : Nat, k ≤ xs.length ∧ i = .int .i64 k ∧ Aside0 (∃ n, wr = w.drewN n) ∧ Aside0 (∀ j, j < k → xs.getD j default = ys.getD j default)) (fun _ i _ => xs.length - (intOf i).toNat)
    case atStart => exact ⟨0, Nat.zero_le _, rfl, ⟨0, rfl⟩, ⟨fun j hj => absurd hj (Nat.not_lt_zero _)⟩⟩
    case round =>
      obtain ⟨k, hk, rfl, ⟨n, rfl⟩, AF⟩ := hrel
      by_cases hlt : k < xs.length
      · have hltz : (k : Int) < (xs.length : Int) := by omega
        obtain ⟨ad, rfl, l2⟩ := at_int HX.out k hlt
        obtain ⟨bd, rfl, l3⟩ := at_int HY.out k (by rw [← HL.out]; exact hlt)
        obtain ⟨u, hu⟩ : ∃ u, xs.getD k default = u := ⟨_, rfl⟩
        obtain ⟨v, hv⟩ : ∃ v, ys.getD k default = v := ⟨_, rfl⟩
        rw [hu] at l2
        rw [hv] at l3
        have HU := Aside0.mk hu
        have HV := Aside0.mk hv
        clear hu hv
        by_cases huv : u = v
        · subst huv
          go_wp2
          go_quiet (fail)
          go_wp2
          go_roundw
          case rel =>
            refine ⟨k + 1, by omega, by go_num, ⟨_, rfl⟩, ⟨fun j hj => ?_⟩⟩
            by_cases e : j = k
            · subst e
              rw [HU.out, HV.out]
            · exact AF.out j (by omega)
          case measure => simp [intOf]; omega
        · have huv' : (u != v) = true := by simpa using huv
          have HN := Aside0.mk huv
          clear huv
          go_wp2
          go_quiet (fail)
          go_wp2
          go_ret
          exact ⟨rbool (decide_eq_false fun h => HN.out (by rw [← HU.out, ← HV.out, h])).symm, _, World.drewN_drewN ..⟩
      · have hltz : ¬ (k : Int) < (xs.length : Int) := by omega
        go_wp2
        go_ret
        exact ⟨rbool (decide_eq_true (eq_lists HL.out fun j hj => AF.out j (by omega))).symm, _, rfl⟩
  · have hl' : ((xs.length : Int) != (ys.length : Int)) = true := by simp; omega
    have HN := Aside0.mk hl
    clear hl
    go_enter Try.func59, Try.ntmps59
    go_wp2
    go_ret
    exact ⟨rbool (decide_eq_false fun h => HN.out (by rw [h])).symm, 0, rfl⟩
set_option maxHeartbeats 1000000 in
theorem ref06_Ints (hx : Kd.C (Kd.int .i64) w A xs.length xs) (hy : Kd.C (Kd.int .i64) w B ys.length ys) :
    Calls Try.prog 83 #[.slice A xs.length c, .slice B ys.length d] w fun e w' => e = .returned (.bool (decide (xs = ys))) ∧ ∃ n, w' = w.drewN n := by
  have hm := Kd.C_max hx
  have hm2 := Kd.C_max hy
  have HX := Aside0.mk hx
  have HY := Aside0.mk hy
  clear hx hy
  by_cases hl : xs.length = ys.length
  · have HL := Aside0.mk hl
    rw [← hl]
    clear hl
    go_enter Try.func83, Try.ntmps83
    go_wp2
    go_loopw [5] (fun i wr => ∃ k : Nat, k ≤ xs.length ∧ i = .int .i64 k ∧ Aside0 (∃ n, wr = w.drewN n) ∧ Aside0 (∀ j, j < k → xs.getD j default = ys.getD j default)) (fun i _ => xs.length - (intOf i).toNat)
    case atStart => exact ⟨0, Nat.zero_le _, rfl, ⟨0, rfl⟩, ⟨fun j hj => absurd hj (Nat.not_lt_zero _)⟩⟩
    case round =>
      obtain ⟨k, hk, rfl, ⟨n, rfl⟩, AF⟩ := hrel
      by_cases hlt : k < xs.length
      · have hltz : (k : Int) < (xs.length : Int) := by omega
        obtain ⟨ad, rfl, l2⟩ := at_int HX.out k hlt
        obtain ⟨bd, rfl, l3⟩ := at_int HY.out k (by rw [← HL.out]; exact hlt)
        obtain ⟨u, hu⟩ : ∃ u, xs.getD k default = u := ⟨_, rfl⟩
        obtain ⟨v, hv⟩ : ∃ v, ys.getD k default = v := ⟨_, rfl⟩
        rw [hu] at l2
        rw [hv] at l3
        have HU := Aside0.mk hu
        have HV := Aside0.mk hv
        clear hu hv
        by_cases huv : u = v
        · subst huv
          go_wp2
          go_quiet (fail)
          go_wp2
          go_roundw
          case rel =>
            refine ⟨k + 1, by omega, by go_num, ⟨_, rfl⟩, ⟨fun j hj => ?_⟩⟩
            by_cases e : j = k
            · subst e
              rw [HU.out, HV.out]
            · exact AF.out j (by omega)
          case measure => simp [intOf]; omega
        · have huv' : (u != v) = true := by simpa using huv
          have HN := Aside0.mk huv
          clear huv
          go_wp2
          go_quiet (fail)
          go_wp2
          go_ret
          exact ⟨rbool (decide_eq_false fun h => HN.out (by rw [← HU.out, ← HV.out, h])).symm, _, World.drewN_drewN ..⟩
      · have hltz : ¬ (k : Int) < (xs.length : Int) := by omega
        go_wp2
        go_ret
        exact ⟨rbool (decide_eq_true (eq_lists HL.out fun j hj => AF.out j (by omega))).symm, _, rfl⟩
  · have hl' : ((xs.length : Int) != (ys.length : Int)) = true := by simp; omega
    have HN := Aside0.mk hl
    clear hl
    go_enter Try.func83, Try.ntmps83
    go_wp2
    go_ret
    exact ⟨rbool (decide_eq_false fun h => HN.out (by rw [h])).symm, 0, rfl⟩
end
/-- Two rules as the callee is given them. -/
theorem rl_eq (a b : Rl) : decide (a = b) = (decide (a.left = b.left) && decide (a.right = b.right)) := by
  obtain ⟨a1, a2⟩ := a
  obtain ⟨b1, b2⟩ := b
  rw [Bool.eq_iff_iff]
  simp
set_option maxHeartbeats 1000000 in
theorem gram_sameRule {w : World} {A B : Option Addr} {c d : Nat} {x y : Rl} (hx : Kd.C (Kd.int .i64) w A x.right.length x.right) (hy : Kd.C (Kd.int .i64) w B y.right.length y.right) :
    Calls Try.prog 32 #[.agg #[.int .i64 x.left, .slice A x.right.length c], .agg #[.int .i64 y.left, .slice B y.right.length d]] w fun e w' => e = .returned (.bool (decide (x = y))) ∧ Below w.heap.size w w' := by
  have hb0 := below_alloc (below_alloc (Below.refl _ w) (.cells #[.int .i64 x.left, .slice A x.right.length c] 28)) (.cells #[.int .i64 y.left, .slice B y.right.length d] 28)
  have he := equal_int (c := c) (d := d) (Kd.C_below hx hb0) (Kd.C_below hy hb0)
  rw [rl_eq]
  clear hx hy hb0
  generalize decide (x.right = y.right) = b at *
  obtain ⟨x1, x2⟩ := x
  obtain ⟨y1, y2⟩ := y
  simp only at *
  by_cases h1 : x1 = y1
  · subst h1
    go_enter Try.func32, Try.ntmps32
    go_wp2_with (go_at_call 59; refine he.mono ?_; rintro e w' ⟨rfl, n, rfl⟩)
    go_ret
    exact ⟨rbool (by simp), pw_below_drewN (below_alloc (below_alloc (Below.refl _ _) _) _) _⟩
  · have h1' : (x1 == y1) = false := by simpa using h1
    have HN := Aside0.mk h1
    clear h1
    go_enter Try.func32, Try.ntmps32
    go_wp2
    go_ret
    exact ⟨rbool (by simp [HN.out]), below_alloc (below_alloc (Below.refl _ _) _) _⟩
set_option maxHeartbeats 1000000 in
theorem ref06_SameRule {w : World} {A B : Option Addr} {c d : Nat} {x y : Rl} (hx : Kd.C (Kd.int .i64) w A x.right.length x.right) (hy : Kd.C (Kd.int .i64) w B y.right.length y.right) :
    Calls Try.prog 68 #[.agg #[.int .i64 x.left, .slice A x.right.length c], .agg #[.int .i64 y.left, .slice B y.right.length d]] w fun e w' => e = .returned (.bool (decide (x = y))) ∧ Below w.heap.size w w' := by
  have hb0 := below_alloc (below_alloc (Below.refl _ w) (.cells #[.int .i64 x.left, .slice A x.right.length c] 28)) (.cells #[.int .i64 y.left, .slice B y.right.length d] 28)
  have he := ref06_Ints (c := c) (d := d) (Kd.C_below hx hb0) (Kd.C_below hy hb0)
  rw [rl_eq]
  clear hx hy hb0
  generalize decide (x.right = y.right) = b at *
  obtain ⟨x1, x2⟩ := x
  obtain ⟨y1, y2⟩ := y
  simp only at *
  by_cases h1 : x1 = y1
  · subst h1
    go_enter Try.func68, Try.ntmps68
    go_wp2_with (go_at_call 83; refine he.mono ?_; rintro e w' ⟨rfl, n, rfl⟩)
    go_ret
    exact ⟨rbool (by simp), pw_below_drewN (below_alloc (below_alloc (Below.refl _ _) _) _) _⟩
  · have h1' : (x1 == y1) = false := by simpa using h1
    have HN := Aside0.mk h1
    clear h1
    go_enter Try.func68, Try.ntmps68
    go_wp2
    go_ret
    exact ⟨rbool (by simp [HN.out]), below_alloc (below_alloc (Below.refl _ _) _) _⟩
end Go.Proofs.Ytliofoikejdjeaa
