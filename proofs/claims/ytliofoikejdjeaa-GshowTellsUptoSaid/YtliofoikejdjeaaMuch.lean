/- Much: what it bounds. -/
import Derived.Test.YtliofoikejdjeaaCheck2
namespace Go.Proofs.Ytliofoikejdjeaa
open Go.RowKit Go.Proofs.YtliofoikejdjeaaW.PrintWords
set_option linter.unusedVariables false
set_option linter.unusedSimpArgs false
structure Gm.Bulk (g : Gm) : Prop where
  terms : g.terms.length ≤ 1048576
  nons : g.nons.length ≤ 1048576
  rules : g.rules.length ≤ 1048576
  tsz : ∀ s ∈ g.terms, s.size ≤ 1048576
  nsz : ∀ s ∈ g.nons, s.size ≤ 1048576
  right : ∀ r ∈ g.rules, r.right.length ≤ 1048576
section
variable {w : World} {A0 A1 A2 : Option Addr} {c0 c1 c2 : Nat} {g : Gm}
set_option maxHeartbeats 4000000 in
theorem law06_Much (h : GmAt w A0 A1 A2 c0 c1 c2 g) (hk : g.Bulk) : Calls Try.prog 4 #[.agg (gv A0 A1 A2 c0 c1 c2 g)] w fun e w' => (∃ n : Int, e = .returned (.int .i64 n) ∧ (n ≤ 300 → g.terms.length + g.nons.length + g.rules.length ≤ 300 ∧ ∀ r ∈ g.rules, r.right.length ≤ 10000)) ∧ Below w.heap.size w w' := by
  have h0 := hk.terms
  have h1 := hk.nons
  have h2 := hk.rules
  have hb0 := below_alloc (Below.refl _ w) (.cells (gv A0 A1 A2 c0 c1 c2 g) 25)
  have hk0 := blk_new w (.cells (gv A0 A1 A2 c0 c1 c2 g) 25)
  have HT := Aside0.mk (Kd.C_below h.terms hb0)
  have HN := Aside0.mk (Kd.C_below h.nons hb0)
  have HR := Aside0.mk (Kd.C_below h.rules hb0)
  have ZT := Aside0.mk hk.tsz
  have ZN := Aside0.mk hk.nsz
  have ZR := Aside0.mk hk.right
  clear h hk
  unfold gv at *
  go_enter Try.func4, Try.ntmps4
  go_wp2
  generalize w.alloc (.cells #[.slice A0 g.terms.length c0, .slice A1 g.nons.length c1, .slice A2 g.rules.length c2, .int .i64 g.start] 25) = W0 at *
  have HB0 := Aside0.mk hb0
  obtain ⟨f0, f1, f2, f3⟩ := gcells hk0
  clear hb0 hk0
  obtain ⟨T, hT⟩ : ∃ T : Int, T = (g.terms.length : Int) + g.nons.length + g.rules.length := ⟨_, rfl⟩
  have hT2 : T ≤ 3145728 := by omega
  have hT0 : 0 ≤ T := by omega
  go_loop [3, 4] (fun s i => ∃ (k : Nat) (n : Int), k ≤ g.terms.length ∧ k ≤ 200 ∧ i = .int .i64 k ∧ s = .int .i64 n ∧ T ≤ n ∧ n ≤ T + k * 1048576) (fun _ i => g.terms.length - (intOf i).toNat)
  case atStart => exact ⟨0, _, Nat.zero_le _, Nat.zero_le _, rfl, rfl, by omega, by omega⟩
  case round =>
    obtain ⟨k, n, hk, hk2, rfl, rfl, n1, n2⟩ := hrel
    by_cases hlt : k < g.terms.length ∧ k < 200
    · obtain ⟨hl1, hl2⟩ := hlt
      have hltz : (k : Int) < (g.terms.length : Int) := by omega
      have hltw : (k : Int) < 200 := by omega
      obtain ⟨ad, rfl, l2⟩ := at_str HT.out k hl1
      have hys := ZT.out _ (getD_mem hl1)
      obtain ⟨y, hy⟩ : ∃ y, g.terms.getD k default = y := ⟨_, rfl⟩
      rw [hy] at l2 hys
      clear hy
      go_wp2
      go_round
      case rel => exact ⟨k + 1, n + (y.size : Int) / 20, by omega, by omega, by go_num, by go_num, by omega, by omega⟩
      case measure => simp [intOf]; omega
    · have HL := Aside0.mk hlt
      have hcnd : (k : Int) < (g.terms.length : Int) → ¬ (k : Int) < 200 := by omega
      clear hlt
      have HN2 : Aside0 (n ≤ T + 200 * 1048576) := ⟨by omega⟩
      by_cases hltz : (k : Int) < (g.terms.length : Int)
      all_goals
        (first | have hltw : ¬ (k : Int) < 200 := hcnd hltz | skip)
        clear hcnd
        clear n2
        go_wp2
        go_loop [3, 5] (fun s i => ∃ (k : Nat) (n : Int), k ≤ g.nons.length ∧ k ≤ 200 ∧ i = .int .i64 k ∧ s = .int .i64 n ∧ T ≤ n ∧ n ≤ T + 209715200 + k * 1048576) (fun _ i => g.nons.length - (intOf i).toNat)
        case atStart => exact ⟨0, n, Nat.zero_le _, Nat.zero_le _, rfl, rfl, n1, by have := HN2.out; omega⟩
        case round =>
          clear n1 HN2
          obtain ⟨k, n, hk, hk2, rfl, rfl, n1, n2⟩ := hrel
          by_cases hlt : k < g.nons.length ∧ k < 200
          · obtain ⟨hl1, hl2⟩ := hlt
            have hltz : (k : Int) < (g.nons.length : Int) := by omega
            have hltw : (k : Int) < 200 := by omega
            obtain ⟨ad, rfl, l2⟩ := at_str HN.out k hl1
            have hys := ZN.out _ (getD_mem hl1)
            obtain ⟨y, hy⟩ : ∃ y, g.nons.getD k default = y := ⟨_, rfl⟩
            rw [hy] at l2 hys
            clear hy
            go_wp2
            go_round
            case rel => exact ⟨k + 1, n + (y.size : Int) / 20, by omega, by omega, by go_num, by go_num, by omega, by omega⟩
            case measure => simp [intOf]; omega
          · have hcnd : (k : Int) < (g.nons.length : Int) → ¬ (k : Int) < 200 := by omega
            clear hlt
            have HN2 : Aside0 (n ≤ T + 419430400) := ⟨by omega⟩
            by_cases hltz : (k : Int) < (g.nons.length : Int)
            all_goals
              (first | have hltw : ¬ (k : Int) < 200 := hcnd hltz | skip)
              clear hcnd
              clear n2
              go_wp2
              go_loop [3, 6] (fun s i => ∃ (k : Nat) (n : Int), k ≤ g.rules.length ∧ k ≤ 400 ∧ i = .int .i64 k ∧ s = .int .i64 n ∧ T ≤ n ∧ n ≤ T + 419430400 + k * 1048576 ∧ Aside0 (∀ j, j < k → ((g.rules.getD j default).right.length : Int) / 9 ≤ n)) (fun _ i => g.rules.length - (intOf i).toNat)
              case atStart => exact ⟨0, n, Nat.zero_le _, Nat.zero_le _, rfl, rfl, n1, by have := HN2.out; omega, ⟨fun j hj => absurd hj (Nat.not_lt_zero _)⟩⟩
              case round =>
                clear n1 HN2
                obtain ⟨k, n, hk, hk2, rfl, rfl, n1, n2, AF⟩ := hrel
                by_cases hlt : k < g.rules.length ∧ k < 400
                · obtain ⟨hl1, hl2⟩ := hlt
                  have hltz : (k : Int) < (g.rules.length : Int) := by omega
                  have hltw : (k : Int) < 400 := by omega
                  obtain ⟨ad, Ar, cr, rfl, k1, k2, k3, _⟩ := at_rl HR.out k hl1
                  have hys := ZR.out _ (getD_mem hl1)
                  have hmd : ∃ y, g.rules.getD k default = y := ⟨_, rfl⟩
                  obtain ⟨y, hy⟩ := hmd
                  rw [hy] at k1 k2 hys
                  have HY := Aside0.mk hy
                  clear hy k3
                  go_wp2
                  go_round
                  case rel => exact ⟨k + 1, n + (y.right.length : Int) / 9, by omega, by omega, by go_num, by go_num, by omega, by omega, ⟨fun j hj => by
                    rcases Nat.lt_or_ge j k with hj1 | hj1
                    · have := AF.out j hj1; omega
                    · obtain rfl : j = k := by omega
                      rw [HY.out]
                      omega⟩⟩
                  case measure => simp [intOf]; omega
                · have hcnd : (k : Int) < (g.rules.length : Int) → ¬ (k : Int) < 400 := by omega
                  have HL := Aside0.mk hlt
                  clear hlt
                  have HTT := Aside0.mk hT
                  have HQ : Aside0 (n ≤ 300 → g.terms.length + g.nons.length + g.rules.length ≤ 300 ∧ ∀ r ∈ g.rules, r.right.length ≤ 10000) := ⟨fun hn => by
                    have hl := HL.out
                    refine ⟨by omega, fun r hr => ?_⟩
                    obtain ⟨j, hj, rfl⟩ := List.mem_iff_getElem.1 hr
                    have := AF.out j (by omega)
                    rw [List.getD_eq_getElem?_getD, List.getElem?_eq_getElem hj, Option.getD_some] at this
                    omega⟩
                  by_cases hltz : (k : Int) < (g.rules.length : Int)
                  all_goals
                    (first | have hltw : ¬ (k : Int) < 400 := hcnd hltz | skip)
                    clear hcnd
                    go_wp2
                    go_ret
                    exact ⟨⟨n, rfl, HQ.out⟩, HB0.out⟩
end
end Go.Proofs.Ytliofoikejdjeaa
