/- The document's many, form, Place, once. -/
import Derived.Test.YtliofoikejdjeaaOrd
namespace Go.Proofs.Ytliofoikejdjeaa
open Go.RowKit Go.Proofs.YtliofoikejdjeaaW.PrintWords
set_option linter.unusedVariables false
set_option linter.unusedSimpArgs false
theorem str_ne {x y : ByteArray} (h : x ≠ y) : (x.toList == y.toList) = false := by
  have : x.toList ≠ y.toList := by
    rw [ByteArray.toList_eq, ByteArray.toList_eq]
    exact fun e => h (WideShapes.bytes_inj e)
  simpa using this
def placeS (xs : List ByteArray) (s : ByteArray) : Int := idxF (fun x => decide (x = s)) xs
theorem ref04_Place {w : World} {A : Option Addr} {c : Nat} {xs : List ByteArray} (hx : Kd.C Kd.string w A xs.length xs) (s : ByteArray) :
    Calls Try.prog 65 #[.slice A xs.length c, .string s] w fun e w' => e = .returned (.int .i64 (placeS xs s)) ∧ w' = w := by
  have hm := Kd.C_max hx
  have HX := Aside0.mk hx
  clear hx
  go_enter Try.func65, Try.ntmps65
  go_wp2
  go_loop [5] (fun i => ∃ k : Nat, k ≤ xs.length ∧ i = .int .i64 k ∧ Aside0 (∀ j, j < k → decide (xs.getD j default = s) = false)) (fun i => xs.length - (intOf i).toNat)
  case atStart => exact ⟨0, Nat.zero_le _, rfl, ⟨fun j hj => absurd hj (Nat.not_lt_zero _)⟩⟩
  case round =>
    obtain ⟨k, hk, rfl, AF⟩ := hrel
    by_cases hlt : k < xs.length
    · have hltz : (k : Int) < (xs.length : Int) := by omega
      obtain ⟨ad, rfl, l2⟩ := at_str HX.out k hlt
      obtain ⟨y, hy⟩ : ∃ y, xs.getD k default = y := ⟨_, rfl⟩
      rw [hy] at l2
      have HY := Aside0.mk hy
      clear hy
      by_cases e : y = s
      · subst e
        go_wp2
        go_ret
        exact ⟨rint (idxF_hit hlt (decide_eq_true HY.out) AF.out).symm, rfl⟩
      · have hne := str_ne e
        have HE := Aside0.mk e
        clear e
        go_wp2
        go_round
        case rel =>
          refine ⟨k + 1, by omega, by go_num, ⟨fun j hj => ?_⟩⟩
          by_cases e : j = k
          · subst e
            exact decide_eq_false (by rw [HY.out]; exact HE.out)
          · exact AF.out j (by omega)
        case measure => simp [intOf]; omega
    · have hltz : ¬ (k : Int) < (xs.length : Int) := by omega
      obtain rfl : k = xs.length := by omega
      go_wp2
      go_ret
      exact ⟨rint (idxF_miss AF.out).symm, rfl⟩
theorem place_mem (xs : List ByteArray) (s : ByteArray) : 0 ≤ placeS xs s ↔ s ∈ xs := by
  have h := idxF_any (fun x => decide (x = s)) xs
  rw [Bool.eq_iff_iff] at h
  simpa [placeS] using h
theorem nodup_take {xs : List ByteArray} {k : Nat} (hk : k < xs.length) : (xs.take (k + 1)).Nodup ↔ (xs.take k).Nodup ∧ xs.getD k default ∉ xs.take k := by
  have hl : xs.getD k default = xs[k] := by rw [List.getD_eq_getElem?_getD, List.getElem?_eq_getElem hk]; rfl
  rw [List.take_succ_eq_append_getElem hk, List.nodup_append, hl]
  constructor
  · rintro ⟨h1, _, h3⟩
    exact ⟨h1, fun hm => h3 _ hm _ (by simp) rfl⟩
  · rintro ⟨h1, h2⟩
    refine ⟨h1, by simp, fun a ha b hb => ?_⟩
    rw [List.mem_singleton] at hb
    subst hb
    intro e
    subst e
    exact h2 ha
set_option maxHeartbeats 1000000 in
theorem ref06_once {w : World} {A : Option Addr} {c : Nat} {xs : List ByteArray} (hx : Kd.C Kd.string w A xs.length xs) (hc : xs.length ≤ c) :
    Calls Try.prog 42 #[.slice A xs.length c] w fun e w' => e = .returned (.bool (decide xs.Nodup)) ∧ ∃ n, w' = w.drewN n := by
  have hm := Kd.C_max hx
  have HX := Aside0.mk hx
  clear hx
  go_enter Try.func42, Try.ntmps42
  go_wp2
  go_loopw [3] (fun i wr => ∃ k : Nat, k ≤ xs.length ∧ i = .int .i64 k ∧ Aside0 (∃ n, wr = w.drewN n) ∧ Aside0 (xs.take k).Nodup) (fun i _ => xs.length - (intOf i).toNat)
  case atStart => exact ⟨0, Nat.zero_le _, rfl, ⟨0, rfl⟩, ⟨by simp⟩⟩
  case round =>
    obtain ⟨k, hk, rfl, HW, AF⟩ := hrel
    have HX : Aside0 (Kd.C Kd.string wr A xs.length xs) := ⟨by
      obtain ⟨n, hn⟩ := HW.out
      rw [hn]
      exact Kd.C_drewN HX.out n⟩
    by_cases hlt : k < xs.length
    · have hltz : (k : Int) < (xs.length : Int) := by omega
      obtain ⟨ad, rfl, l2⟩ := at_str HX.out k hlt
      have hC := Kd.C_take HX.out hk
      have hl : (xs.take k).length = k := by rw [List.length_take]; omega
      obtain ⟨y, hy⟩ : ∃ y, xs.getD k default = y := ⟨_, rfl⟩
      rw [hy] at l2
      have HY := Aside0.mk hy
      clear hy
      have hp : ∀ n, Calls Try.prog 65 #[.slice (some ad) k c, .string y] (wr.drewN n) fun e w' => e = .returned (.int .i64 (placeS (xs.take k) y)) ∧ w' = wr.drewN n := fun n => by
        have := ref04_Place (c := c) (Kd.C_drewN hC n) y
        rwa [hl] at this
      have HM := Aside0.mk (place_mem (xs.take k) y)
      clear hC hl
      generalize placeS (xs.take k) y = pl at *
      by_cases h0 : 0 ≤ pl
      · have HF : Aside0 (¬ xs.Nodup) := ⟨fun h => by
          have h1 : (xs.take (k + 1)).Nodup := List.Nodup.sublist (List.take_sublist _ _) h
          rw [nodup_take hlt, HY.out] at h1
          exact h1.2 (HM.out.1 h0)⟩
        go_wp2
        go_quiet ((go_at_call 65; exact Calls.quiet_of_same (hp _)))
        go_wp2
        go_ret
        exact ⟨rbool (decide_eq_false HF.out).symm, drewN_two HW.out ⟨_, rfl⟩⟩
      · have HF : Aside0 ((xs.take (k + 1)).Nodup) := ⟨by
          rw [nodup_take hlt, HY.out]
          exact ⟨AF.out, fun hm => h0 (HM.out.2 hm)⟩⟩
        go_wp2
        go_quiet ((go_at_call 65; exact Calls.quiet_of_same (hp _)))
        go_wp2
        go_roundw
        case rel => exact ⟨k + 1, by omega, by go_num, ⟨drewN_two HW.out ⟨_, rfl⟩⟩, HF⟩
        case measure => simp [intOf]; omega
    · have hltz : ¬ (k : Int) < (xs.length : Int) := by omega
      obtain rfl : k = xs.length := by omega
      go_wp2
      go_ret
      refine ⟨rbool ?_, HW.out⟩
      have := AF.out
      rw [List.take_length] at this
      exact (decide_eq_true this).symm
end Go.Proofs.Ytliofoikejdjeaa
