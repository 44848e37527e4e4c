/- The document's unlike, known. -/
import Derived.Test.YtliofoikejdjeaaRef7
namespace Go.Proofs.Ytliofoikejdjeaa
open Go.RowKit Go.Proofs.YtliofoikejdjeaaW.PrintWords
set_option linter.unusedVariables false
set_option linter.unusedSimpArgs false
section
variable {w : World} {A0 A1 A2 : Option Addr} {c0 c1 c2 : Nat} {g : Gm}
set_option maxHeartbeats 2000000 in
theorem ref06_unlike (h : GmAt w A0 A1 A2 c0 c1 c2 g) : Calls Try.prog 45 #[.agg (gv A0 A1 A2 c0 c1 c2 g)] w fun e w' => e = .returned (.bool (unlikeR g.rules)) ∧ Below w.heap.size w w' := by
  have h2 := h.m2
  have hb0 := below_alloc (Below.refl _ w) (.cells (gv A0 A1 A2 c0 c1 c2 g) 25)
  have HK := Aside0.mk (blk_new w (.cells (gv A0 A1 A2 c0 c1 c2 g) 25))
  have HR := Aside0.mk (Kd.C_below h.rules hb0)
  clear h
  unfold gv at *
  go_enter Try.func45, Try.ntmps45
  go_wp2
  generalize w.alloc (.cells #[.slice A0 g.terms.length c0, .slice A1 g.nons.length c1, .slice A2 g.rules.length c2, .int .i64 g.start] 25) = W0 at *
  have HB0 := Aside0.mk hb0
  have hlt0 := blk_lt HK.out
  clear hb0
  go_loopw [3, 4] (fun i _ wr => ∃ k : Nat, k ≤ g.rules.length ∧ i = .int .i64 k ∧ w.heap.size < wr.heap.size ∧ Aside0 (Below W0.heap.size W0 wr) ∧ Aside0 (∀ i, i < k → ∀ j, j < i → g.rules.getD j default ≠ g.rules.getD i default)) (fun i _ _ => g.rules.length - (intOf i).toNat)
  case atStart => exact ⟨0, Nat.zero_le _, rfl, hlt0, ⟨Below.refl _ _⟩, ⟨fun j hj => absurd hj (Nat.not_lt_zero _)⟩⟩
  case round =>
    clear hlt0
    obtain ⟨k, hk, rfl, hlt1, HB, AF⟩ := hrel
    obtain ⟨f0, f1, f2, f3⟩ := gcells (blk_below HK.out HB.out)
    by_cases hkl : k < g.rules.length
    · have hkz : (k : Int) < (g.rules.length : Int) := by omega
      obtain ⟨x, hx⟩ : ∃ x, g.rules.getD k default = x := ⟨_, rfl⟩
      have HX := Aside0.mk hx
      clear hx
      go_wp2
      go_loopw [4] (fun i wr => ∃ m : Nat, m ≤ k ∧ i = .int .i64 m ∧ w.heap.size < wr.heap.size ∧ Aside0 (Below W0.heap.size W0 wr) ∧ Aside0 (∀ j, j < m → g.rules.getD j default ≠ x)) (fun i _ => k - (intOf i).toNat)
      case atStart => exact ⟨0, Nat.zero_le _, rfl, hlt1, HB, ⟨fun j hj => absurd hj (Nat.not_lt_zero _)⟩⟩
      case round =>
        clear HB f0 f1 f2 f3 hlt1
        obtain ⟨m, hm, rfl, hlt1, HB, AG⟩ := hrel
        by_cases hmk : m < k
        · have hmz : (m : Int) < (k : Int) := by omega
          have hml : (m : Int) < (g.rules.length : Int) := by omega
          have HC := Aside0.mk (Kd.C_below HR.out HB.out)
          have h3 := hlt1
          obtain ⟨ad, Ax, cx, hA, k1, k2, k3, k4⟩ := at_rl HC.out k hkl
          obtain ⟨ad', Ay, cy, hA', m1, m2, m3, m4⟩ := at_rl HC.out m (by omega)
          obtain rfl : ad = ad' := Option.some.inj (hA.symm.trans hA')
          subst hA
          clear hA'
          rw [HX.out] at k1 k2 k3 k4
          obtain ⟨y, hy⟩ : ∃ y, g.rules.getD m default = y := ⟨_, rfl⟩
          rw [hy] at m1 m2 m3 m4
          have HY := Aside0.mk hy
          clear hy k3 m3
          have hd : Aside0 (∀ W, Below wr.heap.size wr W → Calls Try.prog 68 #[.agg #[.int .i64 x.left, .slice Ax x.right.length cx], .agg #[.int .i64 y.left, .slice Ay y.right.length cy]] W fun e w' => e = .returned (.bool (decide (x = y))) ∧ Below W.heap.size W w') := ⟨fun W hb => ref06_SameRule (Kd.C_below k4 hb) (Kd.C_below m4 hb)⟩
          clear k4 m4
          obtain ⟨d, hdd⟩ : ∃ d, decide (x = y) = d := ⟨_, rfl⟩
          rw [hdd] at hd
          have HD := Aside0.mk hdd
          clear hdd
          have hla := World.block_lt_of_cell? _ _ k1
          have hlb := World.block_lt_of_cell? _ _ m1
          have key : ∀ w', Below wr.heap.size wr w' → w'.cell? ⟨w.heap.size, 2, none⟩ = some (.slice (some ad) g.rules.length c2) ∧ w'.cell? (ad.add (k * 2)) = some (.int .i64 x.left) ∧ w'.cell? ⟨(ad.add (k * 2)).block, (ad.add (k * 2)).off + 1, none⟩ = some (.slice Ax x.right.length cx) ∧ w'.cell? (ad.add (m * 2)) = some (.int .i64 y.left) ∧ w'.cell? ⟨(ad.add (m * 2)).block, (ad.add (m * 2)).off + 1, none⟩ = some (.slice Ay y.right.length cy) := fun w' hw =>
            ⟨(blk_cell (blk_below (blk_below HK.out HB.out) hw) 2).trans rfl, (hw.cell (p := ad.add (k * 2)) hla).trans k1, (hw.cell (p := ⟨(ad.add (k * 2)).block, (ad.add (k * 2)).off + 1, none⟩) hla).trans k2, (hw.cell (p := ad.add (m * 2)) hlb).trans m1, (hw.cell (p := ⟨(ad.add (m * 2)).block, (ad.add (m * 2)).off + 1, none⟩) hlb).trans m2⟩
          have f2 := (key wr (Below.refl _ _)).1
          have KEY := Aside0.mk key
          clear key k1 k2 m1 m2 hla hlb
          go_wp2
          refine wp_region_det (vs := [?d1xv0, ?d1xv1, ?d1xv2, ?d1xv3, ?d1xv4, ?d1xv5, ?d1xv6, ?d1xv7, ?d1xv8, ?d1xv9, ?d1xv10]) (fun w' => Below wr.heap.size wr w') rfl (by kernel_rfl) (putAll_put (by simp only [Act.put, List.setIfInBounds_toArray, List.set_cons_zero, List.set_cons_succ]; rfl) (putAll_put (by simp only [Act.put, List.setIfInBounds_toArray, List.set_cons_zero, List.set_cons_succ]; rfl) (putAll_put (by simp only [Act.put, List.setIfInBounds_toArray, List.set_cons_zero, List.set_cons_succ]; rfl) (putAll_put (by simp only [Act.put, List.setIfInBounds_toArray, List.set_cons_zero, List.set_cons_succ]; rfl) (putAll_put (by simp only [Act.put, List.setIfInBounds_toArray, List.set_cons_zero, List.set_cons_succ]; rfl) (putAll_put (by simp only [Act.put, List.setIfInBounds_toArray, List.set_cons_zero, List.set_cons_succ]; rfl) (putAll_put (by simp only [Act.put, List.setIfInBounds_toArray, List.set_cons_zero, List.set_cons_succ]; rfl) (putAll_put (by simp only [Act.put, List.setIfInBounds_toArray, List.set_cons_zero, List.set_cons_succ]; rfl) (putAll_put (by simp only [Act.put, List.setIfInBounds_toArray, List.set_cons_zero, List.set_cons_succ]; rfl) (putAll_put (by simp only [Act.put, List.setIfInBounds_toArray, List.set_cons_zero, List.set_cons_succ]; rfl) (putAll_put (by simp only [Act.put, List.setIfInBounds_toArray, List.set_cons_zero, List.set_cons_succ]; rfl) (putAll_nil _)))))))))))) (below_drew (Below.refl _ _)) ?d1xOps ?d1xFin
          case d1xOps =>
            refine ⟨fun w' hw => ?d1xo0, fun w' hw => ?d1xo1, fun w' hw => ?d1xo2, fun w' hw => ?d1xo3, fun w' hw => ?d1xo4, fun w' hw => ?d1xo5, fun w' hw => ?d1xo6, fun w' hw => ?d1xo7, fun w' hw => ?d1xo8, fun w' hw => ?d1xo9, fun w' hw => ?d1xo10, trivial⟩
            case d1xo0 => obtain ⟨f1, f2, f3, f4, f5⟩ := KEY.out w' hw; go_simp; rfl
            case d1xo1 => obtain ⟨f1, f2, f3, f4, f5⟩ := KEY.out w' hw; go_simp; rfl
            case d1xo2 => obtain ⟨f1, f2, f3, f4, f5⟩ := KEY.out w' hw; go_simp; rfl
            case d1xo3 => obtain ⟨f1, f2, f3, f4, f5⟩ := KEY.out w' hw; go_simp; rfl
            case d1xo4 => obtain ⟨f1, f2, f3, f4, f5⟩ := KEY.out w' hw; go_simp; rfl
            case d1xo5 => obtain ⟨f1, f2, f3, f4, f5⟩ := KEY.out w' hw; go_simp; rfl
            case d1xo6 => obtain ⟨f1, f2, f3, f4, f5⟩ := KEY.out w' hw; go_simp; rfl
            case d1xo7 => obtain ⟨f1, f2, f3, f4, f5⟩ := KEY.out w' hw; go_simp; rfl
            case d1xo8 => obtain ⟨f1, f2, f3, f4, f5⟩ := KEY.out w' hw; go_simp; rfl
            case d1xo9 => obtain ⟨f1, f2, f3, f4, f5⟩ := KEY.out w' hw; go_simp; rfl
            case d1xo10 => obtain ⟨f1, f2, f3, f4, f5⟩ := KEY.out w' hw; (go_simp; refine (hd.out w' hw).mono ?_; rintro e w2 ⟨rfl, hb2⟩; exact ⟨by rfl, hw.trans (hb2.mono hw.size)⟩)
          case d1xFin =>
            intro w' hw
            cases d with
            | true =>
              go_wp2
              go_ret
              have h6 := HB.out.trans (hw.mono HB.out.size)
              exact ⟨rbool (decide_eq_false fun h => h k hkl m hmk (by rw [HX.out, HY.out]; exact (of_decide_eq_true HD.out).symm)).symm, HB0.out.trans (h6.mono HB0.out.size)⟩
            | false =>
              go_wp2
              go_roundw
              case rel =>
                have h3 := hw.size
                exact ⟨m + 1, by omega, by go_num, by omega, ⟨HB.out.trans (hw.mono HB.out.size)⟩, ⟨lt_snoc (α := Nat) AG.out (by rw [HY.out]; exact fun h => of_decide_eq_false HD.out h.symm)⟩⟩
              case measure => simp [intOf]; omega
        · have hmz : ¬ (m : Int) < (k : Int) := by omega
          obtain rfl : m = k := by omega
          go_wp2
          go_roundw
          case rel => exact ⟨m + 1, by omega, by go_num, hlt1, HB, ⟨lt_snoc (α := Nat) AF.out (by rw [HX.out]; exact AG.out)⟩⟩
          case measure => simp [intOf]; omega
    · have hkz : ¬ (k : Int) < (g.rules.length : Int) := by omega
      obtain rfl : k = g.rules.length := by omega
      go_wp2
      go_ret
      exact ⟨rbool (decide_eq_true AF.out).symm, HB0.out.trans (HB.out.mono HB0.out.size)⟩
end
end Go.Proofs.Ytliofoikejdjeaa
