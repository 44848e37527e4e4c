/- The law GshowTells, walked. -/
import Derived.Test.YtliofoikejdjeaaAwk
namespace Go.Proofs.Ytliofoikejdjeaa
open Go.RowKit Go.Proofs.YtliofoikejdjeaaW.PrintWords
set_option linter.unusedVariables false
set_option linter.unusedSimpArgs false
theorem small_of {g : Gm} (hk : g.Bulk) (h : g.terms.length + g.nons.length + g.rules.length ≤ 300) (hr : ∀ r ∈ g.rules, r.right.length ≤ 10000) : g.Small := by
  have hn : ∀ s ∈ g.names, s.size ≤ 2000000 := by
    intro s hs
    rcases List.mem_append.1 hs with h1 | h1
    · exact Nat.le_trans (hk.tsz s h1) (by decide)
    · exact Nat.le_trans (hk.nsz s h1) (by decide)
  exact ⟨name_le hn (by decide), by omega, by omega, by omega, hr, hn⟩
section
variable {w : World} {A0 A1 A2 A : Option Addr} {c0 c1 c2 c : Nat} {g : Gm} {r : Rl}
set_option maxHeartbeats 4000000 in
theorem law08_GshowTells (h : GmAt w A0 A1 A2 c0 c1 c2 g) (hr : Kd.C (Kd.int .i64) w A r.right.length r.right) (hk : g.Bulk) (hrb : r.right.length ≤ 1048576) :
    Calls Try.prog 3 #[.agg (gv A0 A1 A2 c0 c1 c2 g), .agg #[.int .i64 r.left, .slice A r.right.length c]] w fun e w' => e = .returned (.bool true) ∧ Below w.heap.size w w' := by
  obtain ⟨W0, hW0⟩ : ∃ W0, W0 = (w.alloc (.cells (gv A0 A1 A2 c0 c1 c2 g) 25)).alloc (.cells #[.int .i64 r.left, .slice A r.right.length c] 28) := ⟨_, rfl⟩
  have hb0 := below_alloc (below_alloc (Below.refl _ w) (.cells (gv A0 A1 A2 c0 c1 c2 g) 25)) (.cells #[.int .i64 r.left, .slice A r.right.length c] 28)
  have hk0 := blk_alloc (blk_new w (.cells (gv A0 A1 A2 c0 c1 c2 g) 25)) (.cells #[.int .i64 r.left, .slice A r.right.length c] 28)
  have hk1 : ((w.alloc (.cells (gv A0 A1 A2 c0 c1 c2 g) 25)).alloc (.cells #[.int .i64 r.left, .slice A r.right.length c] 28)).heap[w.heap.size + 1]? = some (.cells #[.int .i64 r.left, .slice A r.right.length c] 28) := by
    have := blk_new (w.alloc (.cells (gv A0 A1 A2 c0 c1 c2 g) 25)) (.cells #[.int .i64 r.left, .slice A r.right.length c] 28)
    simpa using this
  rw [← hW0] at hb0 hk0 hk1
  have KEY : Aside0 (∀ W, Below W0.heap.size W0 W → (W.cell? ⟨w.heap.size, 0, none⟩ = some (.slice A0 g.terms.length c0) ∧ W.cell? ⟨w.heap.size, 1, none⟩ = some (.slice A1 g.nons.length c1) ∧ W.cell? ⟨w.heap.size, 2, none⟩ = some (.slice A2 g.rules.length c2) ∧ W.cell? ⟨w.heap.size, 3, none⟩ = some (.int .i64 g.start)) ∧ W.cell? ⟨w.heap.size + 1, 0, none⟩ = some (.int .i64 r.left) ∧ W.cell? ⟨w.heap.size + 1, 1, none⟩ = some (.slice A r.right.length c)) :=
    ⟨fun W hb => ⟨gcells (blk_below hk0 hb), blk_cell (blk_below hk1 hb) 0, blk_cell (blk_below hk1 hb) 1⟩⟩
  have HM := Aside0.mk (law06_Much (h.below hb0) hk)
  have hbw : ∀ W, Below W0.heap.size W0 W → Below w.heap.size w W := fun W hb => hb0.trans (hb.mono hb0.size)
  have ms : g.terms.length + g.nons.length ≤ 8796093022208 := by have := hk.terms; have := hk.nons; omega
  have K1 : Aside0 (g.Small → ∀ W, Below W0.heap.size W0 W → Calls Try.prog 6 #[.agg #[.slice A0 g.terms.length c0, .slice A1 g.nons.length c1, .slice A2 g.rules.length c2, .int .i64 g.start]] W fun e w' => e = .returned (.string g.showS) ∧ Below W.heap.size W w') := ⟨fun hs W hb => gshow_Show (h.below (hbw W hb)) hs⟩
  have K2 : Aside0 (g.Small → ∀ W, Below W0.heap.size W0 W → Calls Try.prog 7 #[.agg #[.slice A0 g.terms.length c0, .slice A1 g.nons.length c1, .slice A2 g.rules.length c2, .int .i64 g.start]] W fun e w' => e = .returned (.string g.showS) ∧ Below W.heap.size W w') := ⟨fun hs W hb => ref08_Show (h.below (hbw W hb)) hs⟩
  have K3 : Aside0 (g.Small → r.right.length ≤ 10000 → ∀ W, Below W0.heap.size W0 W → Calls Try.prog 8 #[.agg #[.slice A0 g.terms.length c0, .slice A1 g.nons.length c1, .slice A2 g.rules.length c2, .int .i64 g.start], .agg #[.int .i64 r.left, .slice A r.right.length c]] W fun e w' => e = .returned (.string (g.ruleB r)) ∧ Below W.heap.size W w') := ⟨fun hs hm W hb => gshow_Rule (h.below (hbw W hb)) (Kd.C_below hr (hbw W hb)) hm hs.name⟩
  have K4 : Aside0 (g.Small → r.right.length ≤ 10000 → ∀ W, Below W0.heap.size W0 W → Calls Try.prog 9 #[.agg #[.slice A0 g.terms.length c0, .slice A1 g.nons.length c1, .slice A2 g.rules.length c2, .int .i64 g.start], .agg #[.int .i64 r.left, .slice A r.right.length c]] W fun e w' => e = .returned (.string (g.ruleB r)) ∧ Below W.heap.size W w') := ⟨fun hs hm W hb => ref08_Rule (h.below (hbw W hb)) ms (Kd.C_below hr (hbw W hb)) hm hs.name⟩
  have HSM := Aside0.mk (fun (h1 : g.terms.length + g.nons.length + g.rules.length ≤ 300) (h2 : ∀ r ∈ g.rules, r.right.length ≤ 10000) => small_of hk h1 h2)
  have hgc := KEY.out W0 (Below.refl _ _)
  have HB0 := Aside0.mk hb0
  have HW := Aside0.mk hW0
  have hx0 := blk_lt hk0
  have hx1 := blk_lt hk1
  clear h hr hk hb0 hk0 hk1 hW0 hbw ms
  unfold gv at *
  go_enter Try.func3, Try.ntmps3
  go_wp2_with fail
  rw [← HW.out]
  clear HW
  refine HM.out.mono ?_
  rintro e w1 ⟨⟨n, rfl, hn⟩, hb1⟩
  have HN := Aside0.mk hn
  clear hn hgc HM
  obtain ⟨⟨f0, f1, f2, f3⟩, f4, f5⟩ := KEY.out w1 hb1
  by_cases hc : n ≤ 300 ∧ r.right.length ≤ 100
  rotate_left
  · have hz : ¬ (300 : Int) < n → (100 : Int) < (r.right.length : Int) := by omega
    clear hc
    by_cases hz1 : (300 : Int) < n
    all_goals
      (first | have hz2 : (100 : Int) < (r.right.length : Int) := hz hz1 | skip)
      clear hz
      go_wp2_with (go_at_call 5; refine law08_awake.mono ?_; rintro e w2 ⟨rfl, hb2⟩)
      go_ret
      have h5 := hb1.trans (hb2.mono hb1.size)
      exact ⟨rfl, HB0.out.trans (h5.mono HB0.out.size)⟩
  · obtain ⟨hn1, hr1⟩ := hc
    have hz1 : ¬ (300 : Int) < n := by omega
    have hz2 : ¬ (100 : Int) < (r.right.length : Int) := by omega
    have hs := HSM.out (HN.out hn1).1 (HN.out hn1).2
    have G1 := Aside0.mk (K1.out hs)
    have G2 := Aside0.mk (K2.out hs)
    have G3 := Aside0.mk (K3.out hs (by omega))
    have G4 := Aside0.mk (K4.out hs (by omega))
    clear hs K1 K2 K3 K4 HSM HN hn1 hr1
    generalize g.showS = ss at *
    generalize g.ruleB r = rr at *
    have HB1 := Aside0.mk hb1
    clear hb1
    go_wp2
    clear f0 f1 f2 f3 f4 f5
    refine wp_region_det (vs := [?d1xv0, ?d1xv1, ?d1xv2, ?d1xv3, ?d1xv4, ?d1xv5, ?d1xv6, ?d1xv7, ?d1xv8, ?d1xv9, ?d1xv10, ?d1xv11, ?d1xv12, ?d1xv13, ?d1xv14, ?d1xv15, ?d1xv16, ?d1xv17]) (fun w' => Below W0.heap.size W0 w') rfl (by kernel_rfl) (putAll_put (by simp only [Act.put, List.setIfInBounds_toArray, List.set_cons_zero, List.set_cons_succ]; rfl) (putAll_put (by simp only [Act.put, List.setIfInBounds_toArray, List.set_cons_zero, List.set_cons_succ]; rfl) (putAll_put (by simp only [Act.put, List.setIfInBounds_toArray, List.set_cons_zero, List.set_cons_succ]; rfl) (putAll_put (by simp only [Act.put, List.setIfInBounds_toArray, List.set_cons_zero, List.set_cons_succ]; rfl) (putAll_put (by simp only [Act.put, List.setIfInBounds_toArray, List.set_cons_zero, List.set_cons_succ]; rfl) (putAll_put (by simp only [Act.put, List.setIfInBounds_toArray, List.set_cons_zero, List.set_cons_succ]; rfl) (putAll_put (by simp only [Act.put, List.setIfInBounds_toArray, List.set_cons_zero, List.set_cons_succ]; rfl) (putAll_put (by simp only [Act.put, List.setIfInBounds_toArray, List.set_cons_zero, List.set_cons_succ]; rfl) (putAll_put (by simp only [Act.put, List.setIfInBounds_toArray, List.set_cons_zero, List.set_cons_succ]; rfl) (putAll_put (by simp only [Act.put, List.setIfInBounds_toArray, List.set_cons_zero, List.set_cons_succ]; rfl) (putAll_put (by simp only [Act.put, List.setIfInBounds_toArray, List.set_cons_zero, List.set_cons_succ]; rfl) (putAll_put (by simp only [Act.put, List.setIfInBounds_toArray, List.set_cons_zero, List.set_cons_succ]; rfl) (putAll_put (by simp only [Act.put, List.setIfInBounds_toArray, List.set_cons_zero, List.set_cons_succ]; rfl) (putAll_put (by simp only [Act.put, List.setIfInBounds_toArray, List.set_cons_zero, List.set_cons_succ]; rfl) (putAll_put (by simp only [Act.put, List.setIfInBounds_toArray, List.set_cons_zero, List.set_cons_succ]; rfl) (putAll_put (by simp only [Act.put, List.setIfInBounds_toArray, List.set_cons_zero, List.set_cons_succ]; rfl) (putAll_put (by simp only [Act.put, List.setIfInBounds_toArray, List.set_cons_zero, List.set_cons_succ]; rfl) (putAll_put (by simp only [Act.put, List.setIfInBounds_toArray, List.set_cons_zero, List.set_cons_succ]; rfl) (putAll_nil _))))))))))))))))))) (below_drew1 HB1.out) ?d1xOps ?d1xFin
    case d1xOps =>
      refine ⟨fun w' hw => ?d1xo0, fun w' hw => ?d1xo1, fun w' hw => ?d1xo2, fun w' hw => ?d1xo3, fun w' hw => ?d1xo4, fun w' hw => ?d1xo5, fun w' hw => ?d1xo6, fun w' hw => ?d1xo7, fun w' hw => ?d1xo8, fun w' hw => ?d1xo9, fun w' hw => ?d1xo10, fun w' hw => ?d1xo11, fun w' hw => ?d1xo12, fun w' hw => ?d1xo13, fun w' hw => ?d1xo14, fun w' hw => ?d1xo15, fun w' hw => ?d1xo16, fun w' hw => ?d1xo17, trivial⟩
      case d1xo0 => obtain ⟨⟨f0, f1, f2, f3⟩, f4, f5⟩ := KEY.out w' hw; go_simp; rfl
      case d1xo1 => obtain ⟨⟨f0, f1, f2, f3⟩, f4, f5⟩ := KEY.out w' hw; (go_simp; refine (G1.out w' hw).mono ?_; rintro e w2 ⟨rfl, hb2⟩; exact ⟨by rfl, hw.trans (hb2.mono hw.size)⟩)
      case d1xo2 => obtain ⟨⟨f0, f1, f2, f3⟩, f4, f5⟩ := KEY.out w' hw; go_simp; rfl
      case d1xo3 => obtain ⟨⟨f0, f1, f2, f3⟩, f4, f5⟩ := KEY.out w' hw; (go_simp; refine (G2.out w' hw).mono ?_; rintro e w2 ⟨rfl, hb2⟩; exact ⟨by rfl, hw.trans (hb2.mono hw.size)⟩)
      case d1xo4 => obtain ⟨⟨f0, f1, f2, f3⟩, f4, f5⟩ := KEY.out w' hw; go_simp; rfl
      case d1xo5 => obtain ⟨⟨f0, f1, f2, f3⟩, f4, f5⟩ := KEY.out w' hw; go_simp; rfl
      case d1xo6 => obtain ⟨⟨f0, f1, f2, f3⟩, f4, f5⟩ := KEY.out w' hw; go_simp; rfl
      case d1xo7 => obtain ⟨⟨f0, f1, f2, f3⟩, f4, f5⟩ := KEY.out w' hw; go_simp; rfl
      case d1xo8 => obtain ⟨⟨f0, f1, f2, f3⟩, f4, f5⟩ := KEY.out w' hw; (go_simp; refine (G3.out w' hw).mono ?_; rintro e w2 ⟨rfl, hb2⟩; exact ⟨by rfl, hw.trans (hb2.mono hw.size)⟩)
      case d1xo9 => obtain ⟨⟨f0, f1, f2, f3⟩, f4, f5⟩ := KEY.out w' hw; go_simp; rfl
      case d1xo10 => obtain ⟨⟨f0, f1, f2, f3⟩, f4, f5⟩ := KEY.out w' hw; go_simp; rfl
      case d1xo11 => obtain ⟨⟨f0, f1, f2, f3⟩, f4, f5⟩ := KEY.out w' hw; (go_simp; refine (G4.out w' hw).mono ?_; rintro e w2 ⟨rfl, hb2⟩; exact ⟨by rfl, hw.trans (hb2.mono hw.size)⟩)
      case d1xo12 => obtain ⟨⟨f0, f1, f2, f3⟩, f4, f5⟩ := KEY.out w' hw; go_simp; rfl
      case d1xo13 => obtain ⟨⟨f0, f1, f2, f3⟩, f4, f5⟩ := KEY.out w' hw; go_simp; rfl
      case d1xo14 => obtain ⟨⟨f0, f1, f2, f3⟩, f4, f5⟩ := KEY.out w' hw; go_simp; rfl
      case d1xo15 => obtain ⟨⟨f0, f1, f2, f3⟩, f4, f5⟩ := KEY.out w' hw; (go_simp; refine law08_awake.mono ?_; rintro e w2 ⟨rfl, hb2⟩; exact ⟨by rfl, hw.trans (hb2.mono hw.size)⟩)
      case d1xo16 => obtain ⟨⟨f0, f1, f2, f3⟩, f4, f5⟩ := KEY.out w' hw; go_simp; rfl
      case d1xo17 => obtain ⟨⟨f0, f1, f2, f3⟩, f4, f5⟩ := KEY.out w' hw; go_simp; rfl
    case d1xFin =>
      intro w3 hw3
      go_wp2
      go_ret
      exact ⟨rfl, HB0.out.trans (hw3.mono HB0.out.size)⟩
end
end Go.Proofs.Ytliofoikejdjeaa
