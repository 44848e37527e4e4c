/- right sides, rules: the document's. -/
import Derived.Test.YtliofoikejdjeaaShow2
import Derived.Test.YtliofoikejdjeaaDet2
namespace Go.Proofs.Ytliofoikejdjeaa
open Go.RowKit Go.Proofs.YtliofoikejdjeaaW.PrintWords
set_option linter.unusedVariables false
set_option linter.unusedSimpArgs false
section
variable {w : World} {A0 A1 A2 A : Option Addr} {c0 c1 c2 c : Nat} {g : Gm} {r : Rl}
set_option maxHeartbeats 2000000 in
theorem ref08_right (h : GmAt w A0 A1 A2 c0 c1 c2 g) (ms : g.terms.length + g.nons.length ≤ 8796093022208) (hr : Kd.C (Kd.int .i64) w A r.right.length r.right) (hm : r.right.length ≤ 10000) (hns : ∀ s, (g.nameOf s).size ≤ 2000000) :
    Calls Try.prog 19 #[.agg (gv A0 A1 A2 c0 c1 c2 g), .agg #[.int .i64 r.left, .slice A r.right.length c]] w fun e w' => e = .returned (.string (g.rightB r)) ∧ Below w.heap.size w w' := by
  obtain ⟨W0, hW0⟩ : ∃ W0, W0 = (w.alloc (.cells (gv A0 A1 A2 c0 c1 c2 g) 25)).alloc (.cells #[.int .i64 r.left, .slice A r.right.length c] 28) := ⟨_, rfl⟩
  have hb0 := below_alloc (below_alloc (Below.refl _ w) (.cells (gv A0 A1 A2 c0 c1 c2 g) 25)) (.cells #[.int .i64 r.left, .slice A r.right.length c] 28)
  have hk0 := blk_alloc (blk_new w (.cells (gv A0 A1 A2 c0 c1 c2 g) 25)) (.cells #[.int .i64 r.left, .slice A r.right.length c] 28)
  have hk1 : ((w.alloc (.cells (gv A0 A1 A2 c0 c1 c2 g) 25)).alloc (.cells #[.int .i64 r.left, .slice A r.right.length c] 28)).heap[w.heap.size + 1]? = some (.cells #[.int .i64 r.left, .slice A r.right.length c] 28) := by
    have := blk_new (w.alloc (.cells (gv A0 A1 A2 c0 c1 c2 g) 25)) (.cells #[.int .i64 r.left, .slice A r.right.length c] 28)
    simpa using this
  rw [← hW0] at hb0 hk0 hk1
  have KN : Aside0 (∀ W (s : Int), Below W0.heap.size W0 W → Calls Try.prog 18 #[.agg #[.slice A0 g.terms.length c0, .slice A1 g.nons.length c1, .slice A2 g.rules.length c2, .int .i64 g.start], .int .i64 s] W fun e w' => e = .returned (.string (g.nameOf s)) ∧ Below W.heap.size W w') := ⟨fun W s hb => ref06_Name (h.below (hb0.trans (hb.mono hb0.size))) ms s⟩
  have KEY : Aside0 (∀ W, Below W0.heap.size W0 W → (W.cell? ⟨w.heap.size, 0, none⟩ = some (.slice A0 g.terms.length c0) ∧ W.cell? ⟨w.heap.size, 1, none⟩ = some (.slice A1 g.nons.length c1) ∧ W.cell? ⟨w.heap.size, 2, none⟩ = some (.slice A2 g.rules.length c2) ∧ W.cell? ⟨w.heap.size, 3, none⟩ = some (.int .i64 g.start)) ∧ W.cell? ⟨w.heap.size + 1, 0, none⟩ = some (.int .i64 r.left) ∧ W.cell? ⟨w.heap.size + 1, 1, none⟩ = some (.slice A r.right.length c)) :=
    ⟨fun W hb => ⟨gcells (blk_below hk0 hb), blk_cell (blk_below hk1 hb) 0, blk_cell (blk_below hk1 hb) 1⟩⟩
  have HR := Aside0.mk (Kd.C_below hr hb0)
  have HB0 := Aside0.mk hb0
  have HW := Aside0.mk hW0
  have HS := Aside0.mk (rnames_le hns r.right)
  have HNS := Aside0.mk hns
  have hlen : (r.right.map g.nameOf).length = r.right.length := List.length_map ..
  clear h hr hb0 hk0 hk1 hW0 hns
  unfold gv at *
  go_enter Try.func19, Try.ntmps19
  go_wp2
  rw [← HW.out]
  go_loopw [5, 6] (fun s i wr => ∃ k : Nat, k ≤ r.right.length ∧ i = .int .i64 k ∧ Aside0 (Below W0.heap.size W0 wr) ∧ s = .string (blanksB ((r.right.map g.nameOf).take k))) (fun _ i _ => r.right.length - (intOf i).toNat)
  case atStart => exact ⟨0, Nat.zero_le _, rfl, ⟨Below.refl _ _⟩, rfl⟩
  case round =>
    obtain ⟨k, hk, rfl, HB, rfl⟩ := hrel
    obtain ⟨⟨f0, f1, f2, f3⟩, f4, f5⟩ := KEY.out wr HB.out
    by_cases hkl : k < r.right.length
    · have hkz : (k : Int) < (r.right.length : Int) := by omega
      obtain ⟨ad, rfl, l2⟩ := at_int (Kd.C_below HR.out HB.out) k hkl
      have HT := Aside0.mk (blanks_take (l := r.right.map g.nameOf) (k := k) (by omega))
      rw [map_getD hkl] at HT
      have hbs : (blanksB ((r.right.map g.nameOf).take k)).size ≤ 10000 * 2000001 := by
        rw [blanks_size]
        exact Nat.le_trans (szs_take _ k) (Nat.le_trans HS.out (Nat.mul_le_mul_right _ hm))
      obtain ⟨y, hy⟩ : ∃ y, r.right.getD k default = y := ⟨_, rfl⟩
      rw [hy] at l2 HT
      clear hy
      have hla := World.block_lt_of_cell? _ _ l2
      have kn : Aside0 (∀ W, Below wr.heap.size wr W → _) := ⟨fun W hb => KN.out W y (HB.out.trans (hb.mono HB.out.size))⟩
      have z1 : ¬ 9223372036854775807 < (blanksB ((r.right.map g.nameOf).take k)).size + 1 := by omega
      have z2 : ¬ 9223372036854775807 < (blanksB ((r.right.map g.nameOf).take k)).size + 1 + (g.nameOf y).size := by
        have := HNS.out y
        omega
      clear hbs
      generalize g.nameOf y = nm at *
      generalize blanksB ((r.right.map g.nameOf).take k) = s at *
      have KEY2 : Aside0 (∀ W, Below wr.heap.size wr W → _ ∧ Below W0.heap.size W0 W) := ⟨fun W hb => ⟨(hb.cell (p := ad.add k) hla).trans l2, HB.out.trans (hb.mono HB.out.size)⟩⟩
      go_wp2
      clear f0 f1 f2 f3 f4 f5 l2
      refine wp_region_det2 (vs := [?d1xv0, ?d1xv1, ?d1xv2, ?d1xv3, ?d1xv4, ?d1xv5, ?d1xv6, ?d1xv7, ?d1xv8, ?d1xv9]) (fun w' => Below wr.heap.size wr w') rfl (by kernel_rfl) rfl rfl rfl (putAll_put (by simp only [Act.put, List.setIfInBounds_toArray, List.set_cons_zero, List.set_cons_succ]; rfl) (putAll_put (by simp only [Act.put, List.setIfInBounds_toArray, List.set_cons_zero, List.set_cons_succ]; rfl) (putAll_put (by simp only [Act.put, List.setIfInBounds_toArray, List.set_cons_zero, List.set_cons_succ]; rfl) (putAll_put (by simp only [Act.put, List.setIfInBounds_toArray, List.set_cons_zero, List.set_cons_succ]; rfl) (putAll_put (by simp only [Act.put, List.setIfInBounds_toArray, List.set_cons_zero, List.set_cons_succ]; rfl) (putAll_put (by simp only [Act.put, List.setIfInBounds_toArray, List.set_cons_zero, List.set_cons_succ]; rfl) (putAll_put (by simp only [Act.put, List.setIfInBounds_toArray, List.set_cons_zero, List.set_cons_succ]; rfl) (putAll_put (by simp only [Act.put, List.setIfInBounds_toArray, List.set_cons_zero, List.set_cons_succ]; rfl) (putAll_put (by simp only [Act.put, List.setIfInBounds_toArray, List.set_cons_zero, List.set_cons_succ]; rfl) (putAll_put (by simp only [Act.put, List.setIfInBounds_toArray, List.set_cons_zero, List.set_cons_succ]; rfl) (putAll_nil _))))))))))) (by go_simp; rfl) (below_drew (Below.refl _ _)) ?d1xOps ?d1xFin
      case d1xOps =>
        refine ⟨fun w' hw => ?d1xo0, fun w' hw => ?d1xo1, fun w' hw => ?d1xo2, fun w' hw => ?d1xo3, fun w' hw => ?d1xo4, fun w' hw => ?d1xo5, fun w' hw => ?d1xo6, fun w' hw => ?d1xo7, fun w' hw => ?d1xo8, fun w' hw => ?d1xo9, trivial⟩
        case d1xo0 => (obtain ⟨f6, hwr⟩ := KEY2.out w' hw; obtain ⟨⟨f0, f1, f2, f3⟩, f4, f5⟩ := KEY.out w' hwr); go_simp; rfl
        case d1xo1 => (obtain ⟨f6, hwr⟩ := KEY2.out w' hw; obtain ⟨⟨f0, f1, f2, f3⟩, f4, f5⟩ := KEY.out w' hwr); go_simp; rfl
        case d1xo2 => (obtain ⟨f6, hwr⟩ := KEY2.out w' hw; obtain ⟨⟨f0, f1, f2, f3⟩, f4, f5⟩ := KEY.out w' hwr); go_simp; rfl
        case d1xo3 => (obtain ⟨f6, hwr⟩ := KEY2.out w' hw; obtain ⟨⟨f0, f1, f2, f3⟩, f4, f5⟩ := KEY.out w' hwr); go_simp; rfl
        case d1xo4 => (obtain ⟨f6, hwr⟩ := KEY2.out w' hw; obtain ⟨⟨f0, f1, f2, f3⟩, f4, f5⟩ := KEY.out w' hwr); go_simp; rfl
        case d1xo5 => (obtain ⟨f6, hwr⟩ := KEY2.out w' hw; obtain ⟨⟨f0, f1, f2, f3⟩, f4, f5⟩ := KEY.out w' hwr); go_simp; rfl
        case d1xo6 => (obtain ⟨f6, hwr⟩ := KEY2.out w' hw; obtain ⟨⟨f0, f1, f2, f3⟩, f4, f5⟩ := KEY.out w' hwr); go_simp; rfl
        case d1xo7 => (obtain ⟨f6, hwr⟩ := KEY2.out w' hw; obtain ⟨⟨f0, f1, f2, f3⟩, f4, f5⟩ := KEY.out w' hwr); go_simp; rfl
        case d1xo8 => (obtain ⟨f6, hwr⟩ := KEY2.out w' hw; obtain ⟨⟨f0, f1, f2, f3⟩, f4, f5⟩ := KEY.out w' hwr); (go_simp; refine (kn.out w' hw).mono ?_; rintro e w2 ⟨rfl, hb2⟩; exact ⟨by rfl, hw.trans (hb2.mono hw.size)⟩)
        case d1xo9 => (obtain ⟨f6, hwr⟩ := KEY2.out w' hw; obtain ⟨⟨f0, f1, f2, f3⟩, f4, f5⟩ := KEY.out w' hwr); go_simp; rfl
      case d1xFin =>
        intro w1 hw1
        go_wp2
        go_roundw
        case rel => exact ⟨k + 1, by omega, by go_num, ⟨HB.out.trans (hw1.mono HB.out.size)⟩, by rw [HT.out]⟩
        case measure => simp [intOf]; omega
    · have hkz : ¬ (k : Int) < (r.right.length : Int) := by omega
      obtain rfl : k = r.right.length := by omega
      rw [← hlen, List.take_length] at *
      go_wp2
      go_ret
      exact ⟨rfl, HB0.out.trans (HB.out.mono HB0.out.size)⟩
set_option maxHeartbeats 2000000 in
theorem ref08_Rule (h : GmAt w A0 A1 A2 c0 c1 c2 g) (ms : g.terms.length + g.nons.length ≤ 8796093022208) (hr : Kd.C (Kd.int .i64) w A r.right.length r.right) (hm : r.right.length ≤ 10000) (hns : ∀ s, (g.nameOf s).size ≤ 2000000) :
    Calls Try.prog 9 #[.agg (gv A0 A1 A2 c0 c1 c2 g), .agg #[.int .i64 r.left, .slice A r.right.length c]] w fun e w' => e = .returned (.string (g.ruleB r)) ∧ Below w.heap.size w w' := by
  obtain ⟨W0, hW0⟩ : ∃ W0, W0 = (w.alloc (.cells (gv A0 A1 A2 c0 c1 c2 g) 25)).alloc (.cells #[.int .i64 r.left, .slice A r.right.length c] 28) := ⟨_, rfl⟩
  have hb0 := below_alloc (below_alloc (Below.refl _ w) (.cells (gv A0 A1 A2 c0 c1 c2 g) 25)) (.cells #[.int .i64 r.left, .slice A r.right.length c] 28)
  have hk0 := blk_alloc (blk_new w (.cells (gv A0 A1 A2 c0 c1 c2 g) 25)) (.cells #[.int .i64 r.left, .slice A r.right.length c] 28)
  have hk1 : ((w.alloc (.cells (gv A0 A1 A2 c0 c1 c2 g) 25)).alloc (.cells #[.int .i64 r.left, .slice A r.right.length c] 28)).heap[w.heap.size + 1]? = some (.cells #[.int .i64 r.left, .slice A r.right.length c] 28) := by
    have := blk_new (w.alloc (.cells (gv A0 A1 A2 c0 c1 c2 g) 25)) (.cells #[.int .i64 r.left, .slice A r.right.length c] 28)
    simpa using this
  rw [← hW0] at hb0 hk0 hk1
  have KN : Aside0 (∀ W, Below W0.heap.size W0 W → Calls Try.prog 18 #[.agg #[.slice A0 g.terms.length c0, .slice A1 g.nons.length c1, .slice A2 g.rules.length c2, .int .i64 g.start], .int .i64 r.left] W fun e w' => e = .returned (.string (g.nameOf r.left)) ∧ Below W.heap.size W w') := ⟨fun W hb => ref06_Name (h.below (hb0.trans (hb.mono hb0.size))) ms _⟩
  have KR : Aside0 (∀ W, Below W0.heap.size W0 W → Calls Try.prog 19 #[.agg #[.slice A0 g.terms.length c0, .slice A1 g.nons.length c1, .slice A2 g.rules.length c2, .int .i64 g.start], .agg #[.int .i64 r.left, .slice A r.right.length c]] W fun e w' => e = .returned (.string (g.rightB r)) ∧ Below W.heap.size W w') := ⟨fun W hb => ref08_right (h.below (hb0.trans (hb.mono hb0.size))) ms (Kd.C_below hr (hb0.trans (hb.mono hb0.size))) hm hns⟩
  have KEY : Aside0 (∀ W, Below W0.heap.size W0 W → (W.cell? ⟨w.heap.size, 0, none⟩ = some (.slice A0 g.terms.length c0) ∧ W.cell? ⟨w.heap.size, 1, none⟩ = some (.slice A1 g.nons.length c1) ∧ W.cell? ⟨w.heap.size, 2, none⟩ = some (.slice A2 g.rules.length c2) ∧ W.cell? ⟨w.heap.size, 3, none⟩ = some (.int .i64 g.start)) ∧ W.cell? ⟨w.heap.size + 1, 0, none⟩ = some (.int .i64 r.left) ∧ W.cell? ⟨w.heap.size + 1, 1, none⟩ = some (.slice A r.right.length c)) :=
    ⟨fun W hb => ⟨gcells (blk_below hk0 hb), blk_cell (blk_below hk1 hb) 0, blk_cell (blk_below hk1 hb) 1⟩⟩
  have HB0 := Aside0.mk hb0
  have HW := Aside0.mk hW0
  have HQ : Aside0 (g.ruleB r = g.nameOf r.left ++ ⟨#[32, 58]⟩ ++ g.rightB r) := ⟨rfl⟩
  have z1 : ¬ 9223372036854775807 < (g.nameOf r.left).size + 2 := by have := hns r.left; omega
  have z2 : ¬ 9223372036854775807 < (g.nameOf r.left).size + 2 + (g.rightB r).size := by
    have h1 := hns r.left
    have h2 : (g.rightB r).size ≤ 10000 * 2000001 := by
      unfold Gm.rightB
      rw [blanks_size]
      exact Nat.le_trans (rnames_le hns r.right) (Nat.mul_le_mul_right _ hm)
    omega
  clear h hr hb0 hk0 hk1 hW0 hns
  generalize g.ruleB r = ru at *
  generalize g.nameOf r.left = nm at *
  generalize g.rightB r = rb at *
  unfold gv at *
  go_enter Try.func9, Try.ntmps9
  go_wp2
  rw [← HW.out]
  refine wp_region_det (vs := [?d2xv0, ?d2xv1, ?d2xv2, ?d2xv3, ?d2xv4, ?d2xv5, ?d2xv6, ?d2xv7, ?d2xv8, ?d2xv9]) (fun w' => Below W0.heap.size W0 w') rfl (by kernel_rfl) (putAll_put (by simp only [Act.put, List.setIfInBounds_toArray, List.set_cons_zero, List.set_cons_succ]; rfl) (putAll_put (by simp only [Act.put, List.setIfInBounds_toArray, List.set_cons_zero, List.set_cons_succ]; rfl) (putAll_put (by simp only [Act.put, List.setIfInBounds_toArray, List.set_cons_zero, List.set_cons_succ]; rfl) (putAll_put (by simp only [Act.put, List.setIfInBounds_toArray, List.set_cons_zero, List.set_cons_succ]; rfl) (putAll_put (by simp only [Act.put, List.setIfInBounds_toArray, List.set_cons_zero, List.set_cons_succ]; rfl) (putAll_put (by simp only [Act.put, List.setIfInBounds_toArray, List.set_cons_zero, List.set_cons_succ]; rfl) (putAll_put (by simp only [Act.put, List.setIfInBounds_toArray, List.set_cons_zero, List.set_cons_succ]; rfl) (putAll_put (by simp only [Act.put, List.setIfInBounds_toArray, List.set_cons_zero, List.set_cons_succ]; rfl) (putAll_put (by simp only [Act.put, List.setIfInBounds_toArray, List.set_cons_zero, List.set_cons_succ]; rfl) (putAll_put (by simp only [Act.put, List.setIfInBounds_toArray, List.set_cons_zero, List.set_cons_succ]; rfl) (putAll_nil _))))))))))) (below_drew (Below.refl _ _)) ?d2xOps ?d2xFin
  case d2xOps =>
    refine ⟨fun w' hw => ?d2xo0, fun w' hw => ?d2xo1, fun w' hw => ?d2xo2, fun w' hw => ?d2xo3, fun w' hw => ?d2xo4, fun w' hw => ?d2xo5, fun w' hw => ?d2xo6, fun w' hw => ?d2xo7, fun w' hw => ?d2xo8, fun w' hw => ?d2xo9, trivial⟩
    case d2xo0 => obtain ⟨⟨f0, f1, f2, f3⟩, f4, f5⟩ := KEY.out w' hw; go_simp; rfl
    case d2xo1 => obtain ⟨⟨f0, f1, f2, f3⟩, f4, f5⟩ := KEY.out w' hw; go_simp; rfl
    case d2xo2 => obtain ⟨⟨f0, f1, f2, f3⟩, f4, f5⟩ := KEY.out w' hw; go_simp; rfl
    case d2xo3 => obtain ⟨⟨f0, f1, f2, f3⟩, f4, f5⟩ := KEY.out w' hw; (go_simp; refine (KN.out w' hw).mono ?_; rintro e w2 ⟨rfl, hb2⟩; exact ⟨by rfl, hw.trans (hb2.mono hw.size)⟩)
    case d2xo4 => obtain ⟨⟨f0, f1, f2, f3⟩, f4, f5⟩ := KEY.out w' hw; go_simp; rfl
    case d2xo5 => obtain ⟨⟨f0, f1, f2, f3⟩, f4, f5⟩ := KEY.out w' hw; go_simp; rfl
    case d2xo6 => obtain ⟨⟨f0, f1, f2, f3⟩, f4, f5⟩ := KEY.out w' hw; go_simp; rfl
    case d2xo7 => obtain ⟨⟨f0, f1, f2, f3⟩, f4, f5⟩ := KEY.out w' hw; (go_simp; refine (KR.out w' hw).mono ?_; rintro e w2 ⟨rfl, hb2⟩; exact ⟨by rfl, hw.trans (hb2.mono hw.size)⟩)
    case d2xo8 => obtain ⟨⟨f0, f1, f2, f3⟩, f4, f5⟩ := KEY.out w' hw; go_simp; rfl
    case d2xo9 => obtain ⟨⟨f0, f1, f2, f3⟩, f4, f5⟩ := KEY.out w' hw; go_simp; rfl
  case d2xFin =>
    intro w1 hw1
    go_wp2
    go_ret
    exact ⟨by rw [HQ.out]; rfl, HB0.out.trans (hw1.mono HB0.out.size)⟩
end
end Go.Proofs.Ytliofoikejdjeaa
