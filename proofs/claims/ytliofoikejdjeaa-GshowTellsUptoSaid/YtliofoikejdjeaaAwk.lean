/- awake. -/
import Derived.Test.YtliofoikejdjeaaAwake
namespace Go.Proofs.Ytliofoikejdjeaa
open Go.RowKit Go.Proofs.YtliofoikejdjeaaW.PrintWords
set_option linter.unusedVariables false
set_option linter.unusedSimpArgs false
set_option maxHeartbeats 4000000 in
theorem law08_awake {w : World} : Calls Try.prog 5 #[] w fun e w' => e = .returned (.bool true) ∧ Below w.heap.size w w' := by
  go_enter Try.func5, Try.ntmps5
  go_wp2
  generalize ho1 : Obj.cells #[Value.string { data := #[65] }] 9 = o1
  generalize ho2 : Obj.cells #[Value.string { data := #[115] }] 9 = o2
  generalize ho3 : Obj.cells #[Value.int IntKind.i64 1, Value.int IntKind.i64 2] 3 = o3
  generalize ho4 : Obj.cells #[Value.int IntKind.i64 2, Value.slice (some { block := w.heap.size + 1 + 1, off := 0 }) 2 2, Value.int IntKind.i64 2, Value.slice none 0 0] 28 = o4
  generalize ho5 : Obj.cells #[Value.slice (some { block := w.heap.size, off := 0 }) 1 1, Value.slice (some { block := w.heap.size + 1, off := 0 }) 1 1, Value.slice (some { block := w.heap.size + 1 + 1 + 1, off := 0 }) 2 2, Value.int IntKind.i64 2] 25 = o5
  have hb0 := below_alloc (below_alloc (below_alloc (below_alloc (below_alloc (Below.refl _ w) o1) o2) o3) o4) o5
  have q1 := blk_alloc (blk_alloc (blk_alloc (blk_alloc (blk_new w o1) o2) o3) o4) o5
  have q2 := blk_alloc (blk_alloc (blk_alloc (blk_new (w.alloc o1) o2) o3) o4) o5
  have q3 := blk_alloc (blk_alloc (blk_new ((w.alloc o1).alloc o2) o3) o4) o5
  have q4 := blk_alloc (blk_new (((w.alloc o1).alloc o2).alloc o3) o4) o5
  have q5 := blk_new ((((w.alloc o1).alloc o2).alloc o3).alloc o4) o5
  rw [show (w.alloc o1).heap.size = w.heap.size + 1 from by simp] at q2
  rw [show ((w.alloc o1).alloc o2).heap.size = w.heap.size + 1 + 1 from by simp] at q3
  rw [show (((w.alloc o1).alloc o2).alloc o3).heap.size = w.heap.size + 1 + 1 + 1 from by simp] at q4
  rw [show ((((w.alloc o1).alloc o2).alloc o3).alloc o4).heap.size = w.heap.size + 1 + 1 + 1 + 1 from by simp] at q5
  generalize ((((w.alloc o1).alloc o2).alloc o3).alloc o4).alloc o5 = W0 at *
  subst ho1 ho2 ho3 ho4 ho5
  have hg : GmAt W0 (some ⟨w.heap.size, 0, none⟩) (some ⟨w.heap.size + 1, 0, none⟩) (some ⟨w.heap.size + 1 + 1 + 1, 0, none⟩) 1 1 2 gA :=
    gA_at (blk_cell q1 0) (blk_cell q2 0) (blk_cell q3 0) (blk_cell q3 1) (blk_cell q4 0) (blk_cell q4 1) (blk_cell q4 2) (blk_cell q4 3)
  have KS : Aside0 (∀ W, Below W0.heap.size W0 W → Calls Try.prog 6 #[.agg #[.slice (some ⟨w.heap.size, 0, none⟩) 1 1, .slice (some ⟨w.heap.size + 1, 0, none⟩) 1 1, .slice (some ⟨w.heap.size + 1 + 1 + 1, 0, none⟩) 2 2, .int .i64 2]] W fun e w' => e = .returned (.string ⟨#[37, 116, 111, 107, 101, 110, 32, 65, 10, 37, 115, 116, 97, 114, 116, 32, 115, 10, 37, 37, 10, 115, 32, 58, 32, 65, 32, 115, 10, 9, 124, 10, 9, 59, 10]⟩) ∧ Below W.heap.size W w') := ⟨fun W hb => by
    have := gshow_Show (hg.below hb) gA_small
    rw [gA_show] at this
    exact this⟩
  have KR : Aside0 (∀ W, Below W0.heap.size W0 W → Calls Try.prog 8 #[.agg #[.slice (some ⟨w.heap.size, 0, none⟩) 1 1, .slice (some ⟨w.heap.size + 1, 0, none⟩) 1 1, .slice (some ⟨w.heap.size + 1 + 1 + 1, 0, none⟩) 2 2, .int .i64 2], .agg #[.int .i64 2, .slice (some ⟨w.heap.size + 1 + 1, 0, none⟩) 2 2]] W fun e w' => e = .returned (.string ⟨#[115, 32, 58, 32, 65, 32, 115]⟩) ∧ Below W.heap.size W w') := ⟨fun W hb => by
    obtain ⟨ad, A1, c1, e, _, k2, _, k4⟩ := at_rl hg.rules 0 (by decide)
    obtain rfl := Option.some.inj e
    have hs : some (Value.slice A1 (gA.rules.getD 0 default).right.length c1) = some (Value.slice (some ⟨w.heap.size + 1 + 1, 0, none⟩) 2 2) := by
      rw [← k2]
      exact (blk_cell q4 1).trans rfl
    simp only [Option.some.injEq, Value.slice.injEq] at hs
    obtain ⟨rfl, _, _⟩ := hs
    have := gshow_Rule (c := 2) (r := { left := 2, right := [1, 2] }) (hg.below hb) (Kd.C_below k4 hb) (by decide) gA_small.name
    rw [gA_rule] at this
    exact this⟩
  have KEY : Aside0 (∀ W, Below W0.heap.size W0 W → (W.cell? ⟨w.heap.size + 1 + 1 + 1 + 1, 0, none⟩ = some (.slice (some ⟨w.heap.size, 0, none⟩) 1 1) ∧ W.cell? ⟨w.heap.size + 1 + 1 + 1 + 1, 1, none⟩ = some (.slice (some ⟨w.heap.size + 1, 0, none⟩) 1 1) ∧ W.cell? ⟨w.heap.size + 1 + 1 + 1 + 1, 2, none⟩ = some (.slice (some ⟨w.heap.size + 1 + 1 + 1, 0, none⟩) 2 2) ∧ W.cell? ⟨w.heap.size + 1 + 1 + 1 + 1, 3, none⟩ = some (.int .i64 2)) ∧ W.cell? ⟨w.heap.size + 1 + 1 + 1, 0, none⟩ = some (.int .i64 2) ∧ W.cell? ⟨w.heap.size + 1 + 1 + 1, 1, none⟩ = some (.slice (some ⟨w.heap.size + 1 + 1, 0, none⟩) 2 2)) :=
    ⟨fun W hb => ⟨gcells (blk_below q5 hb), blk_cell (blk_below q4 hb) 0, blk_cell (blk_below q4 hb) 1⟩⟩
  have HB0 := Aside0.mk hb0
  clear hb0 q1 q2 q3 q4 q5 hg
  refine wp_region_det (vs := [?d1xv0, ?d1xv1, ?d1xv2, ?d1xv3, ?d1xv4, ?d1xv5, ?d1xv6, ?d1xv7, ?d1xv8, ?d1xv9, ?d1xv10, ?d1xv11, ?d1xv12]) (fun w' => Below W0.heap.size W0 w') rfl (by kernel_rfl) (putAll_put (by simp only [Act.put, List.setIfInBounds_toArray, List.set_cons_zero, List.set_cons_succ]; rfl) (putAll_put (by simp only [Act.put, List.setIfInBounds_toArray, List.set_cons_zero, List.set_cons_succ]; rfl) (putAll_put (by simp only [Act.put, List.setIfInBounds_toArray, List.set_cons_zero, List.set_cons_succ]; rfl) (putAll_put (by simp only [Act.put, List.setIfInBounds_toArray, List.set_cons_zero, List.set_cons_succ]; rfl) (putAll_put (by simp only [Act.put, List.setIfInBounds_toArray, List.set_cons_zero, List.set_cons_succ]; rfl) (putAll_put (by simp only [Act.put, List.setIfInBounds_toArray, List.set_cons_zero, List.set_cons_succ]; rfl) (putAll_put (by simp only [Act.put, List.setIfInBounds_toArray, List.set_cons_zero, List.set_cons_succ]; rfl) (putAll_put (by simp only [Act.put, List.setIfInBounds_toArray, List.set_cons_zero, List.set_cons_succ]; rfl) (putAll_put (by simp only [Act.put, List.setIfInBounds_toArray, List.set_cons_zero, List.set_cons_succ]; rfl) (putAll_put (by simp only [Act.put, List.setIfInBounds_toArray, List.set_cons_zero, List.set_cons_succ]; rfl) (putAll_put (by simp only [Act.put, List.setIfInBounds_toArray, List.set_cons_zero, List.set_cons_succ]; rfl) (putAll_put (by simp only [Act.put, List.setIfInBounds_toArray, List.set_cons_zero, List.set_cons_succ]; rfl) (putAll_put (by simp only [Act.put, List.setIfInBounds_toArray, List.set_cons_zero, List.set_cons_succ]; rfl) (putAll_nil _)))))))))))))) (below_drew (Below.refl _ _)) ?d1xOps ?d1xFin
  case d1xOps =>
    refine ⟨fun w' hw => ?d1xo0, fun w' hw => ?d1xo1, fun w' hw => ?d1xo2, fun w' hw => ?d1xo3, fun w' hw => ?d1xo4, fun w' hw => ?d1xo5, fun w' hw => ?d1xo6, fun w' hw => ?d1xo7, fun w' hw => ?d1xo8, fun w' hw => ?d1xo9, fun w' hw => ?d1xo10, fun w' hw => ?d1xo11, fun w' hw => ?d1xo12, trivial⟩
    case d1xo0 => obtain ⟨⟨f0, f1, f2, f3⟩, f4, f5⟩ := KEY.out w' hw; go_simp; rfl
    case d1xo1 => obtain ⟨⟨f0, f1, f2, f3⟩, f4, f5⟩ := KEY.out w' hw; (go_simp; refine (KS.out w' hw).mono ?_; rintro e w2 ⟨rfl, hb2⟩; exact ⟨by rfl, hw.trans (hb2.mono hw.size)⟩)
    case d1xo2 => obtain ⟨⟨f0, f1, f2, f3⟩, f4, f5⟩ := KEY.out w' hw; go_simp; rfl
    case d1xo3 => obtain ⟨⟨f0, f1, f2, f3⟩, f4, f5⟩ := KEY.out w' hw; go_simp; rfl
    case d1xo4 => obtain ⟨⟨f0, f1, f2, f3⟩, f4, f5⟩ := KEY.out w' hw; go_simp; rfl
    case d1xo5 => obtain ⟨⟨f0, f1, f2, f3⟩, f4, f5⟩ := KEY.out w' hw; go_simp; rfl
    case d1xo6 => obtain ⟨⟨f0, f1, f2, f3⟩, f4, f5⟩ := KEY.out w' hw; go_simp; rfl
    case d1xo7 => obtain ⟨⟨f0, f1, f2, f3⟩, f4, f5⟩ := KEY.out w' hw; go_simp; rfl
    case d1xo8 => obtain ⟨⟨f0, f1, f2, f3⟩, f4, f5⟩ := KEY.out w' hw; go_simp; rfl
    case d1xo9 => obtain ⟨⟨f0, f1, f2, f3⟩, f4, f5⟩ := KEY.out w' hw; (go_simp; refine (KR.out w' hw).mono ?_; rintro e w2 ⟨rfl, hb2⟩; exact ⟨by rfl, hw.trans (hb2.mono hw.size)⟩)
    case d1xo10 => obtain ⟨⟨f0, f1, f2, f3⟩, f4, f5⟩ := KEY.out w' hw; go_simp; rfl
    case d1xo11 => obtain ⟨⟨f0, f1, f2, f3⟩, f4, f5⟩ := KEY.out w' hw; go_simp; rfl
    case d1xo12 => obtain ⟨⟨f0, f1, f2, f3⟩, f4, f5⟩ := KEY.out w' hw; go_simp; rfl
  case d1xFin =>
    intro w1 hw1
    go_wp2
    go_ret
    exact ⟨rfl, HB0.out.trans (hw1.mono HB0.out.size)⟩
end Go.Proofs.Ytliofoikejdjeaa
