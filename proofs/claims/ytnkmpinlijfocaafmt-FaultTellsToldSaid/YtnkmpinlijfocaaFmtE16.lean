/- conchlaw02.made where nothing is made. -/
import Derived.Test.YtnkmpinlijfocaaFmtE15
namespace Go.Proofs.YtnkmpinlijfocaaFmt
open Go.RowKit Go.Proofs.YtnkmpinlijfocaaFmtW.PrintWords Go.Proofs.YtnkmpinlijfocaaFmtW.PrintLast Go.Extern.Stop Go.Stop Go.Extern
set_option linter.unusedVariables false
set_option linter.unusedSimpArgs false
set_option maxHeartbeats 8000000 in
set_option maxRecDepth 100000 in
theorem law02_made0 {w : World} {a : Int} {A : Option Addr} {c n : Nat} :
    Calls Tryf.prog 14 #[.int .i64 0, .int .i64 a, .bool false, .slice A n c] w fun ev w' => ev = .returned (.tuple #[.nilIface, .agg #[.int .i64 0, .int .i64 a, .slice none 0 0, .bool false]]) ∧ Below w.heap.size w w' := by
  have h1 := blk_alloc (blk_new w (.cells #[.int .i64 0, .int .i64 0, .slice none 0 0, .bool false] 37)) (.cells #[.int .i64 0, .int .i64 a, .slice none 0 0, .bool false] 37)
  have h2 := blk_new (w.alloc (.cells #[.int .i64 0, .int .i64 0, .slice none 0 0, .bool false] 37)) (.cells #[.int .i64 0, .int .i64 a, .slice none 0 0, .bool false] 37)
  rw [show (w.alloc (.cells #[.int .i64 0, .int .i64 0, .slice none 0 0, .bool false] 37)).heap.size = w.heap.size + 1 from by simp] at h2
  have h3 := below_alloc (below_alloc (Below.refl w.heap.size w) (.cells #[.int .i64 0, .int .i64 0, .slice none 0 0, .bool false] 37)) (.cells #[.int .i64 0, .int .i64 a, .slice none 0 0, .bool false] 37)
  have BK := Aside0.mk (blk_drew h2)
  have BR := Aside0.mk (blk_drew h1)
  have HB := Aside0.mk (below_drew h3)
  clear h1 h2 h3
  go_enter Tryf.func14, Tryf.ntmps14
  go_wp2_with (go_at_call 5; refine (fault_New0 a _).mono ?_; rintro ev w1 ⟨rfl, rfl⟩)
  obtain ⟨fB, hfB⟩ : ∃ x, x = w.heap.size + 1 := ⟨_, rfl⟩
  rw [← hfB] at BK ⊢
  clear hfB
  refine wp_loop_rounds 1 ?_
  rw [rounds_succ]
  by_cases hlt : (0 : Int) < (n : Int)
  all_goals
    go_wp2
    refine start_ (n := 4) (S := fun w' => w'.cell? ⟨fB, 0, none⟩ = some (.int .i64 0) ∧ w'.cell? ⟨fB, 1, none⟩ = some (.int .i64 a) ∧ w'.cell? ⟨fB, 2, none⟩ = some (.slice none 0 0) ∧ w'.cell? ⟨fB, 3, none⟩ = some (.bool false)) (ds := [3]) #[false, false, false, false] (by kernel_rfl) rfl rfl ⟨(blk_cell BK.out 0).trans rfl, (blk_cell BK.out 1).trans rfl, (blk_cell BK.out 2).trans rfl, (blk_cell BK.out 3).trans rfl⟩ (fun hHeld => ?_)
    refine with_tabW made2Tab made2Bits (fun HT_ HW_ => ?_)
    generalize World.drew _ = w5 at BK BR HB hHeld ⊢
    refine pure_ (i := 0) (N := (some 57)) (v := ?_) (a' := ?_) #[true, false, false, false] rfl rfl (any_of HT_.out (by kernel_rfl)) (fun _ _ _ h => h) (Or.inl ⟨by rfl, ?_⟩) ?_ ?_
    rotate_left
    · intro w'
      go_simp
      with_reducible rfl
    rotate_left
    · simp only [Act.put, List.setIfInBounds_toArray, List.set_cons_zero, List.set_cons_succ, i64_w, i32_w]
      rfl
    refine take_ (i := 1) (N := (some 58)) (v := ?_) (a' := ?_) #[true, true, false, false] rfl rfl (take_ofW HT_.out HW_.out (by kernel_rfl)) (fun _ _ _ h => h) (Or.inl ⟨by rfl, ?_⟩) hHeld ?_ ?_
    rotate_left
    · rintro w' ⟨s0, s1, s2, s3⟩
      go_simp
      with_reducible rfl
    rotate_left
    · simp only [Act.put, List.setIfInBounds_toArray, List.set_cons_zero, List.set_cons_succ, i64_w, i32_w]
      rfl
    refine pure_ (i := 2) (N := (some 8)) (v := ?_) (a' := ?_) #[true, true, true, false] rfl rfl (any_of HT_.out (by kernel_rfl)) (fun _ _ _ h => h) (Or.inl ⟨by rfl, ?_⟩) ?_ ?_
    rotate_left
    · intro w'
      go_simp
      with_reducible rfl
    rotate_left
    · simp only [Act.put, List.setIfInBounds_toArray, List.set_cons_zero, List.set_cons_succ, i64_w, i32_w]
      rfl
    refine last_ (i := 3) (N := none) #[true, true, true, true] rfl rfl (one_of HT_.out (by kernel_rfl)) (by decide) (fun K hK => ?_)
    have f0 := blk_frozen BR.out 0
    have f1 := blk_frozen BR.out 1
    have f2 := blk_frozen BR.out 2
    have f3 := blk_frozen BR.out 3
    refine skip_ (by rfl) rfl (w1 := (((w5.setCell ⟨w.heap.size, 0, none⟩ (.int .i64 0)).setCell ⟨w.heap.size, 1, none⟩ (.int .i64 a)).setCell ⟨w.heap.size, 2, none⟩ (.slice none 0 0)).setCell ⟨w.heap.size, 3, none⟩ (.bool false)) ?hrun ?_; (case hrun => have g0 := (blk_cell BR.out 0).trans rfl; have g1 := (blk_cell BR.out 1).trans rfl; have g2 := (blk_cell BR.out 2).trans rfl; have g3 := (blk_cell BR.out 3).trans rfl; first | (go_simp; done) | (go_simp; rfl))
    refine hK.out _ _ ?_
    clear hK K
    refine done_ (done_of HT_.out (by kernel_rfl)) ?_
    go_wp2
    have b1 := blk_set BR.out 0 (.int .i64 0)
    have b2 := blk_set b1 1 (.int .i64 a)
    have b3 := blk_set b2 2 (.slice none 0 0)
    have b4 := blk_set b3 3 (.bool false)
    refine bodyPost_ret (results_tc (fn := Tryf.f14) rfl _ _ w.heap.size 37 _ (0, 0) _ rfl b4 Tryf.underlying37 rfl (by kernel_rfl)) rfl ⟨rfl, ?_⟩
    exact (((HB.out.setCell (p := ⟨w.heap.size, 0, none⟩) (Nat.le_refl _) _).setCell (p := ⟨w.heap.size, 1, none⟩) (Nat.le_refl _) _).setCell (p := ⟨w.heap.size, 2, none⟩) (Nat.le_refl _) _).setCell (p := ⟨w.heap.size, 3, none⟩) (Nat.le_refl _) _
end Go.Proofs.YtnkmpinlijfocaaFmt
