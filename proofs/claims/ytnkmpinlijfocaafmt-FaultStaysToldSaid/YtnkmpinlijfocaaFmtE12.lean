/- Code, At, Name at nil; awake. -/
import Derived.Test.YtnkmpinlijfocaaFmtE11
namespace Go.Proofs.YtnkmpinlijfocaaFmt
open Go.RowKit Go.Proofs.YtnkmpinlijfocaaFmtW.PrintWords Go.Extern.Stop Go.Stop Go.Extern
set_option linter.unusedVariables false
set_option linter.unusedSimpArgs false
set_option maxHeartbeats 2000000 in
set_option maxRecDepth 100000 in
theorem fault_of0 (w : World) :
    Calls Tryf.prog 21 #[.nilIface] w fun e w' => e = .returned (.tuple #[.agg #[.int .i64 0, .int .i64 0], .bool false]) ∧ Below w.heap.size w w' := by
  go_enter Tryf.func21, Tryf.ntmps21
  go_wp2_with (go_at_call 22; refine (As_nil _ _).mono ?_; rintro ev w2 ⟨rfl, rfl⟩)
  have hk0 := blk_alloc (blk_new w (.cells #[.int .i64 0, .int .i64 0] 47)) (.cells #[.pointer none] 45)
  exact bodyPost_ret (results_ct (fn := Tryf.f21) rfl _ _ w.heap.size 47 _ (0, 0) _ rfl hk0 Tryf.underlying47 rfl (by kernel_rfl)) rfl ⟨rfl, below_alloc (below_alloc (Below.refl w.heap.size w) (.cells #[.int .i64 0, .int .i64 0] 47)) (.cells #[.pointer none] 45)⟩
theorem fault_At0 (w : World) : Calls Tryf.prog 10 #[.nilIface] w fun e w' => e = .returned (.int .i64 (-1)) ∧ Below w.heap.size w w' := by
  go_enter Tryf.func10, Tryf.ntmps10
  go_wp2_with (go_at_call 21; refine (fault_of0 _).mono ?_; rintro ev w1 ⟨rfl, hb1⟩)
  go_ret
  exact ⟨rfl, below_alloc hb1 _⟩
theorem fault_Name0 (w : World) : Calls Tryf.prog 11 #[.nilIface] w fun e w' => e = .returned (.string ⟨#[]⟩) ∧ Below w.heap.size w w' := by
  go_enter Tryf.func11, Tryf.ntmps11
  go_wp2_with (go_at_call 22; refine (As_nil _ _).mono ?_; rintro ev w2 ⟨rfl, rfl⟩)
  go_ret
  exact ⟨rfl, below_alloc (Below.refl _ _) _⟩
theorem global_below {w w' : World} (hg : GlobalAt w) (hb : Below w.heap.size w w') : GlobalAt w' := (hb.cell (p := ⟨0, 0, none⟩) (World.block_lt_of_cell? _ _ hg)).trans hg
theorem code_is {W : World} {v : Value} {E : Er} {e a : Int} (hp : E.pl = some (e, a)) (h : ErAt W v E) (hg : GlobalAt W) : Calls Tryf.prog 9 #[v] W fun ev w' => ev = .returned (.int .i64 e) ∧ Below W.heap.size W w' := by
  have := fault_Code h hg
  rw [hp] at this
  exact this
theorem at_is {W : World} {v : Value} {E : Er} {e a : Int} (hp : E.pl = some (e, a)) (h : ErAt W v E) (hg : GlobalAt W) : Calls Tryf.prog 10 #[v] W fun ev w' => ev = .returned (.int .i64 a) ∧ Below W.heap.size W w' := by
  have := fault_At h hg
  rw [hp] at this
  exact this
theorem name_is {W : World} {v : Value} {E : Er} {n : ByteArray} (hp : E.nm = some n) (h : ErAt W v E) (hg : GlobalAt W) : Calls Tryf.prog 11 #[v] W fun ev w' => ev = .returned (.string n) ∧ Below W.heap.size W w' := by
  have := fault_Name h hg
  rw [hp] at this
  exact this
theorem is_is {W : World} {v : Value} {E : Er} {e a : Int} (hp : E.pl = some (e, a)) (he : e ≠ 0) (h : ErAt W v E) : Calls Tryf.prog 12 #[v, .int .i64 e] W fun ev w' => ev = .returned (.bool true) ∧ w' = W := by
  have := fault_Is e h
  rw [hp, show (e != 0 && isOf (some (e, a)) e) = true from by simp [isOf, he]] at this
  exact this
theorem eis_is {W : World} {v : Value} {E : Er} {e a : Int} (hp : E.pl = some (e, a)) (h : ErAt W v E) : Calls Tryf.prog 13 #[v, .iface 22 (.int .i64 e)] W fun ev w' => ev = .returned (.bool true) ∧ w' = W := by
  have := errors_Is e h
  rw [hp, show isOf (some (e, a)) e = true from by simp [isOf]] at this
  exact this
set_option maxHeartbeats 2000000 in
theorem law02_awake {w : World} (hg : GlobalAt w) : Calls Tryf.prog 7 #[] w fun e w' => e = .returned (.bool true) ∧ Below w.heap.size w w' := by
  have HG := Aside0.mk hg
  clear hg
  go_enter Tryf.func7, Tryf.ntmps7
  go_wp2_with (first
    | (go_at_call 5; refine (fault_New (e := 2) 7 (by decide) _).mono ?_; rintro ev w1 ⟨v1, rfl, h1, hb1⟩)
    | (go_at_call 6; refine (fault_In _ h1).mono ?_; rintro ev w2 ⟨v2, rfl, h2, hb2⟩; have b2 := Aside0.mk (hb1.trans (hb2.mono hb1.size)); have H2 := Aside0.mk h2; clear h1 h2 hb1 hb2)
    | (go_at_call 9; refine (code_is (e := 2) (a := 7) rfl H2.out (global_below HG.out b2.out)).mono ?_; rintro ev w3 ⟨rfl, hb3⟩; have b3 := Aside0.mk (b2.out.trans (hb3.mono b2.out.size)); have H3 := Aside0.mk (H2.out.below hb3); clear hb3 H2 b2)
    | (go_at_call 10; refine (at_is (e := 2) (a := 7) rfl H3.out (global_below HG.out b3.out)).mono ?_; rintro ev w4 ⟨rfl, hb4⟩; have b4 := Aside0.mk (b3.out.trans (hb4.mono b3.out.size)); have H4 := Aside0.mk (H3.out.below hb4); clear hb4 H3 b3)
    | (go_at_call 11; refine (name_is rfl H4.out (global_below HG.out b4.out)).mono ?_; rintro ev w5 ⟨rfl, hb5⟩; have b5 := Aside0.mk (b4.out.trans (hb5.mono b4.out.size)); have H5 := Aside0.mk (H4.out.below hb5); clear hb5 H4 b4)
    | (go_at_call 12; refine (is_is (e := 2) (a := 7) rfl (by decide) H5.out).mono ?_; rintro ev w6 ⟨rfl, rfl⟩))
  go_ret
  exact ⟨rfl, b5.out⟩
end Go.Proofs.YtnkmpinlijfocaaFmt
