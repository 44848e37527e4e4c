/- fault.Code, At, Name. -/
import Derived.Test.YtnkmpinlijfocaaFmtE7
namespace Go.Proofs.YtnkmpinlijfocaaFmt
open Go.RowKit Go.Proofs.YtnkmpinlijfocaaFmtW.PrintWords Go.Extern.Stop Go.Stop Go.Extern
set_option linter.unusedVariables false
set_option linter.unusedSimpArgs false
theorem fault_Code0 (w : World) : Calls Tryf.prog 9 #[.nilIface] w fun e w' => e = .returned (.int .i64 0) ∧ Below w.heap.size w w' := by
  go_enter Tryf.func9, Tryf.ntmps9
  go_wp2
  go_ret
  exact ⟨rfl, Below.refl _ _⟩
theorem fault_Code {w : World} {v : Value} {E : Er} (h : ErAt w v E) (hg : GlobalAt w) :
    Calls Tryf.prog 9 #[v] w fun e w' => e = .returned (.int .i64 (match E.pl with | some (e, _) => e | none => 1)) ∧ Below w.heap.size w w' := by
  have hof := Aside0.mk (fault_of h hg)
  obtain ⟨ty, eb, rfl⟩ := erAt_iface h
  clear h hg
  generalize E.pl = o at *
  rcases o with _ | ⟨e, a⟩
  · go_enter Tryf.func9, Tryf.ntmps9
    go_wp2_with (go_at_call 21; refine hof.out.mono ?_; rintro ev w1 ⟨rfl, hb1⟩)
    go_ret
    exact ⟨rfl, below_alloc hb1 _⟩
  · go_enter Tryf.func9, Tryf.ntmps9
    go_wp2_with (go_at_call 21; refine hof.out.mono ?_; rintro ev w1 ⟨rfl, hb1⟩)
    go_ret
    exact ⟨rfl, below_alloc hb1 _⟩
theorem fault_At {w : World} {v : Value} {E : Er} (h : ErAt w v E) (hg : GlobalAt w) :
    Calls Tryf.prog 10 #[v] w fun e w' => e = .returned (.int .i64 (match E.pl with | some (_, a) => a | none => -1)) ∧ Below w.heap.size w w' := by
  have hof := Aside0.mk (fault_of h hg)
  obtain ⟨ty, eb, rfl⟩ := erAt_iface h
  clear h hg
  generalize E.pl = o at *
  rcases o with _ | ⟨e, a⟩
  · go_enter Tryf.func10, Tryf.ntmps10
    go_wp2_with (go_at_call 21; refine hof.out.mono ?_; rintro ev w1 ⟨rfl, hb1⟩)
    go_ret
    exact ⟨rfl, below_alloc hb1 _⟩
  · go_enter Tryf.func10, Tryf.ntmps10
    go_wp2_with (go_at_call 21; refine hof.out.mono ?_; rintro ev w1 ⟨rfl, hb1⟩)
    go_ret
    exact ⟨rfl, below_alloc hb1 _⟩
theorem fault_Name {w : World} {v : Value} {E : Er} (h : ErAt w v E) (hg : GlobalAt w) :
    Calls Tryf.prog 11 #[v] w fun e w' => e = .returned (.string (E.nm.getD ⟨#[]⟩)) ∧ Below w.heap.size w w' := by
  have hb0 := below_alloc (Below.refl w.heap.size w) (.cells #[.pointer none] 48)
  have hk0 := blk_new w (.cells #[.pointer none] 48)
  have hgl : GlobalAt (w.alloc (.cells #[.pointer none] 48)) := (hb0.cell (p := ⟨0, 0, none⟩) (World.block_lt_of_cell? _ _ hg)).trans hg
  have hof := Aside0.mk (AsN_all (h.below hb0) hgl hk0)
  have HB0 := Aside0.mk hb0
  obtain ⟨ty, eb, rfl⟩ := erAt_iface h
  clear h hg hb0 hk0 hgl
  generalize E.nm = o at *
  rcases o with _ | n
  · go_enter Tryf.func11, Tryf.ntmps11
    go_wp2_with (go_at_call 22; refine hof.out.mono ?_; rintro ev w1 ⟨rfl, hb1, hx⟩; clear hx)
    go_ret
    exact ⟨rfl, HB0.out.trans hb1⟩
  · go_enter Tryf.func11, Tryf.ntmps11
    go_wp2_with (go_at_call 22; refine hof.out.mono ?_; rintro ev w1 ⟨rfl, hb1, hx⟩; obtain ⟨b, u, h1, h2⟩ := hx n rfl; have y0 := blk_cell h1 0; have y1 := blk_cell h2 0; clear hx h1 h2)
    go_ret
    exact ⟨rfl, HB0.out.trans hb1⟩
end Go.Proofs.YtnkmpinlijfocaaFmt
