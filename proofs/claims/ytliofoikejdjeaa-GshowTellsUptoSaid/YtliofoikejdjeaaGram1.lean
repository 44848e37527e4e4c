/- gram: the small functions. -/
import Derived.Test.YtliofoikejdjeaaBase
namespace Go.Proofs.Ytliofoikejdjeaa
open Go.RowKit Go.Proofs.YtliofoikejdjeaaW.PrintWords
set_option linter.unusedVariables false
set_option linter.unusedSimpArgs false
def Gm.top (g : Gm) : Int := g.terms.length + g.nons.length
def Gm.isTerm (g : Gm) (s : Int) : Bool := decide (1 ≤ s) && decide (s ≤ g.terms.length)
def Gm.isNon (g : Gm) (s : Int) : Bool := decide (g.terms.length < s) && decide (s ≤ g.top)
section
variable {w : World} {A0 A1 A2 : Option Addr} {c0 c1 c2 : Nat} {g : Gm}

theorem gram_Top (h : GmAt w A0 A1 A2 c0 c1 c2 g) : Calls Try.prog 33 #[.agg (gv A0 A1 A2 c0 c1 c2 g)] w fun e w' => e = .returned (.int .i64 g.top) ∧ Below w.heap.size w w' := by
  have h0 := h.m0
  have h1 := h.m1
  clear h
  unfold gv Gm.top
  go_enter Try.func33, Try.ntmps33
  go_wp2
  go_ret
  exact ⟨rfl, (Below.refl _ _).alloc (Nat.le_refl _) _⟩

theorem gram_Term (h : GmAt w A0 A1 A2 c0 c1 c2 g) (s : Int) : Calls Try.prog 48 #[.agg (gv A0 A1 A2 c0 c1 c2 g), .int .i64 s] w fun e w' => e = .returned (.bool (g.isTerm s)) ∧ Below w.heap.size w w' := by
  have h0 := h.m0
  have h1 := h.m1
  clear h
  unfold gv Gm.isTerm
  by_cases hs : 1 ≤ s
  all_goals
    go_enter Try.func48, Try.ntmps48
    go_wp2
    go_ret
    exact ⟨rbool (by first | (simp [hs]; done) | (simp; omega)), (Below.refl _ _).alloc (Nat.le_refl _) _⟩

theorem gram_Non (h : GmAt w A0 A1 A2 c0 c1 c2 g) (s : Int) : Calls Try.prog 28 #[.agg (gv A0 A1 A2 c0 c1 c2 g), .int .i64 s] w fun e w' => e = .returned (.bool (g.isNon s)) ∧ Below w.heap.size w w' := by
  have h0 := h.m0
  have h1 := h.m1
  have ht := gram_Top (h.below ((Below.refl _ _).alloc (Nat.le_refl _) (.cells (gv A0 A1 A2 c0 c1 c2 g) 25)))
  clear h
  unfold gv at *
  by_cases hs : (g.terms.length : Int) < s
  · go_enter Try.func28, Try.ntmps28
    go_wp2_with (go_at_call 33; refine ht.mono ?_; rintro e w' ⟨rfl, hb⟩)
    go_ret
    exact ⟨by simp [Gm.isNon, hs], below_new hb⟩
  · go_enter Try.func28, Try.ntmps28
    go_wp2
    go_ret
    exact ⟨rbool (by simp [Gm.isNon]; omega), (Below.refl _ _).alloc (Nat.le_refl _) _⟩
end
end Go.Proofs.Ytliofoikejdjeaa
