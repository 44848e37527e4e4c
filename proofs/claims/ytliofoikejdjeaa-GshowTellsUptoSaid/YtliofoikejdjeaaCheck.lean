/- gram.Check. -/
import Derived.Test.YtliofoikejdjeaaOnce
namespace Go.Proofs.Ytliofoikejdjeaa
open Go.RowKit Go.Proofs.YtliofoikejdjeaaW.PrintWords
set_option linter.unusedVariables false
set_option linter.unusedSimpArgs false
theorem gcells {w : World} {b : Nat} {v0 v1 v2 v3 : Value} {t : TypeId} (h : w.heap[b]? = some (.cells #[v0, v1, v2, v3] t (0, 0))) : w.cell? ⟨b, 0, none⟩ = some v0 ∧ w.cell? ⟨b, 1, none⟩ = some v1 ∧ w.cell? ⟨b, 2, none⟩ = some v2 ∧ w.cell? ⟨b, 3, none⟩ = some v3 :=
  ⟨blk_cell h 0, blk_cell h 1, blk_cell h 2, blk_cell h 3⟩
def shortR (r : Rl) : Bool := decide (r.right.length ≤ 8)
def termOk (s : ByteArray) : Bool := plainOk s || isQuoted s
/-- The order of gram.Check's questions. -/
def checkB (l0 l1 l2 : Nat) (short form0 form1 once non known unlike none_ : Bool) : Int :=
  if 120 < l0 ∨ 120 < l1 ∨ 300 < l2 ∨ short = false then 7 else if form0 = false ∨ form1 = false then 10 else if once = false then 8
  else if non = false ∨ known = false then 1 else if unlike = false then 8 else if none_ then 9 else 0
/-- Has a nonterminal no rule? -/
def Gm.lacks (g : Gm) : Bool := decide (∃ k, k < g.nons.length ∧ g.ofS (g.terms.length + 1 + k) = [])
def Gm.check (g : Gm) : Int :=
  checkB g.terms.length g.nons.length g.rules.length (g.rules.all shortR) (g.terms.all termOk) (g.nons.all plainOk) (decide g.names.Nodup) (g.isNon g.start) (g.rules.all fun r => g.knownR r) (unlikeR g.rules) g.lacks
section
variable {w : World}
theorem check1 (W : World) (x : Rl) (v : Value) (hv : Vrl W x v) : Calls Try.prog 21 #[v] W fun e w' => e = .returned (.bool (shortR x)) ∧ Below W.heap.size W w' := by
  obtain ⟨A, c, rfl, hl, hC⟩ := hv
  have hm := Kd.C_max hC
  clear hC
  go_enter Try.func21, Try.ntmps21
  go_wp2
  go_ret
  exact ⟨rbool (by rw [Bool.eq_iff_iff]; simp [shortR]; omega), below_alloc (Below.refl _ _) _⟩
theorem check2 (W : World) (s : ByteArray) (hs : s.size ≤ 140737488351232) : Calls Try.prog 24 #[.string s] W fun e w' => e = .returned (.bool (termOk s)) ∧ Below W.heap.size W w' := by
  have hp := gram_plain s hs W
  have hq := fun W' => gtok_Quoted s hs W'
  unfold termOk
  generalize plainOk s = p at *
  cases p with
  | true =>
    clear hq
    go_enter Try.func24, Try.ntmps24
    go_wp2_with (go_at_call 25; refine hp.mono ?_; rintro e w1 ⟨rfl, hb1⟩)
    go_ret
    exact ⟨rfl, hb1⟩
  | false =>
    go_enter Try.func24, Try.ntmps24
    go_wp2_with (first | (go_at_call 25; refine hp.mono ?_; rintro e w1 ⟨rfl, hb1⟩) | (go_at_call 26; refine (hq _).mono ?_; rintro e w2 ⟨rfl, hb2⟩))
    go_ret
    exact ⟨rfl, hb1.trans (hb2.mono hb1.size)⟩
theorem check3 {W : World} {A0 A1 A2 : Option Addr} {c0 c1 c2 b : Nat} {g : Gm} (hb : W.heap[b]? = some (.cells (gv A0 A1 A2 c0 c1 c2 g) 25 (0, 0))) (h : GmAt W A0 A1 A2 c0 c1 c2 g) (x : Rl) (v : Value) (hv : Vrl W x v) :
    Calls Try.prog 29 #[v, .pointer (some ⟨b, 0, none⟩)] W fun e w' => e = .returned (.bool (g.knownR x)) ∧ Below W.heap.size W w' := by
  obtain ⟨A, c, rfl, hl, hC⟩ := hv
  have hb0 := below_alloc (Below.refl _ W) (.cells #[.int .i64 x.left, .slice A x.right.length c] 28)
  have hk := gram_known (c := c) (h.below hb0) (Kd.C_below hC hb0) (Kd.C_max hC)
  have hlt := blk_lt hb
  unfold gv at *
  obtain ⟨f0, f1, f2, f3⟩ := gcells hb
  clear hC hb h
  go_enter Try.func29, Try.ntmps29
  go_wp2_with (go_at_call 30; refine hk.mono ?_; rintro e w1 ⟨rfl, hb1⟩)
  go_ret
  exact ⟨rfl, below_new hb1⟩
end
end Go.Proofs.Ytliofoikejdjeaa
