/- The document's Top, Term, Non; gram's known; names of symbols. -/
import Derived.Test.YtliofoikejdjeaaGram4
import Derived.Test.YtliofoikejdjeaaGram1
namespace Go.Proofs.Ytliofoikejdjeaa
open Go.RowKit Go.Proofs.YtliofoikejdjeaaW.PrintWords
set_option linter.unusedVariables false
set_option linter.unusedSimpArgs false
section
variable {w : World} {A0 A1 A2 : Option Addr} {c0 c1 c2 : Nat} {g : Gm}
theorem ref06_Top (h : GmAt w A0 A1 A2 c0 c1 c2 g) : Calls Try.prog 47 #[.agg (gv A0 A1 A2 c0 c1 c2 g)] w fun e w' => e = .returned (.int .i64 g.top) ∧ Below w.heap.size w w' := by
  have h0 := h.m0
  have h1 := h.m1
  clear h
  unfold gv Gm.top
  go_enter Try.func47, Try.ntmps47
  go_wp2
  go_ret
  exact ⟨rfl, (Below.refl _ _).alloc (Nat.le_refl _) _⟩

theorem ref06_Term (h : GmAt w A0 A1 A2 c0 c1 c2 g) (s : Int) : Calls Try.prog 67 #[.agg (gv A0 A1 A2 c0 c1 c2 g), .int .i64 s] w fun e w' => e = .returned (.bool (g.isTerm s)) ∧ Below w.heap.size w w' := by
  have h0 := h.m0
  have h1 := h.m1
  clear h
  unfold gv Gm.isTerm
  by_cases hs : 1 ≤ s
  all_goals
    go_enter Try.func67, Try.ntmps67
    go_wp2
    go_ret
    exact ⟨rbool (by first | (simp [hs]; done) | (simp; omega)), (Below.refl _ _).alloc (Nat.le_refl _) _⟩

theorem ref06_Non (h : GmAt w A0 A1 A2 c0 c1 c2 g) (s : Int) : Calls Try.prog 66 #[.agg (gv A0 A1 A2 c0 c1 c2 g), .int .i64 s] w fun e w' => e = .returned (.bool (g.isNon s)) ∧ Below w.heap.size w w' := by
  have h0 := h.m0
  have h1 := h.m1
  have ht := ref06_Top (h.below ((Below.refl _ _).alloc (Nat.le_refl _) (.cells (gv A0 A1 A2 c0 c1 c2 g) 25)))
  clear h
  unfold gv at *
  by_cases hs : (g.terms.length : Int) < s
  · go_enter Try.func66, Try.ntmps66
    go_wp2_with (go_at_call 47; refine ht.mono ?_; rintro e w' ⟨rfl, hb⟩)
    go_ret
    exact ⟨by simp [Gm.isNon, hs], below_new hb⟩
  · go_enter Try.func66, Try.ntmps66
    go_wp2
    go_ret
    exact ⟨rbool (by simp [Gm.isNon]; omega), (Below.refl _ _).alloc (Nat.le_refl _) _⟩

/-- The block of a grammar that is boxed. -/
def gb (A0 A1 A2 : Option Addr) (c0 c1 c2 : Nat) (g : Gm) : Obj := .cells (gv A0 A1 A2 c0 c1 c2 g) 25 (0, 0)
def Gm.sym (g : Gm) (s : Int) : Bool := g.isTerm s || g.isNon s
theorem known1 {W : World} {b : Nat} (hb : W.heap[b]? = some (gb A0 A1 A2 c0 c1 c2 g)) (h : GmAt W A0 A1 A2 c0 c1 c2 g) (s : Int) :
    Calls Try.prog 57 #[.int .i64 s, .pointer (some ⟨b, 0, none⟩)] W fun e w' => e = .returned (.bool (g.sym s)) ∧ Below W.heap.size W w' := by
  have ht := gram_Term h s
  have hn := fun W' (hw : Below W.heap.size W W') => gram_Non (h.below hw) s
  have hlt := blk_lt hb
  have f0 : W.cell? ⟨b, 0, none⟩ = _ := blk_cell hb 0
  have f1 : W.cell? ⟨b, 1, none⟩ = _ := blk_cell hb 1
  have f2 : W.cell? ⟨b, 2, none⟩ = _ := blk_cell hb 2
  have f3 : W.cell? ⟨b, 3, none⟩ = _ := blk_cell hb 3
  have HBK := Aside0.mk hb
  clear hb h
  unfold gv at *
  unfold Gm.sym
  obtain ⟨p, hp⟩ : ∃ p, g.isTerm s = p := ⟨_, rfl⟩
  rw [hp] at ht ⊢
  clear hp
  cases p with
  | true =>
    clear hn
    go_enter Try.func57, Try.ntmps57
    go_wp2_with (go_at_call 48; refine ht.mono ?_; rintro e w1 ⟨rfl, hb1⟩)
    go_ret
    exact ⟨rfl, hb1⟩
  | false =>
    go_enter Try.func57, Try.ntmps57
    have HN := Aside0.mk hn
    clear hn
    go_wp2_with (first | (go_at_call 48; refine ht.mono ?_; rintro e w1 ⟨rfl, hb1⟩; have g0 := (hb1.cell (p := ⟨b, 0, none⟩) hlt).trans f0; have g1 := (hb1.cell (p := ⟨b, 1, none⟩) hlt).trans f1; have g2 := (hb1.cell (p := ⟨b, 2, none⟩) hlt).trans f2; have g3 := (hb1.cell (p := ⟨b, 3, none⟩) hlt).trans f3) | (go_at_call 28; refine (HN.out _ hb1).mono ?_; rintro e w2 ⟨rfl, hb2⟩))
    go_ret
    exact ⟨rfl, hb1.trans (hb2.mono hb1.size)⟩
def Gm.knownR (g : Gm) (r : Rl) : Bool := g.isNon r.left && r.right.all fun s => g.sym s
set_option maxHeartbeats 1000000 in
theorem gram_known {A : Option Addr} {c : Nat} {r : Rl} (h : GmAt w A0 A1 A2 c0 c1 c2 g) (hr : Kd.C (Kd.int .i64) w A r.right.length r.right) (hm : r.right.length ≤ 9223372036854775807) :
    Calls Try.prog 30 #[.agg (gv A0 A1 A2 c0 c1 c2 g), .agg #[.int .i64 r.left, .slice A r.right.length c]] w fun e w' => e = .returned (.bool (g.knownR r)) ∧ Below w.heap.size w w' := by
  have hb0 := below_alloc (below_alloc (Below.refl _ w) (.cells (gv A0 A1 A2 c0 c1 c2 g) 25)) (.cells #[.int .i64 r.left, .slice A r.right.length c] 28)
  have hbk := blk_alloc (blk_new w (.cells (gv A0 A1 A2 c0 c1 c2 g) 25)) (.cells #[.int .i64 r.left, .slice A r.right.length c] 28)
  have hbr : ((w.alloc (.cells (gv A0 A1 A2 c0 c1 c2 g) 25)).alloc (.cells #[.int .i64 r.left, .slice A r.right.length c] 28)).heap[w.heap.size + 1]? = some (.cells #[.int .i64 r.left, .slice A r.right.length c] 28) := by
    have := blk_new (w.alloc (.cells (gv A0 A1 A2 c0 c1 c2 g) 25)) (.cells #[.int .i64 r.left, .slice A r.right.length c] 28)
    simpa using this
  have hn := gram_Non (h.below hb0) r.left
  have H := Aside0.mk (h.below hb0)
  have HR := Aside0.mk (Kd.C_below hr hb0)
  have HBK := Aside0.mk hbk
  have HBR := Aside0.mk hbr
  have HB0 := Aside0.mk hb0
  have hl1 := blk_lt hbr
  clear h hr hbk hbr hb0
  unfold Gm.knownR
  obtain ⟨p, hp⟩ : ∃ p, g.isNon r.left = p := ⟨_, rfl⟩
  rw [hp] at hn ⊢
  clear hp
  unfold gv at *
  cases p with
  | false =>
    go_enter Try.func30, Try.ntmps30
    go_wp2_with (go_at_call 28; refine hn.mono ?_; rintro e w1 ⟨rfl, hb1⟩)
    go_ret
    exact ⟨rfl, HB0.out.trans (hb1.mono HB0.out.size)⟩
  | true =>
    go_enter Try.func30, Try.ntmps30
    go_wp2_with (first | (go_at_call 28; refine hn.mono ?_; rintro e w1 ⟨rfl, hb1⟩; have g1 : w1.cell? ⟨w.heap.size + 1, 1, none⟩ = some (.slice A r.right.length c) := (blk_cell (blk_below HBR.out hb1) 1).trans rfl) | (go_at_call 56; refine (all_int (p := fun s => g.sym s) (Kd.C_below HR.out hb1) hm ⟨_, _, rfl, fun _ _ => rfl, fun W x v hW hV => ?hcl⟩).mono ?_; (case hcl => obtain rfl : v = .int .i64 x := hV.1; have hb3 := hb1.trans (hW.mono hb1.size); exact known1 (blk_below HBK.out hb3) (H.out.below hb3) x); rintro e w2 ⟨rfl, hb2⟩))
    go_ret
    have hb3 := hb1.trans (hb2.mono hb1.size)
    exact ⟨rfl, HB0.out.trans (hb3.mono HB0.out.size)⟩
end
end Go.Proofs.Ytliofoikejdjeaa
