/- fault.of, Code, At, Name. -/
import Derived.Test.YtnkmpinlijfocaaFmtE6
namespace Go.Proofs.YtnkmpinlijfocaaFmt
open Go.RowKit Go.Proofs.YtnkmpinlijfocaaFmtW.PrintWords Go.Extern.Stop Go.Stop Go.Extern
set_option linter.unusedVariables false
set_option linter.unusedSimpArgs false
theorem AsP_all {W : World} {v : Value} {E : Er} {tb : Nat} (h : ErAt W v E) (hg : GlobalAt W) (htb : W.heap[tb]? = some (.cells #[.pointer none] 45 (0, 0))) :
    Calls Tryf.prog 22 #[v, .iface 65 (.pointer (some ⟨tb, 0, none⟩))] W fun ev w' => ev = .returned (.bool E.pl.isSome) ∧ Below tb W w' ∧
      ∀ e a, E.pl = some (e, a) → ∃ b, w'.heap[tb]? = some (.cells #[.pointer (some ⟨b, 0, none⟩)] 45 (0, 0)) ∧ w'.heap[b]? = some (.cells #[.int .i64 e, .int .i64 a] 47 (0, 0)) :=
  As_P h hg htb _ fun W' a hb ha => (as_P (fl := 0) (h.below hb) (blk_below htb hb) a ha).mono fun ev w' ⟨he, hbl, hx⟩ => ⟨_, he, rfl, (hb.mono (Nat.le_of_lt (blk_lt htb))).trans hbl, hx⟩
theorem AsN_all {W : World} {v : Value} {E : Er} {tb : Nat} (h : ErAt W v E) (hg : GlobalAt W) (htb : W.heap[tb]? = some (.cells #[.pointer none] 48 (0, 0))) :
    Calls Tryf.prog 22 #[v, .iface 57 (.pointer (some ⟨tb, 0, none⟩))] W fun ev w' => ev = .returned (.bool E.nm.isSome) ∧ Below tb W w' ∧
      ∀ n, E.nm = some n → ∃ b u, w'.heap[tb]? = some (.cells #[.pointer (some ⟨b, 0, none⟩)] 48 (0, 0)) ∧ w'.heap[b]? = some (.cells #[.string n, u] 50 (0, 0)) :=
  As_N h hg htb _ fun W' a hb ha => (as_N (fl := 0) (h.below hb) (blk_below htb hb) a ha).mono fun ev w' ⟨he, hbl, hx⟩ => ⟨_, he, rfl, (hb.mono (Nat.le_of_lt (blk_lt htb))).trans hbl, hx⟩
theorem heap_put2 {w : World} {b : Nat} {p v : Value} {T : TypeId} (h : w.heap[b]? = some (.cells #[p, v] T (0, 0))) (i : Nat) (hi : i < 2) (x : Value) :
    (w.setCell ⟨b, i, none⟩ x).heap[b]? = some (.cells (#[p, v].set! i x) T (0, 0)) := by
  simp [World.setCell, Array.getElem?_modify, h]
def plOf (o : Option (Int × Int)) : Int × Int := o.getD (0, 0)
set_option maxHeartbeats 2000000 in
set_option maxRecDepth 100000 in
theorem fault_of {w : World} {v : Value} {E : Er} (h : ErAt w v E) (hg : GlobalAt w) :
    Calls Tryf.prog 21 #[v] w fun e w' => e = .returned (.tuple #[.agg #[.int .i64 (plOf E.pl).1, .int .i64 (plOf E.pl).2], .bool E.pl.isSome]) ∧ Below w.heap.size w w' := by
  obtain ⟨ty, eb, rfl⟩ := erAt_iface h
  go_enter Tryf.func21, Tryf.ntmps21
  go_wp2_with fail
  have hb0 := below_alloc (below_alloc (Below.refl w.heap.size w) (.cells #[.int .i64 0, .int .i64 0] 47)) (.cells #[.pointer none] 45)
  have hk0 := blk_alloc (blk_new w (.cells #[.int .i64 0, .int .i64 0] 47)) (.cells #[.pointer none] 45)
  have hk1 := blk_new (w.alloc (.cells #[.int .i64 0, .int .i64 0] 47)) (.cells #[.pointer none] 45)
  rw [show (w.alloc (.cells #[.int .i64 0, .int .i64 0] 47)).heap.size = w.heap.size + 1 from by simp] at hk1
  generalize (w.alloc (.cells #[.int .i64 0, .int .i64 0] 47)).alloc (.cells #[.pointer none] 45) = W0 at *
  have hgl : GlobalAt W0 := (hb0.cell (p := ⟨0, 0, none⟩) (World.block_lt_of_cell? _ _ hg)).trans hg
  refine (AsP_all (h.below hb0) hgl hk1).mono ?_
  rintro ev w2 ⟨rfl, hb2, hx⟩
  have hrb : w2.heap[w.heap.size]? = some (.cells #[.int .i64 0, .int .i64 0] 47 (0, 0)) := by
    rw [hb2.block _ (Nat.lt_succ_self _)]
    exact hk0
  have g0 := blk_cell hrb 0
  have g1 := blk_cell hrb 1
  have hf0 : w2.frozen? ⟨w.heap.size, 0, none⟩ = false := by simp [World.frozen?, hrb]
  have hf1 : w2.frozen? ⟨w.heap.size, 1, none⟩ = false := by simp [World.frozen?, hrb]
  have HB := Aside0.mk (hb0.trans (hb2.mono (Nat.le_succ _)))
  have HRB := Aside0.mk hrb
  clear hb0 hk0 hk1 hgl h hb2 hrb hg
  cases hpl : E.pl with
  | none =>
    clear hx
    go_wp2
    have hr2 := heap_put2 (heap_put2 HRB.out 0 (by omega) (.int .i64 0)) 1 (by omega) (.int .i64 0)
    exact bodyPost_ret (results_ct (fn := Tryf.f21) rfl _ _ w.heap.size 47 _ (0, 0) _ rfl hr2 Tryf.underlying47 rfl (by kernel_rfl)) rfl ⟨by rw [hpl]; rfl, (HB.out.setCell (p := ⟨w.heap.size, 0, none⟩) (Nat.le_refl _) _).setCell (p := ⟨w.heap.size, 1, none⟩) (Nat.le_refl _) _⟩
  | some p =>
    obtain ⟨e, a⟩ := p
    obtain ⟨b, hx1, hx2⟩ := hx e a hpl
    have y0 := blk_cell hx1 0
    have y1 := blk_cell hx2 0
    have y2 := blk_cell hx2 1
    clear hx hx1 hx2
    go_wp2
    have hr2 := heap_put2 (heap_put2 HRB.out 0 (by omega) (.int .i64 e)) 1 (by omega) (.int .i64 a)
    exact bodyPost_ret (results_ct (fn := Tryf.f21) rfl _ _ w.heap.size 47 _ (0, 0) _ rfl hr2 Tryf.underlying47 rfl (by kernel_rfl)) rfl ⟨by rw [hpl]; rfl, (HB.out.setCell (p := ⟨w.heap.size, 0, none⟩) (Nat.le_refl _) _).setCell (p := ⟨w.heap.size, 1, none⟩) (Nat.le_refl _) _⟩
end Go.Proofs.YtnkmpinlijfocaaFmt
