/- gram.Of, the document's Of. -/
import Derived.Test.YtliofoikejdjeaaGram3
namespace Go.Proofs.Ytliofoikejdjeaa
open Go.RowKit Go.Proofs.YtliofoikejdjeaaW.PrintWords
set_option linter.unusedVariables false
set_option linter.unusedSimpArgs false
/-- The rules of a left side, of the first n. -/
def ofN (rs : List Rl) (s : Int) (n : Nat) : List Int := ((List.range n).filter fun i => decide ((rs.getD i default).left = s)).map (fun (i : Nat) => (i : Int))
theorem ofN_succ (rs : List Rl) (s : Int) (n : Nat) : ofN rs s (n + 1) = ofN rs s n ++ if (rs.getD n default).left = s then [(n : Int)] else [] := by
  unfold ofN
  rw [List.range_succ, List.filter_append, List.map_append]
  congr 1
  rw [List.filter_cons, List.filter_nil]
  by_cases h : (rs.getD n default).left = s
  · rw [if_pos h, decide_eq_true h]; rfl
  · rw [if_neg h, decide_eq_false h]; rfl
theorem ofN_len (rs : List Rl) (s : Int) (n : Nat) : (ofN rs s n).length ≤ n := by
  unfold ofN
  rw [List.length_map]
  exact Nat.le_trans (List.length_filter_le _ _) (Nat.le_of_eq List.length_range)
def Gm.ofS (g : Gm) (s : Int) : List Int := ofN g.rules s g.rules.length
set_option maxHeartbeats 2000000 in
theorem gram_Of {w : World} {A0 A1 A2 : Option Addr} {c0 c1 c2 : Nat} {g : Gm} (h : GmAt w A0 A1 A2 c0 c1 c2 g) (s : Int) :
    Calls Try.prog 34 #[.agg (gv A0 A1 A2 c0 c1 c2 g), .int .i64 s] w fun e w' => ∃ v, e = .returned v ∧ Kd.R (Kd.int .i64) 3 w' w.heap.size (fun _ => True) v (g.ofS s) ∧ Below w.heap.size w w' := by
  have h2 := h.m2
  have HR := Aside0.mk h.rules
  clear h
  unfold gv
  go_enter Try.func34, Try.ntmps34
  go_wp2
  have HB0 := Aside0.mk (below_alloc (Below.refl _ w) (.cells #[.slice A0 g.terms.length c0, .slice A1 g.nons.length c1, .slice A2 g.rules.length c2, .int .i64 g.start] 25))
  generalize w.alloc (.cells #[.slice A0 g.terms.length c0, .slice A1 g.nons.length c1, .slice A2 g.rules.length c2, .int .i64 g.start] 25) = W0 at *
  go_loopw [5, 6, 7, 11] (fun v5 _ _ i wr => ∃ k : Nat, k ≤ g.rules.length ∧ i = .int .i64 k ∧ Aside0 (Kd.R (Kd.int .i64) 3 wr w.heap.size (fun _ => True) v5 (ofN g.rules s k)) ∧ Aside0 (Below w.heap.size w wr)) (fun _ _ _ i _ => g.rules.length - (intOf i).toNat)
  case atStart => exact ⟨0, Nat.zero_le _, rfl, ⟨Kd.R_nil _ _ _ _ _⟩, HB0⟩
  case round =>
    clear HB0
    obtain ⟨k, hk, rfl, HO, HB⟩ := hrel
    by_cases hkl : k < g.rules.length
    · have hkz : (k : Int) < (g.rules.length : Int) := by omega
      have hsu := ofN_succ g.rules s k
      have hln := ofN_len g.rules s k
      obtain ⟨ad, A1, c1, rfl, k1, k2, k3, k4⟩ := at_rl (Kd.C_below HR.out HB.out) k hkl
      obtain ⟨y, hy⟩ : ∃ y, g.rules.getD k default = y := ⟨_, rfl⟩
      rw [hy] at k1 k2 hsu
      clear hy k3 k4
      have HSU := Aside0.mk hsu
      clear hsu
      by_cases hq : y.left = s
      · have HQ := Aside0.mk hq
        have hq' : (y.left == s) = true := by simpa using hq
        clear hq
        go_wp2_with (first | (at_builtin; go_loud (refine Kd.R_append (Kd.int .i64) (w0 := w) w.heap.size rfl (.tmp 20) (.tmp 22) 26 3 (.int .i64 0) 8 rfl Try.underlying26 info3 rfl (by decide) (by omega) u5 (ofN g.rules s k) k [.int .i64 k] (fun _ => True) (fun _ => False) rfl ?aX ?aP (fun _ hk => hk.elim) ?aF ?aO ?aB ?aS ?aL ?_); (case aX => simp [Act.eval]); (case aP => exact rfl); (case aF => exact (fun _ _ => trivial)); (case aO => exact Kd.R_alloc HO.out _); (case aB => exact below_alloc HB.out _); (case aS => exact (below_alloc HB.out _).size); (case aL => omega); intro v1 w1 ho hb hg hat))
        go_roundw
        case rel =>
          refine ⟨k + 1, by omega, by go_num, ⟨?_⟩, ⟨hb⟩⟩
          rw [HSU.out, if_pos HQ.out]
          exact ho
        case measure => simp [intOf]; omega
      · have HQ := Aside0.mk hq
        have hq' : (y.left == s) = false := by simpa using hq
        clear hq
        go_wp2
        go_roundw
        case rel =>
          refine ⟨k + 1, by omega, by go_num, ⟨?_⟩, ⟨below_alloc HB.out _⟩⟩
          rw [HSU.out, if_neg HQ.out, List.append_nil]
          exact Kd.R_alloc HO.out _
        case measure => simp [intOf]; omega
    · have hkz : ¬ (k : Int) < (g.rules.length : Int) := by omega
      obtain rfl : k = g.rules.length := by omega
      go_wp2
      go_ret
      exact ⟨_, rfl, HO.out, HB.out⟩
set_option maxHeartbeats 2000000 in
theorem ref06_Of {w : World} {A0 A1 A2 : Option Addr} {c0 c1 c2 : Nat} {g : Gm} (h : GmAt w A0 A1 A2 c0 c1 c2 g) (s : Int) :
    Calls Try.prog 46 #[.agg (gv A0 A1 A2 c0 c1 c2 g), .int .i64 s] w fun e w' => ∃ v, e = .returned v ∧ Kd.R (Kd.int .i64) 3 w' w.heap.size (fun _ => True) v (g.ofS s) ∧ Below w.heap.size w w' := by
  have h2 := h.m2
  have HR := Aside0.mk h.rules
  clear h
  unfold gv
  go_enter Try.func46, Try.ntmps46
  go_wp2
  have HB0 := Aside0.mk (below_alloc (Below.refl _ w) (.cells #[.slice A0 g.terms.length c0, .slice A1 g.nons.length c1, .slice A2 g.rules.length c2, .int .i64 g.start] 25))
  have K0 := Aside0.mk (blk_new w (.cells #[.slice A0 g.terms.length c0, .slice A1 g.nons.length c1, .slice A2 g.rules.length c2, .int .i64 g.start] 25))
  generalize w.alloc (.cells #[.slice A0 g.terms.length c0, .slice A1 g.nons.length c1, .slice A2 g.rules.length c2, .int .i64 g.start] 25) = W0 at *
  go_loopw [5, 6] (fun v5 i wr => ∃ k : Nat, k ≤ g.rules.length ∧ i = .int .i64 k ∧ Aside0 (Kd.R (Kd.int .i64) 3 wr w.heap.size (fun _ => True) v5 (ofN g.rules s k)) ∧ Aside0 (Below w.heap.size w wr) ∧ Aside0 (wr.heap[w.heap.size]? = some (.cells #[.slice A0 g.terms.length c0, .slice A1 g.nons.length c1, .slice A2 g.rules.length c2, .int .i64 g.start] 25 (0, 0)))) (fun _ i _ => g.rules.length - (intOf i).toNat)
  case atStart => exact ⟨0, Nat.zero_le _, rfl, ⟨Kd.R_nil _ _ _ _ _⟩, HB0, K0⟩
  case round =>
    clear HB0 K0
    obtain ⟨k, hk, rfl, HO, HB, K0⟩ := hrel
    have f2 := (blk_cell K0.out 2).trans rfl
    have hbl := blk_lt K0.out
    by_cases hkl : k < g.rules.length
    · have hkz : (k : Int) < (g.rules.length : Int) := by omega
      have hsu := ofN_succ g.rules s k
      have hln := ofN_len g.rules s k
      obtain ⟨ad, A1, c1, rfl, k1, k2, k3, k4⟩ := at_rl (Kd.C_below HR.out HB.out) k hkl
      obtain ⟨y, hy⟩ : ∃ y, g.rules.getD k default = y := ⟨_, rfl⟩
      rw [hy] at k1 k2 hsu
      clear hy k3 k4
      have HSU := Aside0.mk hsu
      clear hsu
      by_cases hq : y.left = s
      · have HQ := Aside0.mk hq
        have hq' : (y.left == s) = true := by simpa using hq
        clear hq
        go_wp2_with (first | (at_builtin; go_loud (refine Kd.R_append (Kd.int .i64) (w0 := w) w.heap.size rfl (.tmp 22) (.tmp 24) 26 3 (.int .i64 0) 8 rfl Try.underlying26 info3 rfl (by decide) (by omega) u5 (ofN g.rules s k) k [.int .i64 k] (fun _ => True) (fun _ => False) rfl ?aX ?aP (fun _ hk => hk.elim) ?aF ?aO ?aB ?aS ?aL ?_); (case aX => simp [Act.eval]); (case aP => exact rfl); (case aF => exact (fun _ _ => trivial)); (case aO => exact HO.out); (case aB => exact HB.out); (case aS => exact HB.out.size); (case aL => omega); intro v1 w1 ho hb hg hat))
        go_roundw
        case rel =>
          refine ⟨k + 1, by omega, by go_num, ⟨?_⟩, ⟨hb⟩, ⟨blk_grown K0.out hg (Kd.R_ne HO.out K0.out (by decide))⟩⟩
          rw [HSU.out, if_pos HQ.out]
          exact ho
        case measure => simp [intOf]; omega
      · have HQ := Aside0.mk hq
        have hq' : (y.left == s) = false := by simpa using hq
        clear hq
        go_wp2
        go_roundw
        case rel =>
          refine ⟨k + 1, by omega, by go_num, ⟨?_⟩, HB, K0⟩
          rw [HSU.out, if_neg HQ.out, List.append_nil]
          exact HO.out
        case measure => simp [intOf]; omega
    · have hkz : ¬ (k : Int) < (g.rules.length : Int) := by omega
      obtain rfl : k = g.rules.length := by omega
      go_wp2
      go_ret
      exact ⟨_, rfl, HO.out, HB.out⟩
end Go.Proofs.Ytliofoikejdjeaa
