/- gram.Ordered. -/
import Derived.Test.YtliofoikejdjeaaCheck
namespace Go.Proofs.Ytliofoikejdjeaa
open Go.RowKit Go.Proofs.YtliofoikejdjeaaW.PrintWords
set_option linter.unusedVariables false
set_option linter.unusedSimpArgs false
theorem less_int (x y : Int) (w : World) : Calls Try.prog 60 #[.int .i64 x, .int .i64 y] w fun e w' => e = .returned (.bool (decide (x < y))) ∧ ∃ n, w' = w.drewN n := by
  have hn : ∀ W, Calls Try.prog 80 #[.int .i64 x] W fun e w' => e = .returned (.bool false) ∧ W = w' := by
    intro W
    go_enter Try.func80, Try.ntmps80
    go_wp2
    go_ret
    exact ⟨rbool (by simp), rfl⟩
  go_enter Try.func60, Try.ntmps60
  go_wp2_with (go_at_call 80; refine (hn _).mono ?_; rintro e w' ⟨rfl, rfl⟩)
  go_ret
  exact ⟨rbool (by simp), 0, rfl⟩
theorem drewN_two {w w1 w2 : World} (h : ∃ n, w1 = w.drewN n) (k : ∃ n, w2 = w1.drewN n) : ∃ n, w2 = w.drewN n := by
  obtain ⟨n, rfl⟩ := h
  obtain ⟨m, rfl⟩ := k
  exact ⟨_, World.drewN_drewN ..⟩
def sortedB (xs : List Int) : Bool := decide (∀ i, i < xs.length - 1 → xs.getD i default ≤ xs.getD (i + 1) default)
set_option maxHeartbeats 1000000 in
theorem isSorted_int {w : World} {A : Option Addr} {c : Nat} {xs : List Int} (hx : Kd.C (Kd.int .i64) w A xs.length xs) :
    Calls Try.prog 37 #[.slice A xs.length c] w fun e w' => e = .returned (.bool (sortedB xs)) ∧ ∃ n, w' = w.drewN n := by
  have hm := Kd.C_max hx
  have HX := Aside0.mk hx
  clear hx
  go_enter Try.func37, Try.ntmps37
  go_wp2
  go_loopw [3] (fun i wr => ∃ k : Nat, k ≤ xs.length ∧ i = .int .i64 ((k : Int) - 1) ∧ Aside0 (∃ n, wr = w.drewN n) ∧ Aside0 (∀ i, k ≤ i + 1 → i + 1 < xs.length → xs.getD i default ≤ xs.getD (i + 1) default)) (fun i _ => (intOf i).toNat)
  case atStart => exact ⟨xs.length, Nat.le_refl _, rfl, ⟨0, rfl⟩, ⟨fun i h1 h2 => by omega⟩⟩
  case round =>
    obtain ⟨k, hk, rfl, HW, AF⟩ := hrel
    have HX : Aside0 (Kd.C (Kd.int .i64) wr A xs.length xs) := ⟨by
      obtain ⟨n, hn⟩ := HW.out
      rw [hn]
      exact Kd.C_drewN HX.out n⟩
    by_cases h1 : 2 ≤ k
    · obtain ⟨m, rfl⟩ : ∃ m, k = m + 2 := ⟨k - 2, by omega⟩
      have hz : (0 : Int) < ((m + 2 : Nat) : Int) - 1 := by omega
      have e1 : ((m + 2 : Nat) : Int) - 1 = (m : Int) + 1 := by omega
      rw [e1] at hz ⊢
      clear e1
      obtain ⟨ad, rfl, l2⟩ := at_int HX.out (m + 1) (by omega)
      obtain ⟨bd, e2, l3⟩ := at_int HX.out m (by omega)
      obtain rfl : ad = bd := by injection e2
      clear e2
      obtain ⟨u, hu⟩ : ∃ u, xs.getD (m + 1) default = u := ⟨_, rfl⟩
      obtain ⟨v, hv⟩ : ∃ v, xs.getD m default = v := ⟨_, rfl⟩
      rw [hu] at l2
      rw [hv] at l3
      have l4 : wr.cell? ⟨ad.block, ad.off + (m + 1), none⟩ = some (.int .i64 u) := by
        rw [← l2]
        unfold Addr.add
        rw [if_neg (by omega)]
      have HU := Aside0.mk hu
      have HV := Aside0.mk hv
      clear hu hv
      have hl := fun W => less_int u v W
      have i1 : (m : Int) + 1 < (xs.length : Int) := by omega
      by_cases huv : u < v
      · have HN := Aside0.mk huv
        have hl2 : ∀ W, Calls Try.prog 60 #[.int .i64 u, .int .i64 v] W fun e w' => e = .returned (.bool true) ∧ ∃ n, w' = W.drewN n := fun W => by
          have := hl W
          rwa [decide_eq_true HN.out] at this
        clear hl huv
        obtain ⟨q, hq⟩ : ∃ q : Int, q = (m : Int) + 1 := ⟨_, rfl⟩
        have hA : 0 ≤ q := by omega
        have hI : (m : Int) < (xs.length : Int) := by omega
        have hT : q.toNat = m + 1 := by omega
        have hS : IntKind.i64.wrap (q - 1) = (m : Int) := by rw [show q - 1 = (m : Int) from by omega]; exact IntWalk.i64_in _ (by omega)
        rw [← hq] at i1 hz ⊢
        have HQ := Aside0.mk hq
        clear hq
        go_wp2
        go_quiet ((go_at_call 60; exact Calls.quiet_of (hl2 _)))
        clear hT hS
        go_wp2
        go_ret
        refine ⟨rbool ?_, drewN_two HW.out ⟨_, rfl⟩⟩
        unfold sortedB
        exact (decide_eq_false fun h => by have := h m (by omega); rw [HU.out, HV.out] at this; have := HN.out; omega).symm
      · have HN := Aside0.mk huv
        have hl2 : ∀ W, Calls Try.prog 60 #[.int .i64 u, .int .i64 v] W fun e w' => e = .returned (.bool false) ∧ ∃ n, w' = W.drewN n := fun W => by
          have := hl W
          rwa [decide_eq_false HN.out] at this
        clear hl huv
        obtain ⟨q, hq⟩ : ∃ q : Int, q = (m : Int) + 1 := ⟨_, rfl⟩
        have hA : 0 ≤ q := by omega
        have hI : (m : Int) < (xs.length : Int) := by omega
        have hT : q.toNat = m + 1 := by omega
        have hS : IntKind.i64.wrap (q - 1) = (m : Int) := by rw [show q - 1 = (m : Int) from by omega]; exact IntWalk.i64_in _ (by omega)
        rw [← hq] at i1 hz ⊢
        have HQ := Aside0.mk hq
        clear hq
        go_wp2
        go_quiet ((go_at_call 60; exact Calls.quiet_of (hl2 _)))
        clear hT hS
        go_wp2
        go_roundw
        case rel =>
          refine ⟨m + 1, by omega, by (have e5 : q - 1 = ((m + 1 : Nat) : Int) - 1 := by (have := HQ.out; omega)); rw [e5], ⟨drewN_two HW.out ⟨_, rfl⟩⟩, ⟨fun i h1 h2 => ?_⟩⟩
          by_cases e : i = m
          · subst e
            rw [HU.out, HV.out]
            have := HN.out
            omega
          · exact AF.out i (by omega) h2
        case measure => have := HQ.out; simp [intOf]; omega
    · have hz : ¬ (0 : Int) < (k : Int) - 1 := by omega
      go_wp2
      go_ret
      refine ⟨rbool ?_, HW.out⟩
      unfold sortedB
      exact (decide_eq_true fun i h => AF.out i (by omega) (by omega)).symm
/-- Where a nonterminal's first rule stands; behind all, if there is none. -/
def Gm.firstAt (g : Gm) (s : Int) : Int := if idxF (fun r : Rl => decide (r.left = s)) g.rules < 0 then g.rules.length else idxF (fun r : Rl => decide (r.left = s)) g.rules
def Gm.firsts (g : Gm) (n : Nat) : List Int := (List.range n).map fun (i : Nat) => g.firstAt ((g.terms.length : Int) + 1 + (i : Int))
theorem firsts_succ (g : Gm) (n : Nat) : g.firsts (n + 1) = g.firsts n ++ [g.firstAt ((g.terms.length : Int) + 1 + (n : Int))] := by
  unfold Gm.firsts
  rw [List.range_succ, List.map_append]
  rfl
theorem firsts_len (g : Gm) (n : Nat) : (g.firsts n).length = n := by simp [Gm.firsts]
def Gm.ordered (g : Gm) : Bool := sortedB (g.firsts g.nons.length)
theorem ordered1 {W : World} {b : Nat} {s : Int} (x : Rl) (v : Value) (hv : Vrl W x v) (hb : W.cell? ⟨b, 0, none⟩ = some (.int .i64 s)) (hlt : b < W.heap.size) :
    Calls Try.prog 36 #[v, .pointer (some ⟨b, 0, none⟩)] W fun e w' => e = .returned (.bool (decide (x.left = s))) ∧ Below W.heap.size W w' := by
  obtain ⟨A, c, rfl, hl, hC⟩ := hv
  clear hC
  go_enter Try.func36, Try.ntmps36
  go_wp2
  go_ret
  exact ⟨rbool (by rw [Bool.eq_iff_iff]; simp), below_alloc (Below.refl _ _) _⟩
set_option maxHeartbeats 2000000 in
theorem gram_Ordered {w : World} {A0 A1 A2 : Option Addr} {c0 c1 c2 : Nat} {g : Gm} (h : GmAt w A0 A1 A2 c0 c1 c2 g) :
    Calls Try.prog 11 #[.agg (gv A0 A1 A2 c0 c1 c2 g)] w fun e w' => e = .returned (.bool g.ordered) ∧ Below w.heap.size w w' := by
  have h0 := h.m0
  have h1 := h.m1
  have h2 := h.m2
  obtain ⟨W0, hW0⟩ : ∃ W0, W0 = w.alloc (.cells (gv A0 A1 A2 c0 c1 c2 g) 25) := ⟨_, rfl⟩
  have hb0 := below_alloc (Below.refl _ w) (.cells (gv A0 A1 A2 c0 c1 c2 g) 25)
  have hk0 := blk_new w (.cells (gv A0 A1 A2 c0 c1 c2 g) 25)
  rw [← hW0] at hb0 hk0
  have H := Aside0.mk h
  have HB0 := Aside0.mk hb0
  have HK0 := Aside0.mk hk0
  have HW := Aside0.mk hW0
  clear h hb0 hk0 hW0
  unfold gv at *
  go_enter Try.func11, Try.ntmps11
  go_wp2
  rw [← HW.out]
  go_loopw [3, 4, 5, 6, 10] (fun v3 _ _ _ i wr => ∃ k : Nat, k ≤ g.nons.length ∧ i = .int .i64 k ∧ Aside0 (Below w.heap.size w wr) ∧ Aside0 (wr.heap[w.heap.size]? = some (.cells #[.slice A0 g.terms.length c0, .slice A1 g.nons.length c1, .slice A2 g.rules.length c2, .int .i64 g.start] 25 (0, 0))) ∧ Aside0 (Kd.R (Kd.int .i64) 3 wr w.heap.size (fun _ => True) v3 (g.firsts k))) (fun _ _ _ _ i _ => g.nons.length - (intOf i).toNat)
  case atStart => exact ⟨0, Nat.zero_le _, rfl, HB0, HK0, ⟨Kd.R_nil _ _ _ _ _⟩⟩
  case round =>
    clear HB0 HK0
    obtain ⟨k, hk, rfl, HB, HK, HO⟩ := hrel
    obtain ⟨f0, f1, f2, f3⟩ := gcells HK.out
    have hlt := blk_lt HK.out
    by_cases hkl : k < g.nons.length
    · have hkz : (k : Int) < (g.nons.length : Int) := by omega
      have HS := Aside0.mk (firsts_succ g k)
      have hln := firsts_len g k
      have hP : ∀ s : Int, PredV (wr.alloc (.cells #[.int .i64 s] 3)) (.func (.func 36) #[] #[.pointer (some ⟨wr.heap.size, 0, none⟩)]) (fun W x v => Vrl W x v ∧ x ∈ g.rules) (fun r => decide (r.left = s)) := by
        intro s
        refine ⟨_, _, rfl, fun _ _ => rfl, fun W x v hW hV => ?_⟩
        have hlt2 : wr.heap.size < W.heap.size := by have := hW.size; simp at this; omega
        exact ordered1 x v hV.1 ((hW.cell (p := ⟨wr.heap.size, 0, none⟩) (by simp)).trans (by simp)) hlt2
      have hw1 := below_alloc (Below.refl _ wr) (.cells #[.int .i64 ((g.terms.length : Int) + 1 + (k : Int))] 3)
      have hix := idx_rl (c := c2) (Kd.C_below H.out.rules (HB.out.trans (hw1.mono HB.out.size))) (by omega) (hP ((g.terms.length : Int) + 1 + (k : Int)))
      have HF : Aside0 (g.firstAt ((g.terms.length : Int) + 1 + (k : Int)) = if idxF (fun r : Rl => decide (r.left = (g.terms.length : Int) + 1 + (k : Int))) g.rules < 0 then (g.rules.length : Int) else idxF (fun r : Rl => decide (r.left = (g.terms.length : Int) + 1 + (k : Int))) g.rules) := ⟨rfl⟩
      have HW1 := Aside0.mk hw1
      clear hP hw1
      generalize idxF (fun r : Rl => decide (r.left = (g.terms.length : Int) + 1 + (k : Int))) g.rules = ix at *
      go_wp2_with (first | (go_at_call 35; refine hix.mono ?_; rintro e w2 ⟨rfl, hb2⟩; have HB2 := Aside0.mk (HB.out.trans ((HW1.out.trans (hb2.mono HW1.out.size)).mono HB.out.size)); have HK2 := Aside0.mk (blk_below HK.out (HW1.out.trans (hb2.mono HW1.out.size))); have HO2 := Aside0.mk (Kd.R_below HO.out (HW1.out.trans (hb2.mono HW1.out.size))); clear hb2 f0 f1 f2 f3; (obtain ⟨f0, f1, f2, f3⟩ := gcells HK2.out)) | (at_builtin; go_loud (refine Kd.R_append (Kd.int .i64) (w0 := w) w.heap.size rfl (.tmp 28) (.tmp 30) 26 3 (.int .i64 0) 8 rfl Try.underlying26 info3 rfl (by decide) (by omega) u3 (g.firsts k) _ [.int .i64 _] (fun _ => True) (fun _ => False) rfl rfl rfl (fun _ hk => hk.elim) (fun _ _ => trivial) HO2.out HB2.out HB2.out.size (by rw [hln]; omega) ?_); intro v1 w3 ho hb hg hat))
      all_goals
        go_roundw
        case rel =>
          refine ⟨k + 1, by omega, by go_num, ⟨hb⟩, ⟨blk_grown HK2.out hg (Kd.R_ne HO2.out HK2.out (by decide))⟩, ⟨?_⟩⟩
          rw [HS.out, HF.out]
          first | rw [if_pos (by omega)] | rw [if_neg (by omega)]
          exact ho
        case measure => simp [intOf]; omega
    · have hkz : ¬ (k : Int) < (g.nons.length : Int) := by omega
      obtain rfl : k = g.nons.length := by omega
      obtain ⟨A, cap, rfl, hle, hC⟩ := Kd.R_reads HO.out
      have hs := isSorted_int (c := cap) hC
      clear hC HO
      go_wp2_with (go_at_call 37; refine hs.mono ?_; rintro e w2 ⟨rfl, n, rfl⟩)
      go_ret
      exact ⟨rfl, pw_below_drewN HB.out _⟩
end Go.Proofs.Ytliofoikejdjeaa
