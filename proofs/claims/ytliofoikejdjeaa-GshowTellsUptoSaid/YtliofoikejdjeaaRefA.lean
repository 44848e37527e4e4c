/- The document's Check, Ordered, Name. -/
import Derived.Test.YtliofoikejdjeaaRef9
import Derived.Test.YtliofoikejdjeaaCheck2
namespace Go.Proofs.Ytliofoikejdjeaa
open Go.RowKit Go.Proofs.YtliofoikejdjeaaW.PrintWords
set_option linter.unusedVariables false
set_option linter.unusedSimpArgs false
theorem check_ref (g : Gm) : g.check = if manyB g then 7 else if !(g.terms.all termOk && g.nons.all plainOk) then 10 else if !decide g.names.Nodup then 8 else if !g.knownB then 1 else if !unlikeR g.rules then 8 else if g.lacks then 9 else 0 := by
  unfold Gm.check checkB manyB Gm.knownB
  generalize g.rules.all shortR = p1
  generalize g.terms.all termOk = p2
  generalize g.nons.all plainOk = p3
  generalize decide g.names.Nodup = p4
  generalize g.isNon g.start = p5
  generalize (g.rules.all fun r => g.knownR r) = p6
  generalize unlikeR g.rules = p7
  generalize g.lacks = p8
  by_cases b0 : 120 < g.terms.length
  · rw [if_pos (.inl b0), decide_eq_true b0]; simp
  by_cases b1 : 120 < g.nons.length
  · rw [if_pos (.inr (.inl b1)), decide_eq_true b1]; simp
  by_cases b2 : 300 < g.rules.length
  · rw [if_pos (.inr (.inr (.inl b2))), decide_eq_true b2]; simp
  rw [decide_eq_false b0, decide_eq_false b1, decide_eq_false b2]
  simp only [b0, b1, b2, false_or, Bool.or_false]
  cases p1 <;> cases p2 <;> cases p3 <;> cases p4 <;> cases p5 <;> cases p6 <;> cases p7 <;> cases p8 <;> rfl
set_option maxHeartbeats 4000000 in
theorem ref06_Check {w : World} {A0 A1 A2 : Option Addr} {c0 c1 c2 : Nat} {g : Gm} (h : GmAt w A0 A1 A2 c0 c1 c2 g) (hsz : ∀ s ∈ g.names, s.size ≤ 140737488351232) (ms : g.terms.length + g.nons.length ≤ 8796093022208) :
    Calls Try.prog 16 #[.agg (gv A0 A1 A2 c0 c1 c2 g)] w fun e w' => e = .returned (.int .i64 g.check) ∧ Below w.heap.size w w' := by
  have h0 := h.m0
  have h1 := h.m1
  have h2 := h.m2
  obtain ⟨W0, hW0⟩ : ∃ W0, W0 = w.alloc (.cells (gv A0 A1 A2 c0 c1 c2 g) 25) := ⟨_, rfl⟩
  have hb0 := below_alloc (Below.refl _ w) (.cells (gv A0 A1 A2 c0 c1 c2 g) 25)
  have hk0 := blk_new w (.cells (gv A0 A1 A2 c0 c1 c2 g) 25)
  rw [← hW0] at hb0 hk0
  have H := h.below hb0
  have GC : Aside0 (∀ W, Below W0.heap.size W0 W → _ ∧ _ ∧ _ ∧ _) := ⟨fun W hb => gcells (blk_below hk0 hb)⟩
  have K1 : Aside0 (∀ W, Below W0.heap.size W0 W → Calls Try.prog 40 #[.agg #[.slice A0 g.terms.length c0, .slice A1 g.nons.length c1, .slice A2 g.rules.length c2, .int .i64 g.start]] W fun e w' => e = .returned (.bool (manyB g)) ∧ Below W.heap.size W w') := ⟨fun W hb => ref06_many (H.below hb)⟩
  have K2 : Aside0 (∀ W, Below W0.heap.size W0 W → Calls Try.prog 41 #[.agg #[.slice A0 g.terms.length c0, .slice A1 g.nons.length c1, .slice A2 g.rules.length c2, .int .i64 g.start]] W fun e w' => e = .returned (.bool (g.terms.all termOk && g.nons.all plainOk)) ∧ Below W.heap.size W w') := ⟨fun W hb => ref06_form (H.below hb) hsz⟩
  have K3 : Aside0 (∀ W, Below W0.heap.size W0 W → Calls Try.prog 43 #[.agg #[.slice A0 g.terms.length c0, .slice A1 g.nons.length c1, .slice A2 g.rules.length c2, .int .i64 g.start]] W fun e w' => ∃ A c, e = .returned (.slice A g.names.length c) ∧ Below W.heap.size W w' ∧ Calls Try.prog 42 #[.slice A g.names.length c] w' fun e w'' => e = .returned (.bool (decide g.names.Nodup)) ∧ ∃ n, w'' = w'.drewN n) := ⟨fun W hb => (ref06_names (H.below hb) ms).mono fun e w' ⟨v, he, hv, hb⟩ => by
    obtain ⟨A, cap, rfl, hle, hC⟩ := Kd.R_reads hv
    exact ⟨A, cap, he, hb, ref06_once hC hle⟩⟩
  have K4 : Aside0 (∀ W, Below W0.heap.size W0 W → Calls Try.prog 44 #[.agg #[.slice A0 g.terms.length c0, .slice A1 g.nons.length c1, .slice A2 g.rules.length c2, .int .i64 g.start]] W fun e w' => e = .returned (.bool g.knownB) ∧ Below W.heap.size W w') := ⟨fun W hb => ref06_known (H.below hb)⟩
  have K5 : Aside0 (∀ W, Below W0.heap.size W0 W → Calls Try.prog 45 #[.agg #[.slice A0 g.terms.length c0, .slice A1 g.nons.length c1, .slice A2 g.rules.length c2, .int .i64 g.start]] W fun e w' => e = .returned (.bool (unlikeR g.rules)) ∧ Below W.heap.size W w') := ⟨fun W hb => ref06_unlike (H.below hb)⟩
  have K6 : Aside0 (∀ W (s : Int), Below W0.heap.size W0 W → Calls Try.prog 46 #[.agg #[.slice A0 g.terms.length c0, .slice A1 g.nons.length c1, .slice A2 g.rules.length c2, .int .i64 g.start], .int .i64 s] W fun e w' => ∃ A c, e = .returned (.slice A (g.ofS s).length c) ∧ Below W.heap.size W w') :=
    ⟨fun W s hb => (ref06_Of (H.below hb) s).mono fun e w' ⟨v, he, hv, hb⟩ => by
      obtain ⟨A, c, rfl⟩ := Kd.R_slice hv
      exact ⟨A, c, he, hb⟩⟩
  have LT : Aside0 (∀ k : Nat, k < g.nons.length → g.ofS ((g.terms.length : Int) + 1 + k) = [] → g.lacks = true) := ⟨fun k => lacks_true⟩
  have LF : Aside0 ((∀ k : Nat, k < g.nons.length → g.ofS ((g.terms.length : Int) + 1 + k) ≠ []) → g.lacks = false) := ⟨lacks_false⟩
  have HW := Aside0.mk hW0
  have HB := Aside0.mk (Below.refl W0.heap.size W0)
  have HB0 := Aside0.mk hb0
  have hlt0 := blk_lt hk0
  have HCH := Aside0.mk (check_ref g)
  generalize g.check = CH at *
  generalize manyB g = p1 at *
  generalize (g.terms.all termOk && g.nons.all plainOk) = p2 at *
  generalize decide g.names.Nodup = p3 at *
  generalize g.knownB = p4 at *
  generalize unlikeR g.rules = p5 at *
  generalize g.lacks = p6 at *
  clear h hsz hk0 hb0 H h2 ms
  unfold gv at *
  go_enter Try.func16, Try.ntmps16
  go_wp2_with fail
  rw [← HW.out]
  clear HW hW0
  refine (K1.out _ HB.out).mono ?_
  rintro e w1 ⟨rfl, hb1⟩
  have HB1 := Aside0.mk (HB.out.trans (hb1.mono HB.out.size))
  obtain ⟨f0, f1, f2, f3⟩ := GC.out w1 HB1.out
  clear HB hb1 K1
  cases p1 with
  | true =>
    go_wp2
    go_ret
    exact ⟨rint (by rw [HCH.out]; rfl), HB0.out.trans (HB1.out.mono HB0.out.size)⟩
  | false =>
  go_wp2_with fail
  refine (K2.out _ HB1.out).mono ?_
  rintro e w2 ⟨rfl, hb2⟩
  have HB2 := Aside0.mk (HB1.out.trans (hb2.mono HB1.out.size))
  clear f0 f1 f2 f3
  obtain ⟨f0, f1, f2, f3⟩ := GC.out w2 HB2.out
  clear HB1 hb2 K2
  cases p2 with
  | false =>
    go_wp2
    go_ret
    exact ⟨rint (by rw [HCH.out]; rfl), HB0.out.trans (HB2.out.mono HB0.out.size)⟩
  | true =>
  go_wp2_with fail
  refine (K3.out _ HB2.out).mono ?_
  rintro e w3 ⟨A, cap, rfl, hb3, ho⟩
  have HB3 := Aside0.mk (HB2.out.trans (hb3.mono HB2.out.size))
  clear f0 f1 f2 f3
  clear HB2 hb3 K3
  go_wp2_with fail
  refine ho.mono ?_
  rintro e w4 ⟨rfl, n, rfl⟩
  have HB4 := Aside0.mk (pw_below_drewN HB3.out n)
  clear HB3 ho
  generalize w3.drewN n = w4 at *
  obtain ⟨f0, f1, f2, f3⟩ := GC.out w4 HB4.out
  cases p3 with
  | false =>
    go_wp2
    go_ret
    exact ⟨rint (by rw [HCH.out]; rfl), HB0.out.trans (HB4.out.mono HB0.out.size)⟩
  | true =>
  go_wp2_with fail
  refine (K4.out _ HB4.out).mono ?_
  rintro e w5 ⟨rfl, hb5⟩
  have HB5 := Aside0.mk (HB4.out.trans (hb5.mono HB4.out.size))
  clear f0 f1 f2 f3
  obtain ⟨f0, f1, f2, f3⟩ := GC.out w5 HB5.out
  clear HB4 hb5 K4
  cases p4 with
  | false =>
    go_wp2
    go_ret
    exact ⟨rint (by rw [HCH.out]; rfl), HB0.out.trans (HB5.out.mono HB0.out.size)⟩
  | true =>
  go_wp2_with fail
  refine (K5.out _ HB5.out).mono ?_
  rintro e w6 ⟨rfl, hb6⟩
  have HB6 := Aside0.mk (HB5.out.trans (hb6.mono HB5.out.size))
  clear f0 f1 f2 f3
  obtain ⟨f0, f1, f2, f3⟩ := GC.out w6 HB6.out
  clear HB5 hb6 K5
  cases p5 with
  | false =>
    go_wp2
    go_ret
    exact ⟨rint (by rw [HCH.out]; rfl), HB0.out.trans (HB6.out.mono HB0.out.size)⟩
  | true =>
  go_wp2
  clear f0 f1 f2 f3 hlt0
  go_loopw [3] (fun i wr => ∃ k : Nat, k ≤ g.nons.length ∧ i = .int .i64 k ∧ Aside0 (Below W0.heap.size W0 wr) ∧ Aside0 (∀ i : Nat, i < k → g.ofS ((g.terms.length : Int) + 1 + i) ≠ [])) (fun i _ => g.nons.length - (intOf i).toNat)
  case atStart => exact ⟨0, Nat.zero_le _, rfl, HB6, ⟨fun j hj => absurd hj (Nat.not_lt_zero _)⟩⟩
  case round =>
    clear HB6
    obtain ⟨k, hk, rfl, HB, AF⟩ := hrel
    obtain ⟨f0, f1, f2, f3⟩ := GC.out _ HB.out
    by_cases hkl : k < g.nons.length
    · have hkz : (k : Int) < (g.nons.length : Int) := by omega
      have KO := Aside0.mk (K6.out wr ((g.terms.length : Int) + 1 + k) HB.out)
      obtain ⟨l, hl⟩ : ∃ l, g.ofS ((g.terms.length : Int) + 1 + k) = l := ⟨_, rfl⟩
      rw [hl] at KO
      have HL := Aside0.mk hl
      clear hl
      cases l with
      | nil =>
        go_wp2_with (go_at_call 46; refine KO.out.mono ?_; rintro e w7 ⟨A, c, rfl, hb7⟩)
        go_ret
        have h6 := HB.out.trans (hb7.mono HB.out.size)
        exact ⟨rint (by rw [HCH.out, LT.out k hkl HL.out]; rfl), HB0.out.trans (h6.mono HB0.out.size)⟩
      | cons x xs =>
        have hne : ((((x :: xs).length : Nat) : Int) == 0) = false := beq_false_of_ne (by simp; omega)
        go_wp2_with (go_at_call 46; refine KO.out.mono ?_; rintro e w7 ⟨A, c, rfl, hb7⟩)
        go_roundw
        case rel => exact ⟨k + 1, by omega, by go_num, ⟨HB.out.trans (hb7.mono HB.out.size)⟩, ⟨lt_snoc (α := Nat) AF.out (by rw [HL.out]; exact List.cons_ne_nil _ _)⟩⟩
        case measure => simp [intOf]; omega
    · have hkz : ¬ (k : Int) < (g.nons.length : Int) := by omega
      obtain rfl : k = g.nons.length := by omega
      go_wp2
      go_ret
      exact ⟨rint (by rw [HCH.out, LF.out AF.out]; rfl), HB0.out.trans (HB.out.mono HB0.out.size)⟩
end Go.Proofs.Ytliofoikejdjeaa
