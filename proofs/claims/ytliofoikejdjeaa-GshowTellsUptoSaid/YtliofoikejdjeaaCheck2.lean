/- gram.Check: the walk. -/
import Derived.Test.YtliofoikejdjeaaCheck
namespace Go.Proofs.Ytliofoikejdjeaa
open Go.RowKit Go.Proofs.YtliofoikejdjeaaW.PrintWords
set_option linter.unusedVariables false
set_option linter.unusedSimpArgs false
theorem lacks_true {g : Gm} {k : Nat} (hk : k < g.nons.length) (h : g.ofS ((g.terms.length : Int) + 1 + k) = []) : g.lacks = true := decide_eq_true ⟨k, hk, h⟩
theorem lacks_false {g : Gm} (h : ∀ k : Nat, k < g.nons.length → g.ofS ((g.terms.length : Int) + 1 + k) ≠ []) : g.lacks = false := decide_eq_false fun ⟨k, hk, e⟩ => h k hk e
set_option maxHeartbeats 8000000 in
theorem gram_Check {w : World} {A0 A1 A2 : Option Addr} {c0 c1 c2 : Nat} {g : Gm} (h : GmAt w A0 A1 A2 c0 c1 c2 g) (hsz : ∀ s ∈ g.names, s.size ≤ 140737488351232) :
    Calls Try.prog 10 #[.agg (gv A0 A1 A2 c0 c1 c2 g)] w fun e w' => e = .returned (.int .i64 g.check) ∧ Below w.heap.size w w' := by
  have h0 := h.m0
  have h1 := h.m1
  have h2 := h.m2
  by_cases b0 : 120 < g.terms.length
  · have hr : g.check = 7 := by unfold Gm.check checkB; rw [if_pos (.inl b0)]
    rw [hr]
    clear hr h hsz
    unfold gv
    go_enter Try.func10, Try.ntmps10
    go_wp2
    go_ret
    exact ⟨rfl, below_alloc (Below.refl _ _) _⟩
  by_cases b1 : 120 < g.nons.length
  · have hr : g.check = 7 := by unfold Gm.check checkB; rw [if_pos (.inr (.inl b1))]
    rw [hr]
    clear hr h hsz
    unfold gv
    go_enter Try.func10, Try.ntmps10
    go_wp2
    go_ret
    exact ⟨rfl, below_alloc (Below.refl _ _) _⟩
  by_cases b2 : 300 < g.rules.length
  · have hr : g.check = 7 := by unfold Gm.check checkB; rw [if_pos (.inr (.inr (.inl b2)))]
    rw [hr]
    clear hr h hsz
    unfold gv
    go_enter Try.func10, Try.ntmps10
    go_wp2
    go_ret
    exact ⟨rfl, below_alloc (Below.refl _ _) _⟩
  obtain ⟨W0, hW0⟩ : ∃ W0, W0 = w.alloc (.cells (gv A0 A1 A2 c0 c1 c2 g) 25) := ⟨_, rfl⟩
  have hb0 := below_alloc (Below.refl _ w) (.cells (gv A0 A1 A2 c0 c1 c2 g) 25)
  have hk0 := blk_new w (.cells (gv A0 A1 A2 c0 c1 c2 g) 25)
  rw [← hW0] at hb0 hk0
  have H := h.below hb0
  have hlt := blk_lt hk0
  have GC : Aside0 (∀ W, Below W0.heap.size W0 W → _ ∧ _ ∧ _ ∧ _) := ⟨fun W hb => gcells (blk_below hk0 hb)⟩
  have K1 : Aside0 (∀ W, Below W0.heap.size W0 W → Calls Try.prog 22 #[.slice A2 g.rules.length c2, .func (.func 21) #[] #[]] W fun e w' => e = .returned (.bool (g.rules.all shortR)) ∧ Below W.heap.size W w') :=
    ⟨fun W hb => all_rl (Kd.C_below H.rules hb) (by omega) ⟨_, _, rfl, fun _ _ => rfl, fun W' x v hW hV => check1 W' x v hV.1⟩⟩
  have K2 : Aside0 (∀ W, Below W0.heap.size W0 W → Calls Try.prog 23 #[.slice A0 g.terms.length c0, .func (.func 24) #[] #[]] W fun e w' => e = .returned (.bool (g.terms.all termOk)) ∧ Below W.heap.size W w') :=
    ⟨fun W hb => all_str (Kd.C_below H.terms hb) (by omega) ⟨_, _, rfl, fun _ _ => rfl, fun W' x v hW hV => by
      obtain rfl : v = .string x := hV.1
      exact check2 W' x (hsz x (List.mem_append_left _ hV.2))⟩⟩
  have K3 : Aside0 (∀ W, Below W0.heap.size W0 W → Calls Try.prog 23 #[.slice A1 g.nons.length c1, .func (.func 25) #[] #[]] W fun e w' => e = .returned (.bool (g.nons.all plainOk)) ∧ Below W.heap.size W w') :=
    ⟨fun W hb => all_str (Kd.C_below H.nons hb) (by omega) ⟨_, _, rfl, fun _ _ => rfl, fun W' x v hW hV => by
      obtain rfl : v = .string x := hV.1
      exact gram_plain x (hsz x (List.mem_append_right _ hV.2)) W'⟩⟩
  have K4 : Aside0 (∀ W, Below W0.heap.size W0 W → Calls Try.prog 27 #[.agg #[.slice A0 g.terms.length c0, .slice A1 g.nons.length c1, .slice A2 g.rules.length c2, .int .i64 g.start]] W fun e w' => e = .returned (.bool (decide g.names.Nodup)) ∧ Below W.heap.size W w') :=
    ⟨fun W hb => gram_once (H.below hb) (by omega) (by omega) hsz⟩
  have K5 : Aside0 (∀ W, Below W0.heap.size W0 W → Calls Try.prog 28 #[.agg #[.slice A0 g.terms.length c0, .slice A1 g.nons.length c1, .slice A2 g.rules.length c2, .int .i64 g.start], .int .i64 g.start] W fun e w' => e = .returned (.bool (g.isNon g.start)) ∧ Below W.heap.size W w') :=
    ⟨fun W hb => gram_Non (H.below hb) g.start⟩
  have K6 : Aside0 (∀ W, Below W0.heap.size W0 W → Calls Try.prog 22 #[.slice A2 g.rules.length c2, .func (.func 29) #[] #[.pointer (some ⟨w.heap.size, 0, none⟩)]] W fun e w' => e = .returned (.bool (g.rules.all fun r => g.knownR r)) ∧ Below W.heap.size W w') :=
    ⟨fun W hb => all_rl (Kd.C_below H.rules hb) (by omega) ⟨_, _, rfl, fun _ _ => rfl, fun W' x v hW hV => check3 (blk_below hk0 (hb.trans (hW.mono hb.size))) (H.below (hb.trans (hW.mono hb.size))) x v hV.1⟩⟩
  have K7 : Aside0 (∀ W, Below W0.heap.size W0 W → Calls Try.prog 31 #[.slice A2 g.rules.length c2, .func (.func 32) #[] #[]] W fun e w' => e = .returned (.bool (unlikeR g.rules)) ∧ Below W.heap.size W w') :=
    ⟨fun W hb => gram_unlike (Kd.C_below H.rules hb) (by omega) H.l2⟩
  have K8 : Aside0 (∀ W, Below W0.heap.size W0 W → Calls Try.prog 33 #[.agg #[.slice A0 g.terms.length c0, .slice A1 g.nons.length c1, .slice A2 g.rules.length c2, .int .i64 g.start]] W fun e w' => e = .returned (.int .i64 ((g.terms.length : Int) + g.nons.length)) ∧ Below W.heap.size W w') :=
    ⟨fun W hb => gram_Top (H.below hb)⟩
  have K9 : Aside0 (∀ W (s : Int), Below W0.heap.size W0 W → Calls Try.prog 34 #[.agg #[.slice A0 g.terms.length c0, .slice A1 g.nons.length c1, .slice A2 g.rules.length c2, .int .i64 g.start], .int .i64 s] W fun e w' => ∃ A c, e = .returned (.slice A (g.ofS s).length c) ∧ Below W.heap.size W w') :=
    ⟨fun W s hb => (gram_Of (H.below hb) s).mono fun e w' ⟨v, he, hv, hb⟩ => by
      obtain ⟨A, c, rfl⟩ := Kd.R_slice hv
      exact ⟨A, c, he, hb⟩⟩
  have LT : Aside0 (∀ k : Nat, k < g.nons.length → g.ofS ((g.terms.length : Int) + 1 + k) = [] → g.lacks = true) := ⟨fun k => lacks_true⟩
  have LF : Aside0 ((∀ k : Nat, k < g.nons.length → g.ofS ((g.terms.length : Int) + 1 + k) ≠ []) → g.lacks = false) := ⟨lacks_false⟩
  have HW := Aside0.mk hW0
  have HB := Aside0.mk (Below.refl W0.heap.size W0)
  have HB0 := Aside0.mk hb0
  have HCH : Aside0 (g.check = checkB g.terms.length g.nons.length g.rules.length (g.rules.all shortR) (g.terms.all termOk) (g.nons.all plainOk) (decide g.names.Nodup) (g.isNon g.start) (g.rules.all fun r => g.knownR r) (unlikeR g.rules) g.lacks) := ⟨rfl⟩
  generalize g.check = CH at *
  generalize g.rules.all shortR = p1 at *
  generalize g.terms.all termOk = p2 at *
  generalize g.nons.all plainOk = p3 at *
  generalize decide g.names.Nodup = p4 at *
  generalize g.isNon g.start = p5 at *
  generalize (g.rules.all fun r => g.knownR r) = p6 at *
  generalize unlikeR g.rules = p7 at *
  generalize g.lacks = p8 at *
  clear h hsz hk0 hb0 H h0 h1 h2
  unfold gv at *
  by_cases e1 : p1 = false
  · subst e1
    go_enter Try.func10, Try.ntmps10
    go_wp2_with fail
    rw [← HW.out]
    refine (K1.out _ HB.out).mono ?_
    rintro e w1 ⟨rfl, hb1⟩
    have HN := Aside0.mk (HB.out.trans (hb1.mono HB.out.size))
    clear HB hb1
    have HB := HN
    clear HN
    obtain ⟨f0, f1, f2, f3⟩ := GC.out w1 HB.out
    go_wp2_with (first | (go_at_call 23; ((with_reducible refine (K2.out _ HB.out).mono ?_); rintro e w2 ⟨rfl, hb2⟩; have HN := Aside0.mk (HB.out.trans (hb2.mono HB.out.size)); clear HB hb2; have HB := HN; clear HN; (obtain ⟨f0, f1, f2, f3⟩ := GC.out w2 HB.out))) | (go_at_call 23; ((with_reducible refine (K3.out _ HB.out).mono ?_); rintro e w3 ⟨rfl, hb3⟩; have HN := Aside0.mk (HB.out.trans (hb3.mono HB.out.size)); clear HB hb3; have HB := HN; clear HN; (obtain ⟨f0, f1, f2, f3⟩ := GC.out w3 HB.out))) | (go_at_call 27; ((with_reducible refine (K4.out _ HB.out).mono ?_); rintro e w4 ⟨rfl, hb4⟩; have HN := Aside0.mk (HB.out.trans (hb4.mono HB.out.size)); clear HB hb4; have HB := HN; clear HN; (obtain ⟨f0, f1, f2, f3⟩ := GC.out w4 HB.out))) | (go_at_call 28; ((with_reducible refine (K5.out _ HB.out).mono ?_); rintro e w5 ⟨rfl, hb5⟩; have HN := Aside0.mk (HB.out.trans (hb5.mono HB.out.size)); clear HB hb5; have HB := HN; clear HN; (obtain ⟨f0, f1, f2, f3⟩ := GC.out w5 HB.out))) | (go_at_call 22; ((with_reducible refine (K6.out _ HB.out).mono ?_); rintro e w6 ⟨rfl, hb6⟩; have HN := Aside0.mk (HB.out.trans (hb6.mono HB.out.size)); clear HB hb6; have HB := HN; clear HN; (obtain ⟨f0, f1, f2, f3⟩ := GC.out w6 HB.out))) | (go_at_call 31; ((with_reducible refine (K7.out _ HB.out).mono ?_); rintro e w7 ⟨rfl, hb7⟩; have HN := Aside0.mk (HB.out.trans (hb7.mono HB.out.size)); clear HB hb7; have HB := HN; clear HN; (obtain ⟨f0, f1, f2, f3⟩ := GC.out w7 HB.out))))
    go_ret
    exact ⟨rint (by rw [HCH.out]; first | (simp [checkB]; done) | (simp [checkB]; omega)), HB0.out.trans (HB.out.mono HB0.out.size)⟩
  obtain rfl : p1 = true := by simpa using e1
  clear e1
  by_cases e2 : p2 = false
  · subst e2
    go_enter Try.func10, Try.ntmps10
    go_wp2_with fail
    rw [← HW.out]
    refine (K1.out _ HB.out).mono ?_
    rintro e w1 ⟨rfl, hb1⟩
    have HN := Aside0.mk (HB.out.trans (hb1.mono HB.out.size))
    clear HB hb1
    have HB := HN
    clear HN
    obtain ⟨f0, f1, f2, f3⟩ := GC.out w1 HB.out
    go_wp2_with (first | (go_at_call 23; ((with_reducible refine (K2.out _ HB.out).mono ?_); rintro e w2 ⟨rfl, hb2⟩; have HN := Aside0.mk (HB.out.trans (hb2.mono HB.out.size)); clear HB hb2; have HB := HN; clear HN; (obtain ⟨f0, f1, f2, f3⟩ := GC.out w2 HB.out))) | (go_at_call 23; ((with_reducible refine (K3.out _ HB.out).mono ?_); rintro e w3 ⟨rfl, hb3⟩; have HN := Aside0.mk (HB.out.trans (hb3.mono HB.out.size)); clear HB hb3; have HB := HN; clear HN; (obtain ⟨f0, f1, f2, f3⟩ := GC.out w3 HB.out))) | (go_at_call 27; ((with_reducible refine (K4.out _ HB.out).mono ?_); rintro e w4 ⟨rfl, hb4⟩; have HN := Aside0.mk (HB.out.trans (hb4.mono HB.out.size)); clear HB hb4; have HB := HN; clear HN; (obtain ⟨f0, f1, f2, f3⟩ := GC.out w4 HB.out))) | (go_at_call 28; ((with_reducible refine (K5.out _ HB.out).mono ?_); rintro e w5 ⟨rfl, hb5⟩; have HN := Aside0.mk (HB.out.trans (hb5.mono HB.out.size)); clear HB hb5; have HB := HN; clear HN; (obtain ⟨f0, f1, f2, f3⟩ := GC.out w5 HB.out))) | (go_at_call 22; ((with_reducible refine (K6.out _ HB.out).mono ?_); rintro e w6 ⟨rfl, hb6⟩; have HN := Aside0.mk (HB.out.trans (hb6.mono HB.out.size)); clear HB hb6; have HB := HN; clear HN; (obtain ⟨f0, f1, f2, f3⟩ := GC.out w6 HB.out))) | (go_at_call 31; ((with_reducible refine (K7.out _ HB.out).mono ?_); rintro e w7 ⟨rfl, hb7⟩; have HN := Aside0.mk (HB.out.trans (hb7.mono HB.out.size)); clear HB hb7; have HB := HN; clear HN; (obtain ⟨f0, f1, f2, f3⟩ := GC.out w7 HB.out))))
    go_ret
    exact ⟨rint (by rw [HCH.out]; first | (simp [checkB]; done) | (simp [checkB]; omega)), HB0.out.trans (HB.out.mono HB0.out.size)⟩
  obtain rfl : p2 = true := by simpa using e2
  clear e2
  by_cases e3 : p3 = false
  · subst e3
    go_enter Try.func10, Try.ntmps10
    go_wp2_with fail
    rw [← HW.out]
    refine (K1.out _ HB.out).mono ?_
    rintro e w1 ⟨rfl, hb1⟩
    have HN := Aside0.mk (HB.out.trans (hb1.mono HB.out.size))
    clear HB hb1
    have HB := HN
    clear HN
    obtain ⟨f0, f1, f2, f3⟩ := GC.out w1 HB.out
    go_wp2_with (first | (go_at_call 23; ((with_reducible refine (K2.out _ HB.out).mono ?_); rintro e w2 ⟨rfl, hb2⟩; have HN := Aside0.mk (HB.out.trans (hb2.mono HB.out.size)); clear HB hb2; have HB := HN; clear HN; (obtain ⟨f0, f1, f2, f3⟩ := GC.out w2 HB.out))) | (go_at_call 23; ((with_reducible refine (K3.out _ HB.out).mono ?_); rintro e w3 ⟨rfl, hb3⟩; have HN := Aside0.mk (HB.out.trans (hb3.mono HB.out.size)); clear HB hb3; have HB := HN; clear HN; (obtain ⟨f0, f1, f2, f3⟩ := GC.out w3 HB.out))) | (go_at_call 27; ((with_reducible refine (K4.out _ HB.out).mono ?_); rintro e w4 ⟨rfl, hb4⟩; have HN := Aside0.mk (HB.out.trans (hb4.mono HB.out.size)); clear HB hb4; have HB := HN; clear HN; (obtain ⟨f0, f1, f2, f3⟩ := GC.out w4 HB.out))) | (go_at_call 28; ((with_reducible refine (K5.out _ HB.out).mono ?_); rintro e w5 ⟨rfl, hb5⟩; have HN := Aside0.mk (HB.out.trans (hb5.mono HB.out.size)); clear HB hb5; have HB := HN; clear HN; (obtain ⟨f0, f1, f2, f3⟩ := GC.out w5 HB.out))) | (go_at_call 22; ((with_reducible refine (K6.out _ HB.out).mono ?_); rintro e w6 ⟨rfl, hb6⟩; have HN := Aside0.mk (HB.out.trans (hb6.mono HB.out.size)); clear HB hb6; have HB := HN; clear HN; (obtain ⟨f0, f1, f2, f3⟩ := GC.out w6 HB.out))) | (go_at_call 31; ((with_reducible refine (K7.out _ HB.out).mono ?_); rintro e w7 ⟨rfl, hb7⟩; have HN := Aside0.mk (HB.out.trans (hb7.mono HB.out.size)); clear HB hb7; have HB := HN; clear HN; (obtain ⟨f0, f1, f2, f3⟩ := GC.out w7 HB.out))))
    go_ret
    exact ⟨rint (by rw [HCH.out]; first | (simp [checkB]; done) | (simp [checkB]; omega)), HB0.out.trans (HB.out.mono HB0.out.size)⟩
  obtain rfl : p3 = true := by simpa using e3
  clear e3
  by_cases e4 : p4 = false
  · subst e4
    go_enter Try.func10, Try.ntmps10
    go_wp2_with fail
    rw [← HW.out]
    refine (K1.out _ HB.out).mono ?_
    rintro e w1 ⟨rfl, hb1⟩
    have HN := Aside0.mk (HB.out.trans (hb1.mono HB.out.size))
    clear HB hb1
    have HB := HN
    clear HN
    obtain ⟨f0, f1, f2, f3⟩ := GC.out w1 HB.out
    go_wp2_with (first | (go_at_call 23; ((with_reducible refine (K2.out _ HB.out).mono ?_); rintro e w2 ⟨rfl, hb2⟩; have HN := Aside0.mk (HB.out.trans (hb2.mono HB.out.size)); clear HB hb2; have HB := HN; clear HN; (obtain ⟨f0, f1, f2, f3⟩ := GC.out w2 HB.out))) | (go_at_call 23; ((with_reducible refine (K3.out _ HB.out).mono ?_); rintro e w3 ⟨rfl, hb3⟩; have HN := Aside0.mk (HB.out.trans (hb3.mono HB.out.size)); clear HB hb3; have HB := HN; clear HN; (obtain ⟨f0, f1, f2, f3⟩ := GC.out w3 HB.out))) | (go_at_call 27; ((with_reducible refine (K4.out _ HB.out).mono ?_); rintro e w4 ⟨rfl, hb4⟩; have HN := Aside0.mk (HB.out.trans (hb4.mono HB.out.size)); clear HB hb4; have HB := HN; clear HN; (obtain ⟨f0, f1, f2, f3⟩ := GC.out w4 HB.out))) | (go_at_call 28; ((with_reducible refine (K5.out _ HB.out).mono ?_); rintro e w5 ⟨rfl, hb5⟩; have HN := Aside0.mk (HB.out.trans (hb5.mono HB.out.size)); clear HB hb5; have HB := HN; clear HN; (obtain ⟨f0, f1, f2, f3⟩ := GC.out w5 HB.out))) | (go_at_call 22; ((with_reducible refine (K6.out _ HB.out).mono ?_); rintro e w6 ⟨rfl, hb6⟩; have HN := Aside0.mk (HB.out.trans (hb6.mono HB.out.size)); clear HB hb6; have HB := HN; clear HN; (obtain ⟨f0, f1, f2, f3⟩ := GC.out w6 HB.out))) | (go_at_call 31; ((with_reducible refine (K7.out _ HB.out).mono ?_); rintro e w7 ⟨rfl, hb7⟩; have HN := Aside0.mk (HB.out.trans (hb7.mono HB.out.size)); clear HB hb7; have HB := HN; clear HN; (obtain ⟨f0, f1, f2, f3⟩ := GC.out w7 HB.out))))
    go_ret
    exact ⟨rint (by rw [HCH.out]; first | (simp [checkB]; done) | (simp [checkB]; omega)), HB0.out.trans (HB.out.mono HB0.out.size)⟩
  obtain rfl : p4 = true := by simpa using e4
  clear e4
  by_cases e5 : p5 = false
  · subst e5
    go_enter Try.func10, Try.ntmps10
    go_wp2_with fail
    rw [← HW.out]
    refine (K1.out _ HB.out).mono ?_
    rintro e w1 ⟨rfl, hb1⟩
    have HN := Aside0.mk (HB.out.trans (hb1.mono HB.out.size))
    clear HB hb1
    have HB := HN
    clear HN
    obtain ⟨f0, f1, f2, f3⟩ := GC.out w1 HB.out
    go_wp2_with (first | (go_at_call 23; ((with_reducible refine (K2.out _ HB.out).mono ?_); rintro e w2 ⟨rfl, hb2⟩; have HN := Aside0.mk (HB.out.trans (hb2.mono HB.out.size)); clear HB hb2; have HB := HN; clear HN; (obtain ⟨f0, f1, f2, f3⟩ := GC.out w2 HB.out))) | (go_at_call 23; ((with_reducible refine (K3.out _ HB.out).mono ?_); rintro e w3 ⟨rfl, hb3⟩; have HN := Aside0.mk (HB.out.trans (hb3.mono HB.out.size)); clear HB hb3; have HB := HN; clear HN; (obtain ⟨f0, f1, f2, f3⟩ := GC.out w3 HB.out))) | (go_at_call 27; ((with_reducible refine (K4.out _ HB.out).mono ?_); rintro e w4 ⟨rfl, hb4⟩; have HN := Aside0.mk (HB.out.trans (hb4.mono HB.out.size)); clear HB hb4; have HB := HN; clear HN; (obtain ⟨f0, f1, f2, f3⟩ := GC.out w4 HB.out))) | (go_at_call 28; ((with_reducible refine (K5.out _ HB.out).mono ?_); rintro e w5 ⟨rfl, hb5⟩; have HN := Aside0.mk (HB.out.trans (hb5.mono HB.out.size)); clear HB hb5; have HB := HN; clear HN; (obtain ⟨f0, f1, f2, f3⟩ := GC.out w5 HB.out))) | (go_at_call 22; ((with_reducible refine (K6.out _ HB.out).mono ?_); rintro e w6 ⟨rfl, hb6⟩; have HN := Aside0.mk (HB.out.trans (hb6.mono HB.out.size)); clear HB hb6; have HB := HN; clear HN; (obtain ⟨f0, f1, f2, f3⟩ := GC.out w6 HB.out))) | (go_at_call 31; ((with_reducible refine (K7.out _ HB.out).mono ?_); rintro e w7 ⟨rfl, hb7⟩; have HN := Aside0.mk (HB.out.trans (hb7.mono HB.out.size)); clear HB hb7; have HB := HN; clear HN; (obtain ⟨f0, f1, f2, f3⟩ := GC.out w7 HB.out))))
    go_ret
    exact ⟨rint (by rw [HCH.out]; first | (simp [checkB]; done) | (simp [checkB]; omega)), HB0.out.trans (HB.out.mono HB0.out.size)⟩
  obtain rfl : p5 = true := by simpa using e5
  clear e5
  by_cases e6 : p6 = false
  · subst e6
    go_enter Try.func10, Try.ntmps10
    go_wp2_with fail
    rw [← HW.out]
    refine (K1.out _ HB.out).mono ?_
    rintro e w1 ⟨rfl, hb1⟩
    have HN := Aside0.mk (HB.out.trans (hb1.mono HB.out.size))
    clear HB hb1
    have HB := HN
    clear HN
    obtain ⟨f0, f1, f2, f3⟩ := GC.out w1 HB.out
    go_wp2_with (first | (go_at_call 23; ((with_reducible refine (K2.out _ HB.out).mono ?_); rintro e w2 ⟨rfl, hb2⟩; have HN := Aside0.mk (HB.out.trans (hb2.mono HB.out.size)); clear HB hb2; have HB := HN; clear HN; (obtain ⟨f0, f1, f2, f3⟩ := GC.out w2 HB.out))) | (go_at_call 23; ((with_reducible refine (K3.out _ HB.out).mono ?_); rintro e w3 ⟨rfl, hb3⟩; have HN := Aside0.mk (HB.out.trans (hb3.mono HB.out.size)); clear HB hb3; have HB := HN; clear HN; (obtain ⟨f0, f1, f2, f3⟩ := GC.out w3 HB.out))) | (go_at_call 27; ((with_reducible refine (K4.out _ HB.out).mono ?_); rintro e w4 ⟨rfl, hb4⟩; have HN := Aside0.mk (HB.out.trans (hb4.mono HB.out.size)); clear HB hb4; have HB := HN; clear HN; (obtain ⟨f0, f1, f2, f3⟩ := GC.out w4 HB.out))) | (go_at_call 28; ((with_reducible refine (K5.out _ HB.out).mono ?_); rintro e w5 ⟨rfl, hb5⟩; have HN := Aside0.mk (HB.out.trans (hb5.mono HB.out.size)); clear HB hb5; have HB := HN; clear HN; (obtain ⟨f0, f1, f2, f3⟩ := GC.out w5 HB.out))) | (go_at_call 22; ((with_reducible refine (K6.out _ HB.out).mono ?_); rintro e w6 ⟨rfl, hb6⟩; have HN := Aside0.mk (HB.out.trans (hb6.mono HB.out.size)); clear HB hb6; have HB := HN; clear HN; (obtain ⟨f0, f1, f2, f3⟩ := GC.out w6 HB.out))) | (go_at_call 31; ((with_reducible refine (K7.out _ HB.out).mono ?_); rintro e w7 ⟨rfl, hb7⟩; have HN := Aside0.mk (HB.out.trans (hb7.mono HB.out.size)); clear HB hb7; have HB := HN; clear HN; (obtain ⟨f0, f1, f2, f3⟩ := GC.out w7 HB.out))))
    go_ret
    exact ⟨rint (by rw [HCH.out]; first | (simp [checkB]; done) | (simp [checkB]; omega)), HB0.out.trans (HB.out.mono HB0.out.size)⟩
  obtain rfl : p6 = true := by simpa using e6
  clear e6
  by_cases e7 : p7 = false
  · subst e7
    go_enter Try.func10, Try.ntmps10
    go_wp2_with fail
    rw [← HW.out]
    refine (K1.out _ HB.out).mono ?_
    rintro e w1 ⟨rfl, hb1⟩
    have HN := Aside0.mk (HB.out.trans (hb1.mono HB.out.size))
    clear HB hb1
    have HB := HN
    clear HN
    obtain ⟨f0, f1, f2, f3⟩ := GC.out w1 HB.out
    go_wp2_with (first | (go_at_call 23; ((with_reducible refine (K2.out _ HB.out).mono ?_); rintro e w2 ⟨rfl, hb2⟩; have HN := Aside0.mk (HB.out.trans (hb2.mono HB.out.size)); clear HB hb2; have HB := HN; clear HN; (obtain ⟨f0, f1, f2, f3⟩ := GC.out w2 HB.out))) | (go_at_call 23; ((with_reducible refine (K3.out _ HB.out).mono ?_); rintro e w3 ⟨rfl, hb3⟩; have HN := Aside0.mk (HB.out.trans (hb3.mono HB.out.size)); clear HB hb3; have HB := HN; clear HN; (obtain ⟨f0, f1, f2, f3⟩ := GC.out w3 HB.out))) | (go_at_call 27; ((with_reducible refine (K4.out _ HB.out).mono ?_); rintro e w4 ⟨rfl, hb4⟩; have HN := Aside0.mk (HB.out.trans (hb4.mono HB.out.size)); clear HB hb4; have HB := HN; clear HN; (obtain ⟨f0, f1, f2, f3⟩ := GC.out w4 HB.out))) | (go_at_call 28; ((with_reducible refine (K5.out _ HB.out).mono ?_); rintro e w5 ⟨rfl, hb5⟩; have HN := Aside0.mk (HB.out.trans (hb5.mono HB.out.size)); clear HB hb5; have HB := HN; clear HN; (obtain ⟨f0, f1, f2, f3⟩ := GC.out w5 HB.out))) | (go_at_call 22; ((with_reducible refine (K6.out _ HB.out).mono ?_); rintro e w6 ⟨rfl, hb6⟩; have HN := Aside0.mk (HB.out.trans (hb6.mono HB.out.size)); clear HB hb6; have HB := HN; clear HN; (obtain ⟨f0, f1, f2, f3⟩ := GC.out w6 HB.out))) | (go_at_call 31; ((with_reducible refine (K7.out _ HB.out).mono ?_); rintro e w7 ⟨rfl, hb7⟩; have HN := Aside0.mk (HB.out.trans (hb7.mono HB.out.size)); clear HB hb7; have HB := HN; clear HN; (obtain ⟨f0, f1, f2, f3⟩ := GC.out w7 HB.out))))
    go_ret
    exact ⟨rint (by rw [HCH.out]; first | (simp [checkB]; done) | (simp [checkB]; omega)), HB0.out.trans (HB.out.mono HB0.out.size)⟩
  obtain rfl : p7 = true := by simpa using e7
  clear e7
  go_enter Try.func10, Try.ntmps10
  go_wp2_with fail
  rw [← HW.out]
  refine (K1.out _ HB.out).mono ?_
  rintro e w1 ⟨rfl, hb1⟩
  have HN := Aside0.mk (HB.out.trans (hb1.mono HB.out.size))
  clear HB hb1
  have HB := HN
  clear HN
  obtain ⟨f0, f1, f2, f3⟩ := GC.out w1 HB.out
  go_wp2_with (first | (go_at_call 23; ((with_reducible refine (K2.out _ HB.out).mono ?_); rintro e w2 ⟨rfl, hb2⟩; have HN := Aside0.mk (HB.out.trans (hb2.mono HB.out.size)); clear HB hb2; have HB := HN; clear HN; (obtain ⟨f0, f1, f2, f3⟩ := GC.out w2 HB.out))) | (go_at_call 23; ((with_reducible refine (K3.out _ HB.out).mono ?_); rintro e w3 ⟨rfl, hb3⟩; have HN := Aside0.mk (HB.out.trans (hb3.mono HB.out.size)); clear HB hb3; have HB := HN; clear HN; (obtain ⟨f0, f1, f2, f3⟩ := GC.out w3 HB.out))) | (go_at_call 27; ((with_reducible refine (K4.out _ HB.out).mono ?_); rintro e w4 ⟨rfl, hb4⟩; have HN := Aside0.mk (HB.out.trans (hb4.mono HB.out.size)); clear HB hb4; have HB := HN; clear HN; (obtain ⟨f0, f1, f2, f3⟩ := GC.out w4 HB.out))) | (go_at_call 28; ((with_reducible refine (K5.out _ HB.out).mono ?_); rintro e w5 ⟨rfl, hb5⟩; have HN := Aside0.mk (HB.out.trans (hb5.mono HB.out.size)); clear HB hb5; have HB := HN; clear HN; (obtain ⟨f0, f1, f2, f3⟩ := GC.out w5 HB.out))) | (go_at_call 22; ((with_reducible refine (K6.out _ HB.out).mono ?_); rintro e w6 ⟨rfl, hb6⟩; have HN := Aside0.mk (HB.out.trans (hb6.mono HB.out.size)); clear HB hb6; have HB := HN; clear HN; (obtain ⟨f0, f1, f2, f3⟩ := GC.out w6 HB.out))) | (go_at_call 31; ((with_reducible refine (K7.out _ HB.out).mono ?_); rintro e w7 ⟨rfl, hb7⟩; have HN := Aside0.mk (HB.out.trans (hb7.mono HB.out.size)); clear HB hb7; have HB := HN; clear HN; (obtain ⟨f0, f1, f2, f3⟩ := GC.out w7 HB.out))))
  go_loopw [4] (fun v wr => ∃ k : Nat, k ≤ g.nons.length ∧ v = .int .i64 ((g.terms.length : Int) + 1 + k) ∧ Aside0 (Below W0.heap.size W0 wr) ∧ Aside0 (∀ j : Nat, j < k → g.ofS ((g.terms.length : Int) + 1 + j) ≠ [])) (fun v _ => g.terms.length + g.nons.length + 2 - (intOf v).toNat)
  case atStart => exact ⟨0, Nat.zero_le _, by simp, HB, ⟨fun j hj => absurd hj (Nat.not_lt_zero _)⟩⟩
  case round =>
    clear HB f0 f1 f2 f3
    obtain ⟨k, hk, rfl, HB, HL⟩ := hrel
    obtain ⟨f0, f1, f2, f3⟩ := GC.out wr HB.out
    by_cases hkl : k < g.nons.length
    · have hkz : (g.terms.length : Int) + 1 + k ≤ (g.terms.length : Int) + g.nons.length := by omega
      by_cases hz : g.ofS ((g.terms.length : Int) + 1 + k) = []
      · have hlen : (g.ofS ((g.terms.length : Int) + 1 + k)).length = 0 := by rw [hz]; rfl
        have h8 := LT.out k hkl hz
        have K9' := Aside0.mk (fun W hb => K9.out W ((g.terms.length : Int) + 1 + k) hb)
        rw [hlen] at K9'
        clear hz hlen
        go_wp2_with (first | (go_at_call 33; (with_reducible refine (K8.out _ HB.out).mono ?_); rintro e w8 ⟨rfl, hb8⟩; have HN := Aside0.mk (HB.out.trans (hb8.mono HB.out.size)); clear HB hb8; have HB := HN; clear HN; (obtain ⟨f0, f1, f2, f3⟩ := GC.out w8 HB.out)) | (go_at_call 34; (with_reducible refine (K9'.out _ HB.out).mono ?_); rintro e w9 ⟨A9, c9, rfl, hb9⟩; have HN := Aside0.mk (HB.out.trans (hb9.mono HB.out.size)); clear HB hb9; have HB := HN; clear HN))
        go_ret
        refine ⟨rint ?_, HB0.out.trans (HB.out.mono HB0.out.size)⟩
        rw [HCH.out]
        subst h8
        simp [checkB]
        omega
      · have HZ := Aside0.mk hz
        have hlen : ((g.ofS ((g.terms.length : Int) + 1 + k)).length : Int) ≠ 0 := by
          intro e
          exact hz (List.eq_nil_of_length_eq_zero (by omega))
        obtain ⟨q, hq⟩ : ∃ q, (g.ofS ((g.terms.length : Int) + 1 + k)).length = q := ⟨_, rfl⟩
        have K9' := Aside0.mk (fun W hb => K9.out W ((g.terms.length : Int) + 1 + k) hb)
        rw [hq] at K9' hlen
        have hq0 : ((q : Int) == 0) = false := by simpa using hlen
        clear hz hq hlen
        go_wp2_with (first | (go_at_call 33; (with_reducible refine (K8.out _ HB.out).mono ?_); rintro e w8 ⟨rfl, hb8⟩; have HN := Aside0.mk (HB.out.trans (hb8.mono HB.out.size)); clear HB hb8; have HB := HN; clear HN; (obtain ⟨f0, f1, f2, f3⟩ := GC.out w8 HB.out)) | (go_at_call 34; (with_reducible refine (K9'.out _ HB.out).mono ?_); rintro e w9 ⟨A9, c9, rfl, hb9⟩; have HN := Aside0.mk (HB.out.trans (hb9.mono HB.out.size)); clear HB hb9; have HB := HN; clear HN))
        go_roundw
        case rel =>
          refine ⟨k + 1, by omega, by go_num, HB, ⟨fun j hj => ?_⟩⟩
          by_cases e : j = k
          · subst e
            exact HZ.out
          · exact HL.out j (by omega)
        case measure => simp [intOf]; omega
    · have hkz : ¬ (g.terms.length : Int) + 1 + k ≤ (g.terms.length : Int) + g.nons.length := by omega
      have h8 := LF.out fun j hj => HL.out j (by omega)
      go_wp2_with (go_at_call 33; (with_reducible refine (K8.out _ HB.out).mono ?_); rintro e w8 ⟨rfl, hb8⟩; have HN := Aside0.mk (HB.out.trans (hb8.mono HB.out.size)); clear HB hb8; have HB := HN; clear HN)
      go_ret
      refine ⟨rint ?_, HB0.out.trans (HB.out.mono HB0.out.size)⟩
      rw [HCH.out]
      subst h8
      simp [checkB]
      omega
end Go.Proofs.Ytliofoikejdjeaa
