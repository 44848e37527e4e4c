/- PosixTells holds: for every operator, text and terminal the law answers true. Conditions: the variables oper.texts and posix.reserved start as the program's text lays them (the card ties them). -/
import Derived.Test.YtliofoikejdjeaaDoorY1
import Derived.Test.YtliofoikejdjeaaDoorY9
/- posix, oper: how terminals are written: the program's and the document's. -/
namespace Go.Proofs.YtliofoikejdjeaaDoor
open Go.RowKit Go.Proofs.YtliofoikejdjeaaDoorW.PrintWords
set_option linter.unusedVariables false
set_option linter.unusedSimpArgs false
set_option maxHeartbeats 1000000 in
theorem posix_Spell {w : World} (ht : TextsAt w) (hw : WordsAt w) (t : Int) : Calls Tryd.prog 12 #[.int .i64 t] w fun e w' => e = .returned (.string (spellS t)) ∧ w' = w := by
  by_cases h1 : t = 1
  · subst h1
    clear hw ht
    go_enter Tryd.func12, Tryd.ntmps12
    go_wp2
    go_ret
    exact ⟨rfl, rfl⟩
  have b1 : (t == 1) = false := beq_false_of_ne h1
  by_cases h2 : t = 2
  · subst h2
    clear hw ht
    go_enter Tryd.func12, Tryd.ntmps12
    go_wp2
    go_ret
    exact ⟨rfl, rfl⟩
  have b2 : (t == 2) = false := beq_false_of_ne h2
  by_cases h3 : t = 3
  · subst h3
    clear hw ht
    go_enter Tryd.func12, Tryd.ntmps12
    go_wp2
    go_ret
    exact ⟨rfl, rfl⟩
  have b3 : (t == 3) = false := beq_false_of_ne h3
  by_cases h4 : t = 4
  · subst h4
    clear hw ht
    go_enter Tryd.func12, Tryd.ntmps12
    go_wp2
    go_ret
    exact ⟨rfl, rfl⟩
  have b4 : (t == 4) = false := beq_false_of_ne h4
  by_cases h5 : t = 5
  · subst h5
    clear hw ht
    go_enter Tryd.func12, Tryd.ntmps12
    go_wp2
    go_ret
    exact ⟨rfl, rfl⟩
  have b5 : (t == 5) = false := beq_false_of_ne h5
  by_cases h6 : 23 ≤ t ∧ t ≤ 38
  · have hc := hw ((t - 23).toNat) (by omega)
    have hr : spellS t = resWords.getD ((t - 23).toNat) default := by
      unfold spellS
      rw [if_neg h1, if_neg h2, if_neg h3, if_neg h4, if_neg h5, if_pos h6]
    obtain ⟨y, hy⟩ : ∃ y, resWords.getD ((t - 23).toNat) default = y := ⟨_, rfl⟩
    rw [hr]
    rw [hy] at hc ⊢
    obtain ⟨g1, g2⟩ := h6
    have l1 : t - 23 < 16 := by omega
    have l0 : 0 ≤ t - 23 := by omega
    clear hw ht hr hy h1 h2 h3 h4 h5
    go_enter Tryd.func12, Tryd.ntmps12
    go_wp2
    go_ret
    exact ⟨rfl, rfl⟩
  · by_cases h7 : 5 < t ∧ t < 23
    · have hr : spellS t = opText (t - 5) := by
        unfold spellS
        rw [if_neg h1, if_neg h2, if_neg h3, if_neg h4, if_neg h5, if_neg h6, if_pos h7]
      have HC := Aside0.mk (oper_Text ht (t - 5))
      rw [hr]
      obtain ⟨g1, g2⟩ := h7
      have g3 : ¬ 23 ≤ t := by omega
      clear hr hw ht h1 h2 h3 h4 h5 h6
      go_enter Tryd.func12, Tryd.ntmps12
      go_wp2_with (go_at_call 27; refine HC.out.mono ?_; rintro e w' ⟨rfl, rfl⟩)
      go_ret
      exact ⟨rfl, rfl⟩
    · have hr : spellS t = ⟨#[]⟩ := by
        unfold spellS
        rw [if_neg h1, if_neg h2, if_neg h3, if_neg h4, if_neg h5, if_neg h6, if_neg h7]
      rw [hr]
      clear hr hw ht
      by_cases k1 : 5 < t
      · have k2 : ¬ t ≤ 38 := by omega
        have k3 : 23 ≤ t := by omega
        have k4 : ¬ t < 23 := by omega
        clear h1 h2 h3 h4 h5 h6 h7
        go_enter Tryd.func12, Tryd.ntmps12
        go_wp2
        go_ret
        exact ⟨rfl, rfl⟩
      · have k2 : ¬ 23 ≤ t := by omega
        clear h1 h2 h3 h4 h5 h6 h7
        go_enter Tryd.func12, Tryd.ntmps12
        go_wp2
        go_ret
        exact ⟨rfl, rfl⟩
set_option maxHeartbeats 1000000 in
theorem ref30_Spell (t : Int) (w : World) : Calls Tryd.prog 13 #[.int .i64 t] w fun e w' => e = .returned (.string (spellS t)) ∧ Below w.heap.size w w' := by
  by_cases h1 : t = 1
  · subst h1
    skip
    go_enter Tryd.func13, Tryd.ntmps13
    go_wp2
    go_ret
    exact ⟨rfl, Below.refl _ _⟩
  have b1 : (t == 1) = false := beq_false_of_ne h1
  by_cases h2 : t = 2
  · subst h2
    skip
    go_enter Tryd.func13, Tryd.ntmps13
    go_wp2
    go_ret
    exact ⟨rfl, Below.refl _ _⟩
  have b2 : (t == 2) = false := beq_false_of_ne h2
  by_cases h3 : t = 3
  · subst h3
    skip
    go_enter Tryd.func13, Tryd.ntmps13
    go_wp2
    go_ret
    exact ⟨rfl, Below.refl _ _⟩
  have b3 : (t == 3) = false := beq_false_of_ne h3
  by_cases h4 : t = 4
  · subst h4
    skip
    go_enter Tryd.func13, Tryd.ntmps13
    go_wp2
    go_ret
    exact ⟨rfl, Below.refl _ _⟩
  have b4 : (t == 4) = false := beq_false_of_ne h4
  by_cases h5 : t = 5
  · subst h5
    skip
    go_enter Tryd.func13, Tryd.ntmps13
    go_wp2
    go_ret
    exact ⟨rfl, Below.refl _ _⟩
  have b5 : (t == 5) = false := beq_false_of_ne h5
  by_cases h6 : 23 ≤ t ∧ t ≤ 38
  · have hr : spellS t = resWords.getD ((t - 23).toNat) default := by
      unfold spellS
      rw [if_neg h1, if_neg h2, if_neg h3, if_neg h4, if_neg h5, if_pos h6]
    obtain ⟨y, hy⟩ : ∃ y, resWords.getD ((t - 23).toNat) default = y := ⟨_, rfl⟩
    rw [hr, hy]
    obtain ⟨g1, g2⟩ := h6
    have l1 : t - 23 < 16 := by omega
    have l0 : 0 ≤ t - 23 := by omega
    have hl : (t - 23).toNat < 16 := by omega
    have HY := Aside0.mk hy
    have HW := Aside0.mk (ref30_Words w)
    clear hr hy h1 h2 h3 h4 h5
    go_enter Tryd.func13, Tryd.ntmps13
    go_wp2_with (go_at_call 28; refine HW.out.mono ?_; rintro e w2 ⟨A, rfl, hC, hb⟩; have HX := Aside0.mk hC; have HB := Aside0.mk hb; obtain ⟨ad, rfl, l2⟩ := at_str hC ((t - 23).toNat) hl; rw [HY.out] at l2; clear hC hb)
    go_ret
    exact ⟨rfl, HB.out⟩
  · by_cases h7 : 5 < t ∧ t < 23
    · have hr : spellS t = opText (t - 5) := by
        unfold spellS
        rw [if_neg h1, if_neg h2, if_neg h3, if_neg h4, if_neg h5, if_neg h6, if_pos h7]
      have HC := Aside0.mk (ref23_Text (t - 5) w)
      rw [hr]
      obtain ⟨g1, g2⟩ := h7
      have g3 : ¬ 23 ≤ t := by omega
      clear hr h1 h2 h3 h4 h5 h6
      go_enter Tryd.func13, Tryd.ntmps13
      go_wp2_with (go_at_call 19; refine HC.out.mono ?_; rintro e w' ⟨rfl, rfl⟩)
      go_ret
      exact ⟨rfl, Below.refl _ _⟩
    · have hr : spellS t = ⟨#[]⟩ := by
        unfold spellS
        rw [if_neg h1, if_neg h2, if_neg h3, if_neg h4, if_neg h5, if_neg h6, if_neg h7]
      rw [hr]
      clear hr 
      by_cases k1 : 5 < t
      · have k2 : ¬ t ≤ 38 := by omega
        have k3 : 23 ≤ t := by omega
        have k4 : ¬ t < 23 := by omega
        clear h1 h2 h3 h4 h5 h6 h7
        go_enter Tryd.func13, Tryd.ntmps13
        go_wp2
        go_ret
        exact ⟨rfl, Below.refl _ _⟩
      · have k2 : ¬ 23 ≤ t := by omega
        clear h1 h2 h3 h4 h5 h6 h7
        go_enter Tryd.func13, Tryd.ntmps13
        go_wp2
        go_ret
        exact ⟨rfl, Below.refl _ _⟩
end Go.Proofs.YtliofoikejdjeaaDoor
/- gram.Name. -/
namespace Go.Proofs.YtliofoikejdjeaaDoor
open Go.RowKit Go.Proofs.YtliofoikejdjeaaDoorW.PrintWords
set_option linter.unusedVariables false
set_option linter.unusedSimpArgs false
section
variable {w : World} {A0 A1 A2 : Option Addr} {c0 c1 c2 : Nat} {g : Gm}
theorem gram_Name (h : GmAt w A0 A1 A2 c0 c1 c2 g) (s : Int) : Calls Tryd.prog 26 #[.agg (gv A0 A1 A2 c0 c1 c2 g), .int .i64 s] w fun e w' => e = .returned (.string (g.nameOf s)) ∧ Below w.heap.size w w' := by
  have m0 := h.m0
  have m1 := h.m1
  by_cases z : s = 0
  · subst z
    clear h
    unfold gv
    go_enter Tryd.func26, Tryd.ntmps26
    go_wp2
    go_ret
    exact ⟨rfl, below_alloc (Below.refl _ _) _⟩
  have hzb : (s == 0) = false := beq_false_of_ne z
  have hb0 := below_alloc (Below.refl _ w) (.cells (gv A0 A1 A2 c0 c1 c2 g) 30)
  have hk0 := blk_new w (.cells (gv A0 A1 A2 c0 c1 c2 g) 30)
  have HTm := Aside0.mk (gram_Term (h.below hb0) s)
  have HNn := Aside0.mk (fun (W : World) (hb : Below w.heap.size w W) => gram_Non (h.below hb) s)
  have HT := Aside0.mk h.terms
  have HN := Aside0.mk h.nons
  have HK := Aside0.mk hk0
  have HB0 := Aside0.mk hb0
  have hlt := blk_lt hk0
  clear h hb0 hk0
  by_cases z1 : 1 ≤ s ∧ s ≤ g.terms.length
  · have ht : g.isTerm s = true := by simp [Gm.isTerm, z1]
    obtain ⟨y1, y2⟩ := z1
    have hl : (s.toNat - 1) < g.terms.length := by omega
    have hl1 : s - 1 < (g.terms.length : Int) := by omega
    have hs : s.natAbs < 4611686018427387904 := by omega
    have hl0 : 0 ≤ s - 1 := by omega
    have hr : g.nameOf s = g.terms.getD (s.toNat - 1) default := by
      unfold Gm.nameOf Gm.names
      rw [if_neg z, if_pos (by unfold Gm.top; omega), List.getD_eq_getElem?_getD, List.getD_eq_getElem?_getD, List.getElem?_append_left hl]
    rw [ht] at HTm
    rw [hr]
    obtain ⟨y, hy⟩ : ∃ y, g.terms.getD (s.toNat - 1) default = y := ⟨_, rfl⟩
    rw [hy]
    have HY := Aside0.mk hy
    clear hy
    clear hr ht HNn
    unfold gv at *
    go_enter Tryd.func26, Tryd.ntmps26
    go_wp2_with (go_at_call 44; refine HTm.out.mono ?_; rintro e w1 ⟨rfl, hb1⟩; obtain ⟨f0, f1, f2, f3⟩ := gcells (blk_below HK.out hb1); obtain ⟨ad, rfl, l2⟩ := at_str (Kd.C_below HT.out (below_new hb1)) _ hl; rw [HY.out] at l2)
    go_ret
    exact ⟨rfl, below_new hb1⟩
  have ht : g.isTerm s = false := by simp [Gm.isTerm]; omega
  rw [ht] at HTm
  clear ht
  by_cases z2 : (g.terms.length : Int) < s ∧ s ≤ g.top
  · have hn : g.isNon s = true := by simp [Gm.isNon, z2]
    obtain ⟨y1, y2⟩ := z2
    unfold Gm.top at y2
    have hl : (s.toNat - 1 - g.terms.length) < g.nons.length := by omega
    have hl1 : s - 1 - g.terms.length < (g.nons.length : Int) := by omega
    have hs : s.natAbs < 4611686018427387904 := by omega
    have hl0 : 0 ≤ s - 1 - g.terms.length := by omega
    have hr : g.nameOf s = g.nons.getD (s.toNat - 1 - g.terms.length) default := by
      unfold Gm.nameOf Gm.names
      rw [if_neg z, if_pos (by unfold Gm.top; omega), List.getD_eq_getElem?_getD, List.getD_eq_getElem?_getD, List.getElem?_append_right (by omega)]
    rw [hn] at HNn
    rw [hr]
    obtain ⟨y, hy⟩ : ∃ y, g.nons.getD (s.toNat - 1 - g.terms.length) default = y := ⟨_, rfl⟩
    rw [hy]
    have HY := Aside0.mk hy
    clear hy
    clear hr hn
    unfold gv at *
    go_enter Tryd.func26, Tryd.ntmps26
    go_wp2_with (first | (go_at_call 44; refine HTm.out.mono ?_; rintro e w1 ⟨rfl, hb1⟩; obtain ⟨f0, f1, f2, f3⟩ := gcells (blk_below HK.out hb1)) | (go_at_call 45; refine (HNn.out _ (below_new hb1)).mono ?_; rintro e w2 ⟨rfl, hb2⟩; clear f0 f1 f2 f3; obtain ⟨f0, f1, f2, f3⟩ := gcells (blk_below HK.out (hb1.trans (hb2.mono hb1.size))); obtain ⟨ad, rfl, l2⟩ := at_str (Kd.C_below HN.out ((below_new hb1).trans (hb2.mono (below_new hb1).size))) _ hl; rw [HY.out] at l2))
    go_ret
    exact ⟨rfl, (below_new hb1).trans (hb2.mono (below_new hb1).size)⟩
  · have hn : g.isNon s = false := by simp [Gm.isNon]; omega
    have hr : g.nameOf s = ⟨#[]⟩ := by
      unfold Gm.nameOf
      rw [if_neg z, if_neg (by unfold Gm.top at *; omega)]
    rw [hn] at HNn
    rw [hr]
    clear hr hn z1 z2
    unfold gv at *
    go_enter Tryd.func26, Tryd.ntmps26
    go_wp2_with (first | (go_at_call 44; refine HTm.out.mono ?_; rintro e w1 ⟨rfl, hb1⟩; obtain ⟨f0, f1, f2, f3⟩ := gcells (blk_below HK.out hb1)) | (go_at_call 45; refine (HNn.out _ (below_new hb1)).mono ?_; rintro e w2 ⟨rfl, hb2⟩))
    go_ret
    exact ⟨rfl, (below_new hb1).trans (hb2.mono (below_new hb1).size)⟩
end
end Go.Proofs.YtliofoikejdjeaaDoor
/- posix: Gram; the law's awake. -/
namespace Go.Proofs.YtliofoikejdjeaaDoor
open Go.RowKit Go.Proofs.YtliofoikejdjeaaDoorW.PrintWords
set_option linter.unusedVariables false
set_option linter.unusedSimpArgs false
theorem calls_args {P : Program} {f : FuncId} {a b : Array Value} {w : World} {Q : Ending → World → Prop} (h : a = b) (k : Calls P f b w Q) : Calls P f a w Q := h ▸ k
set_option maxRecDepth 1000000 in
set_option maxHeartbeats 4000000 in
theorem posix_Gram {w : World} (hm : MxAt w) : Calls Tryd.prog 14 #[] w fun e w' => ∃ A0 A1 A2 c0 c1 c2, e = .returned (.agg (gv A0 A1 A2 c0 c1 c2 posixGm)) ∧ GmAt w' A0 A1 A2 c0 c1 c2 posixGm ∧ Below w.heap.size w w' := by
  have hb := below_alloc (Below.refl w.heap.size w) (.cells #[.slice none 0 0, .slice none 0 0, .slice none 0 0, .int .i64 0] 30 (0, 0))
  have HP := Aside0.mk (gread_Parse posixText (by decide +kernel) (hm.below hb))
  rw [posix_parse] at HP
  have HK := Aside0.mk (blk_new w (.cells #[.slice none 0 0, .slice none 0 0, .slice none 0 0, .int .i64 0] 30 (0, 0)))
  have HB := Aside0.mk hb
  have HWS : Aside0 ((w.alloc (.cells #[.slice none 0 0, .slice none 0 0, .slice none 0 0, .int .i64 0] 30 (0, 0))).heap.size = w.heap.size + 1) := ⟨by simp⟩
  generalize posixGm = g at HP ⊢
  clear hm hb
  go_enter Tryd.func14, Tryd.ntmps14
  go_wp2_with (go_at_call 21; (refine calls_args (b := #[.string posixText]) (by kernel_rfl) ?_); refine HP.out.mono ?_; rintro e w2 ⟨hb2, A0, A1, A2, c0, c1, c2, rfl, hg⟩; have HG := Aside0.mk hg; have HB2 := Aside0.mk hb2; have hz : w.heap.size < w2.heap.size := (by have := hb2.size; have := HWS.out; omega); have HK2 := Aside0.mk (blk_below HK.out hb2); have z0 := (blk_cell HK2.out 0).trans rfl; have z1 := (blk_cell HK2.out 1).trans rfl; have z2 := (blk_cell HK2.out 2).trans rfl; have z3 := (blk_cell HK2.out 3).trans rfl; have y0 := blk_frozen HK2.out 0; have y1 := blk_frozen HK2.out 1; have y2 := blk_frozen HK2.out 2; have y3 := blk_frozen HK2.out 3; unfold gv; clear hb2 hg)
  have b4 := blk_alloc (blk_set (blk_set (blk_set (blk_set HK2.out 0 (.slice A0 g.terms.length c0)) 1 (.slice A1 g.nons.length c1)) 2 (.slice A2 g.rules.length c2)) 3 (.int .i64 g.start)) (.cells #[.slice A0 g.terms.length c0, .slice A1 g.nons.length c1, .slice A2 g.rules.length c2, .int .i64 g.start] 30 (0, 0))
  refine bodyPost_ret (results_c (fn := Tryd.f14) rfl _ _ w.heap.size 30 _ (0, 0) _ rfl b4 Tryd.underlying30 rfl (by kernel_rfl)) rfl ⟨A0, A1, A2, c0, c1, c2, rfl, HG.out _ (fun k hk hk2 => ?_), ?_⟩
  · have hws := HWS.out
    have n0 : k ≠ w.heap.size := by omega
    exact (Below.heap_alloc _ _ k (by simpa using hk2)).trans ((Below.heap_setCell _ ⟨w.heap.size, 3, none⟩ _ k n0).trans ((Below.heap_setCell _ ⟨w.heap.size, 2, none⟩ _ k n0).trans ((Below.heap_setCell _ ⟨w.heap.size, 1, none⟩ _ k n0).trans (Below.heap_setCell _ ⟨w.heap.size, 0, none⟩ _ k n0))))
  · have e1 := HB.out.trans (HB2.out.mono HB.out.size)
    exact below_alloc ((((e1.setCell (p := ⟨w.heap.size, 0, none⟩) (Nat.le_refl _) _).setCell (p := ⟨w.heap.size, 1, none⟩) (Nat.le_refl _) _).setCell (p := ⟨w.heap.size, 2, none⟩) (Nat.le_refl _) _).setCell (p := ⟨w.heap.size, 3, none⟩) (Nat.le_refl _) _) _
/-- What awake asks of the grammar. -/
theorem posix_name18 : posixGm.nameOf (opS 13) = ⟨#[39, 60, 60, 45, 39]⟩ := by kernel_rfl
theorem posix_nameS : posixGm.nameOf posixGm.start = ⟨#[117, 110, 105, 116]⟩ := by kernel_rfl
theorem res_in : resS ⟨#[105, 110]⟩ = 38 := by kernel_rfl
theorem spell_if : spellS 23 = ⟨#[105, 102]⟩ := by kernel_rfl
set_option maxRecDepth 1000000 in
set_option maxHeartbeats 4000000 in
theorem law30_awake {w : World} (hm : MxAt w) (ht : TextsAt w) (hr : WordsAt w) : Calls Tryd.prog 7 #[] w fun e w' => e = .returned (.bool true) ∧ Below w.heap.size w w' := by
  have HG := Aside0.mk (posix_Gram hm)
  have HT := Aside0.mk ht
  have HR := Aside0.mk hr
  have N1 := Aside0.mk posix_name18
  have N2 := Aside0.mk posix_nameS
  have N3 := Aside0.mk res_in
  have N4 := Aside0.mk spell_if
  generalize posixGm = g at HG N1 N2
  clear hm ht hr
  go_enter Tryd.func7, Tryd.ntmps7
  go_wp2_with (go_at_call 14; refine HG.out.mono ?_; rintro e w2 ⟨A0, A1, A2, c0, c1, c2, rfl, hg, hb⟩; have HGM := Aside0.mk hg; have HB := Aside0.mk hb; unfold gv; clear hg hb)
  have HB0 := Aside0.mk (below_alloc HB.out (.cells #[.slice A0 g.terms.length c0, .slice A1 g.nons.length c1, .slice A2 g.rules.length c2, .int .i64 g.start] 30 (0, 0)))
  have HG0 := Aside0.mk (HGM.out.below (below_alloc (Below.refl _ _) (.cells #[.slice A0 g.terms.length c0, .slice A1 g.nons.length c1, .slice A2 g.rules.length c2, .int .i64 g.start] 30 (0, 0))))
  have HK0 := Aside0.mk (blk_new w2 (.cells #[.slice A0 g.terms.length c0, .slice A1 g.nons.length c1, .slice A2 g.rules.length c2, .int .i64 g.start] 30 (0, 0)))
  generalize w2.alloc (.cells #[.slice A0 g.terms.length c0, .slice A1 g.nons.length c1, .slice A2 g.rules.length c2, .int .i64 g.start] 30 (0, 0)) = W0 at HB0 HG0 HK0 ⊢
  have KEY : Aside0 (∀ w', Below W0.heap.size W0 w' → w'.cell? ⟨w2.heap.size, 0, none⟩ = some (.slice A0 g.terms.length c0) ∧ w'.cell? ⟨w2.heap.size, 1, none⟩ = some (.slice A1 g.nons.length c1) ∧ w'.cell? ⟨w2.heap.size, 2, none⟩ = some (.slice A2 g.rules.length c2) ∧ w'.cell? ⟨w2.heap.size, 3, none⟩ = some (.int .i64 g.start)) := ⟨fun w' hw => gcells (blk_below HK0.out hw)⟩
  have K1 : Aside0 (∀ w', Below W0.heap.size W0 w' → Calls Tryd.prog 8 #[.int .i64 13] w' fun e w'' => e = .returned (.int .i64 (opS 13)) ∧ w'' = w') := ⟨fun w' hw => posix_Op (HT.out.below (HB0.out.trans (hw.mono HB0.out.size))) 13⟩
  have K2 : Aside0 (∀ w', Below W0.heap.size W0 w' → Calls Tryd.prog 26 #[.agg #[.slice A0 g.terms.length c0, .slice A1 g.nons.length c1, .slice A2 g.rules.length c2, .int .i64 g.start], .int .i64 (opS 13)] w' fun e w'' => e = .returned (.string ⟨#[39, 60, 60, 45, 39]⟩) ∧ Below w'.heap.size w' w'') := ⟨fun w' hw => (gram_Name (HG0.out.below hw) (opS 13)).mono fun e w'' hh => ⟨by rw [← N1.out]; exact hh.1, hh.2⟩⟩
  have K3 : Aside0 (∀ w', Below W0.heap.size W0 w' → Calls Tryd.prog 10 #[.string ⟨#[105, 110]⟩] w' fun e w'' => e = .returned (.int .i64 38) ∧ w'' = w') := ⟨fun w' hw => (posix_Reserved (HR.out.below (HB0.out.trans (hw.mono HB0.out.size))) ⟨#[105, 110]⟩).mono fun e w'' hh => ⟨by rw [← N3.out]; exact hh.1, hh.2⟩⟩
  have K4 : Aside0 (∀ w', Below W0.heap.size W0 w' → Calls Tryd.prog 12 #[.int .i64 23] w' fun e w'' => e = .returned (.string ⟨#[105, 102]⟩) ∧ w'' = w') := ⟨fun w' hw => (posix_Spell (HT.out.below (HB0.out.trans (hw.mono HB0.out.size))) (HR.out.below (HB0.out.trans (hw.mono HB0.out.size))) 23).mono fun e w'' hh => ⟨by rw [← N4.out]; exact hh.1, hh.2⟩⟩
  have K5 : Aside0 (∀ w', Below W0.heap.size W0 w' → Calls Tryd.prog 26 #[.agg #[.slice A0 g.terms.length c0, .slice A1 g.nons.length c1, .slice A2 g.rules.length c2, .int .i64 g.start], .int .i64 g.start] w' fun e w'' => e = .returned (.string ⟨#[117, 110, 105, 116]⟩) ∧ Below w'.heap.size w' w'') := ⟨fun w' hw => (gram_Name (HG0.out.below hw) g.start).mono fun e w'' hh => ⟨by rw [← N2.out]; exact hh.1, hh.2⟩⟩
  refine wp_region_det (vs := [?d1xv0, ?d1xv1, ?d1xv2, ?d1xv3, ?d1xv4, ?d1xv5, ?d1xv6, ?d1xv7, ?d1xv8, ?d1xv9, ?d1xv10, ?d1xv11, ?d1xv12, ?d1xv13, ?d1xv14, ?d1xv15, ?d1xv16, ?d1xv17, ?d1xv18, ?d1xv19]) (fun w' => Below W0.heap.size W0 w') rfl (by kernel_rfl) (putAll_put (by simp only [Act.put, List.setIfInBounds_toArray, List.set_cons_zero, List.set_cons_succ]; rfl) (putAll_put (by simp only [Act.put, List.setIfInBounds_toArray, List.set_cons_zero, List.set_cons_succ]; rfl) (putAll_put (by simp only [Act.put, List.setIfInBounds_toArray, List.set_cons_zero, List.set_cons_succ]; rfl) (putAll_put (by simp only [Act.put, List.setIfInBounds_toArray, List.set_cons_zero, List.set_cons_succ]; rfl) (putAll_put (by simp only [Act.put, List.setIfInBounds_toArray, List.set_cons_zero, List.set_cons_succ]; rfl) (putAll_put (by simp only [Act.put, List.setIfInBounds_toArray, List.set_cons_zero, List.set_cons_succ]; rfl) (putAll_put (by simp only [Act.put, List.setIfInBounds_toArray, List.set_cons_zero, List.set_cons_succ]; rfl) (putAll_put (by simp only [Act.put, List.setIfInBounds_toArray, List.set_cons_zero, List.set_cons_succ]; rfl) (putAll_put (by simp only [Act.put, List.setIfInBounds_toArray, List.set_cons_zero, List.set_cons_succ]; rfl) (putAll_put (by simp only [Act.put, List.setIfInBounds_toArray, List.set_cons_zero, List.set_cons_succ]; rfl) (putAll_put (by simp only [Act.put, List.setIfInBounds_toArray, List.set_cons_zero, List.set_cons_succ]; rfl) (putAll_put (by simp only [Act.put, List.setIfInBounds_toArray, List.set_cons_zero, List.set_cons_succ]; rfl) (putAll_put (by simp only [Act.put, List.setIfInBounds_toArray, List.set_cons_zero, List.set_cons_succ]; rfl) (putAll_put (by simp only [Act.put, List.setIfInBounds_toArray, List.set_cons_zero, List.set_cons_succ]; rfl) (putAll_put (by simp only [Act.put, List.setIfInBounds_toArray, List.set_cons_zero, List.set_cons_succ]; rfl) (putAll_put (by simp only [Act.put, List.setIfInBounds_toArray, List.set_cons_zero, List.set_cons_succ]; rfl) (putAll_put (by simp only [Act.put, List.setIfInBounds_toArray, List.set_cons_zero, List.set_cons_succ]; rfl) (putAll_put (by simp only [Act.put, List.setIfInBounds_toArray, List.set_cons_zero, List.set_cons_succ]; rfl) (putAll_put (by simp only [Act.put, List.setIfInBounds_toArray, List.set_cons_zero, List.set_cons_succ]; rfl) (putAll_put (by simp only [Act.put, List.setIfInBounds_toArray, List.set_cons_zero, List.set_cons_succ]; rfl) (putAll_nil _))))))))))))))))))))) (below_drew (Below.refl _ _)) ?d1xOps ?d1xFin
  case d1xOps =>
    refine ⟨fun w' hw => ?d1xo0, fun w' hw => ?d1xo1, fun w' hw => ?d1xo2, fun w' hw => ?d1xo3, fun w' hw => ?d1xo4, fun w' hw => ?d1xo5, fun w' hw => ?d1xo6, fun w' hw => ?d1xo7, fun w' hw => ?d1xo8, fun w' hw => ?d1xo9, fun w' hw => ?d1xo10, fun w' hw => ?d1xo11, fun w' hw => ?d1xo12, fun w' hw => ?d1xo13, fun w' hw => ?d1xo14, fun w' hw => ?d1xo15, fun w' hw => ?d1xo16, fun w' hw => ?d1xo17, fun w' hw => ?d1xo18, fun w' hw => ?d1xo19, trivial⟩
    case d1xo0 => obtain ⟨f0, f1, f2, f3⟩ := KEY.out w' hw; go_simp; rfl
    case d1xo1 => obtain ⟨f0, f1, f2, f3⟩ := KEY.out w' hw; (go_simp; refine (K1.out w' hw).mono ?_; rintro e w3 ⟨rfl, rfl⟩; exact ⟨by rfl, hw⟩)
    case d1xo2 => obtain ⟨f0, f1, f2, f3⟩ := KEY.out w' hw; (go_simp; refine (K2.out w' hw).mono ?_; rintro e w3 ⟨rfl, hb2⟩; exact ⟨by rfl, hw.trans (hb2.mono hw.size)⟩)
    case d1xo3 => obtain ⟨f0, f1, f2, f3⟩ := KEY.out w' hw; go_simp; rfl
    case d1xo4 => obtain ⟨f0, f1, f2, f3⟩ := KEY.out w' hw; go_simp; rfl
    case d1xo5 => obtain ⟨f0, f1, f2, f3⟩ := KEY.out w' hw; (go_simp; refine (K3.out w' hw).mono ?_; rintro e w3 ⟨rfl, rfl⟩; exact ⟨by rfl, hw⟩)
    case d1xo6 => obtain ⟨f0, f1, f2, f3⟩ := KEY.out w' hw; go_simp; rfl
    case d1xo7 => obtain ⟨f0, f1, f2, f3⟩ := KEY.out w' hw; go_simp; rfl
    case d1xo8 => obtain ⟨f0, f1, f2, f3⟩ := KEY.out w' hw; go_simp; rfl
    case d1xo9 => obtain ⟨f0, f1, f2, f3⟩ := KEY.out w' hw; (go_simp; refine (K4.out w' hw).mono ?_; rintro e w3 ⟨rfl, rfl⟩; exact ⟨by rfl, hw⟩)
    case d1xo10 => obtain ⟨f0, f1, f2, f3⟩ := KEY.out w' hw; go_simp; rfl
    case d1xo11 => obtain ⟨f0, f1, f2, f3⟩ := KEY.out w' hw; go_simp; rfl
    case d1xo12 => obtain ⟨f0, f1, f2, f3⟩ := KEY.out w' hw; go_simp; rfl
    case d1xo13 => obtain ⟨f0, f1, f2, f3⟩ := KEY.out w' hw; go_simp; rfl
    case d1xo14 => obtain ⟨f0, f1, f2, f3⟩ := KEY.out w' hw; go_simp; rfl
    case d1xo15 => obtain ⟨f0, f1, f2, f3⟩ := KEY.out w' hw; go_simp; rfl
    case d1xo16 => obtain ⟨f0, f1, f2, f3⟩ := KEY.out w' hw; (go_simp; refine (K5.out w' hw).mono ?_; rintro e w3 ⟨rfl, hb2⟩; exact ⟨by rfl, hw.trans (hb2.mono hw.size)⟩)
    case d1xo17 => obtain ⟨f0, f1, f2, f3⟩ := KEY.out w' hw; go_simp; rfl
    case d1xo18 => obtain ⟨f0, f1, f2, f3⟩ := KEY.out w' hw; go_simp; rfl
    case d1xo19 => obtain ⟨f0, f1, f2, f3⟩ := KEY.out w' hw; go_simp; rfl
  case d1xFin =>
    intro w3 hw3
    go_wp2
    go_ret
    exact ⟨rfl, HB0.out.trans (hw3.mono HB0.out.size)⟩
end Go.Proofs.YtliofoikejdjeaaDoor
/- PosixTells, walked. -/
namespace Go.Proofs.YtliofoikejdjeaaDoor
open Go.RowKit Go.Proofs.YtliofoikejdjeaaDoorW.PrintWords
set_option linter.unusedVariables false
set_option linter.unusedSimpArgs false
set_option maxHeartbeats 4000000 in
theorem law30_PosixTells {w : World} (hm : MxAt w) (ht : TextsAt w) (hr : WordsAt w) (op : Int) (s : ByteArray) (t : Int) :
    Calls Tryd.prog 3 #[.int .i64 op, .string s, .int .i64 t] w fun e w' => e = .returned (.bool true) ∧ Below w.heap.size w w' := by
  have HM := Aside0.mk hm
  have HT := Aside0.mk ht
  have HR := Aside0.mk hr
  have K0 : Aside0 (∀ w', Below w.heap.size w w' → Calls Tryd.prog 7 #[] w' fun e w'' => e = .returned (.bool true) ∧ Below w'.heap.size w' w'') := ⟨fun w' hw => law30_awake (HM.out.below hw) (HT.out.below hw) (HR.out.below hw)⟩
  have K1 := Aside0.mk (posix_Op ht op)
  have K2 := Aside0.mk (ref30_Op op w)
  have K3 := Aside0.mk (posix_Reserved hr s)
  have K4 := Aside0.mk (ref30_Reserved s w)
  have K5 : Aside0 (∀ w', Below w.heap.size w w' → Calls Tryd.prog 12 #[.int .i64 t] w' fun e w'' => e = .returned (.string (spellS t)) ∧ w'' = w') := ⟨fun w' hw => posix_Spell (HT.out.below hw) (HR.out.below hw) t⟩
  have K6 : Aside0 (∀ w', Below w.heap.size w w' → Calls Tryd.prog 13 #[.int .i64 t] w' fun e w'' => e = .returned (.string (spellS t)) ∧ Below w'.heap.size w' w'') := ⟨fun w' hw => ref30_Spell t w'⟩
  generalize opS op = q at K1 K2
  generalize resS s = r at K3 K4
  generalize spellS t = u at K5 K6
  clear hm ht hr
  by_cases h1 : (1000 : Int) < (s.size : Int)
  · go_enter Tryd.func3, Tryd.ntmps3
    go_wp2_with (go_at_call 7; refine (K0.out _ (Below.refl _ _)).mono ?_; rintro e w2 ⟨rfl, hb⟩)
    go_ret
    exact ⟨rfl, hb⟩
  · go_enter Tryd.func3, Tryd.ntmps3
    go_wp2_with (first
      | (go_at_call 8; refine K1.out.mono ?_; rintro e w' ⟨rfl, rfl⟩)
      | (go_at_call 9; refine K2.out.mono ?_; rintro e w' ⟨rfl, rfl⟩)
      | (go_at_call 10; refine K3.out.mono ?_; rintro e w' ⟨rfl, rfl⟩)
      | (go_at_call 11; refine K4.out.mono ?_; rintro e w1 ⟨rfl, hb1⟩; have HB1 := Aside0.mk hb1; clear hb1)
      | (go_at_call 12; refine (K5.out _ HB1.out).mono ?_; rintro e w' ⟨rfl, rfl⟩)
      | (go_at_call 13; refine (K6.out _ HB1.out).mono ?_; rintro e w2 ⟨rfl, hb2⟩; have HB2 := Aside0.mk (HB1.out.trans (hb2.mono HB1.out.size)); clear hb2)
      | (go_at_call 7; refine (K0.out _ HB2.out).mono ?_; rintro e w3 ⟨rfl, hb3⟩; have HB3 := Aside0.mk (HB2.out.trans (hb3.mono HB2.out.size)); clear hb3))
    go_ret
    exact ⟨rfl, HB3.out⟩
end Go.Proofs.YtliofoikejdjeaaDoor
namespace Go.Proofs.YtliofoikejdjeaaDoor
open Go.RowKit Go.Proofs.YtliofoikejdjeaaDoorW.PrintWords Go.ChangeShapes Go.WideShapes Go.ChangeAt
open Go.ChangeMaps (open_string)
set_option linter.unusedVariables false
set_option linter.unusedSimpArgs false
set_option maxRecDepth 1000000 in
set_option maxHeartbeats 4000000 in
theorem posixTells_lifted (os : Os) (started : os.Started) (H : Type) (enc : TypeId × Value → H) :
    ReturnsInHanded {} Tryd.checked os 3 .any (fun w args => (Rows.posixTellsSpec.pre enc Tryd.prog Tryd.f3 [] false w args ∧ laidMetH Tryd.prog layPosix w) ∧ sizedMet enc Tryd.prog Tryd.f3 (OpenSpec.ofChange Rows.posixTellsSpec) false w args)
      (Rows.posixTellsSpec.post enc Tryd.prog Tryd.f3 false true false false) := by
  refine returns_laid_shaped (C := Tryd.checked) (X := fun w _ => laidMetH Tryd.prog layPosix w) (fun _ _ _ hh h => h.of_heap hh) own started (by kernel_rfl) Tryd.func3
    (ChangeSpec.witness_shaped (enc := enc) (C := Tryd.checked) (os := os) (X := fun w _ => laidMetH Tryd.prog layPosix w) false (World.doorLaid Tryd.prog 400 os) #[.int .i64 0, .string ⟨#[]⟩, .int .i64 0] 8 rfl (World.shaped_of_RefB (by kernel_rfl) (by kernel_rfl)) (by kernel_rfl) (by kernel_rfl) (by kernel_rfl) (posix_door os _)) ?_
  intro W base args ds gs before hval0 hW _ _ hL hsh
  have hval : ∀ (j : Nat) t v, Tryd.f3.params[j]? = some t → args[j]? = some v → Value.okWide Tryd.prog W .any base t v := hval0
  have hW' := hW
  obtain ⟨p, q, hA0, hV0, rfl, hfz, hnd⟩ := hW
  have hA : DataW.TrodAll enc Tryd.prog W 0 (fun _ => true) true Tryd.f3.params.toList args.toList ds p := hA0
  rw [Tryd.params3] at hA hval
  obtain ⟨v0, vs0, d0, ds0, p0, q0, hargs, rfl, rfl, h0, r0⟩ := trodAll_cons hA
  obtain ⟨v1, vs1, d1, ds1, p1, q1, rfl, rfl, rfl, h1, r1⟩ := trodAll_cons r0
  obtain ⟨v2, vs2, d2, ds2, p2, q2, rfl, rfl, rfl, h2, r2⟩ := trodAll_cons r1
  obtain ⟨rfl, rfl, rfl⟩ := trodAll_nil r2
  obtain rfl : args = #[v0, v1, v2] := by cases args; simp_all
  obtain ⟨rfl, rfl⟩ := trodVars_none hV0
  have k0 := h0
  have k1 := h1
  have k2 := h2
  have lt0 : ∀ x ∈ p0, x.block < W.heap.size := by obtain ⟨m, hm⟩ := k0; exact DataW.trod_lt m _ _ _ hm
  have lt1 : ∀ x ∈ p1, x.block < W.heap.size := by obtain ⟨m, hm⟩ := k1; exact DataW.trod_lt m _ _ _ hm
  have lt2 : ∀ x ∈ p2, x.block < W.heap.size := by obtain ⟨m, hm⟩ := k2; exact DataW.trod_lt m _ _ _ hm
  obtain ⟨a0, rfl, rfl, rfl, wa0⟩ := open_int Tryd.underlying3 (hval 0 3 v0 rfl rfl) h0
  obtain ⟨a1, rfl, rfl, rfl, wa1⟩ := open_string Tryd.underlying9 (hval 1 9 v1 rfl rfl) h1
  obtain ⟨a2, rfl, rfl, rfl, wa2⟩ := open_int Tryd.underlying3 (hval 2 3 v2 rfl rfl) h2
  have hmx := mxAt_of_shaped hsh
  have hlaid := posix_of_laid hL
  have hc : Calls Tryd.prog 3 #[.int .i64 a0, .string a1, .int .i64 a2] W fun ev W' => ev = .returned (.bool true) ∧ Below W.heap.size W W' := by
    exact law30_PosixTells hmx hlaid.1 hlaid.2 a0 a1 a2
  refine hc.mono fun ev W' ⟨he, bel⟩ => ?_
  subst he
  exact ⟨_, rfl, _, _, _, [], _, [], hW', trodAll_mk1 (shut_bool Tryd.underlying4 _), (trodAll_cons_mk (Below.trod laidOut (by kernel_rfl) (of_decide_eq_true (by kernel_rfl)) k0 bel lt0) (trodAll_cons_mk (Below.trod laidOut (by kernel_rfl) (of_decide_eq_true (by kernel_rfl)) k1 bel lt1) (trodAll_cons_mk (Below.trod laidOut (by kernel_rfl) (of_decide_eq_true (by kernel_rfl)) k2 bel lt2) (trodAll_mk0)))), rfl, bel.frame _, fun h => by cases h⟩
set_option maxRecDepth 1000000 in
theorem posixTells_said : Rows.PosixTellsSaid :=
  OpenClaim.holds_of_wide 3 Tryd.f3 rfl rfl rfl rfl rfl rfl rfl ⟨rfl, rfl, rfl, rfl, rfl⟩ rfl rfl rfl rfl rfl (by kernel_rfl) Tryd.func3 (by kernel_rfl)
    (of_decide_eq_true (by kernel_rfl)) (by unfold Func.isWrapper; first | (rw [if_pos (by decide +kernel)]; kernel_rfl) | (rw [if_neg (by decide +kernel)]; exact ⟨rfl, rfl⟩))
    (fun os started H enc _ => posixTells_lifted os started H enc)
theorem posixTells_card : Rows.PosixTellsCardSaid :=
  Claim7.holds_tied_plain_at .later [] [.data, .data] true (true, "0083dff0956b659dfa93ea8de3bcb10c9b51277814c94123ec1bf2224cc2d2c7") true
    posixTells_said (fun _ h => by cases h) (by kernel_rfl) (fun _ h => by cases h) posixTells_row_tie rfl ⟨rfl, rfl⟩ (by kernel_rfl) rfl
    (fun f fn hf hfn => by
      obtain rfl : f = 3 := Option.some.inj ((show Tryd.prog.funcNamed "conch/conchlaw30.PosixTells" = some 3 by kernel_rfl).symm.trans hf) |>.symm
      obtain rfl : fn = Tryd.f3 := (Option.some.inj (Tryd.func3.symm.trans hfn)).symm
      exact ⟨by kernel_rfl, fun j t ht => by
        rw [Tryd.params3] at ht
        have hm : t ∈ [3, 9, 3] := by simpa using Array.mem_of_getElem? ht
        have hall : ([3, 9, 3].all fun u => !Tryd.prog.wantsStandIn u) = true := by kernel_rfl
        exact (show Tryd.prog.wantsStandIn t = false by simpa using List.all_eq_true.1 hall t hm)⟩)
    (by kernel_rfl)
#print axioms posixTells_card
end Go.Proofs.YtliofoikejdjeaaDoor
