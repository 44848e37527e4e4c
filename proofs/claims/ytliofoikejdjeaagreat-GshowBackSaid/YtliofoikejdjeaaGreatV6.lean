/- Texts laid one behind the other: R2, R3, R4, R5, R6. -/
import Derived.Test.YtliofoikejdjeaaGreatV5
import Derived.Test.YtliofoikejdjeaaGreatWTab
import Derived.Test.YtliofoikejdjeaaGreatV1
/- gread's reader: a right side. -/
namespace Go.Proofs.YtliofoikejdjeaaGreat
open Go.RowKit Go.Proofs.YtliofoikejdjeaaGreatW.PrintWords Go.Proofs.YtliofoikejdjeaaGreatW.PrintLast
set_option linter.unusedVariables false
set_option linter.unusedSimpArgs false
theorem BelowBut.grown {b : Nat} {w W w1 : World} {row : Option Nat} (h : BelowBut b w W) (hg : W.grownBy w1 row) (hr : ∀ k, row = some k → w.heap.size ≤ k) : BelowBut b w w1 :=
  ⟨hg.os.trans h.os, hg.tape.trans h.tape, hg.output.trans h.output, Nat.le_trans h.size hg.size, fun k hk hb => (hg.block k (Nat.lt_of_lt_of_le hk h.size) (fun e => by have := hr k e.symm; omega)).trans (h.block k hk hb)⟩
theorem grown_none {W w1 : World} (hg : W.grownBy w1 none) : Below W.heap.size W w1 := Below.grown (Below.refl _ _) hg (Nat.le_refl _) (fun k hk => by cases hk)
theorem RL.grown {α : Type} {d : Kd α} {e base : Nat} {ok : Nat → Prop} {v : Value} {xs : List α} {W0 w w1 : World} {b : Nat} {l : List Tk} {v1 v2 v3 v4 v5 : Value} (h : RL W0 w b l v1 v2 v3 v4 v5) (ho : d.R e w base ok v xs) (hbase : W0.heap.size ≤ base) (hg : w.grownBy w1 v.ownBlock) (he : e ≠ 62) : RL W0 w1 b l v1 v2 v3 v4 v5 := by
  obtain ⟨ad, c, hk, hc, hC⟩ := h.cells
  exact ⟨Below.grown h.below hg h.below.size (fun k hk => Nat.le_trans hbase (Kd.R_base ho k hk)), h.hb, ⟨ad, c, blk_grown hk hg (Kd.R_ne ho hk he), hc, hC⟩, h.pos⟩
theorem RL.lt {W0 w : World} {b : Nat} {l : List Tk} {v1 v2 v3 v4 v5 : Value} (h : RL W0 w b l v1 v2 v3 v4 v5) : b < w.heap.size := by
  obtain ⟨ad, c, hk, _⟩ := h.cells
  exact blk_lt hk
def TEnd (l : List Tk) : Prop := ∃ l0 t, l = l0 ++ [t] ∧ t.k = 0
theorem TEnd.hd {l : List Tk} (h : TEnd l) (hs : (hd l).k ≠ 0) : ∃ x r, l = x :: r ∧ 0 < r.length ∧ TEnd r := by
  cases l with
  | nil => obtain ⟨l0, t, e, _⟩ := h; simp at e
  | cons x r => exact ⟨x, r, rfl, (tend_two h hs).1, (tend_two h hs).2⟩
theorem TEnd.drop {l : List Tk} (h : TEnd l) : TEnd (l.dropWhile symB) := by
  obtain ⟨l0, t, rfl, ht⟩ := h
  have hns : symB t = false := by simp [symB, ht]
  induction l0 with
  | nil => exact ⟨[], t, by simp [List.dropWhile, hns], ht⟩
  | cons y r ih =>
    rw [List.cons_append, List.dropWhile_cons]
    by_cases hy : symB y = true
    · rw [if_pos hy]; exact ih
    · rw [if_neg hy]; exact ⟨y :: r, t, rfl, ht⟩
theorem while_parts {p : Tk → Bool} {l1 l2 : List Tk} (h1 : ∀ x ∈ l1, p x = true) (h2 : p (hd l2) = false) : (l1 ++ l2).takeWhile p = l1 ∧ ((l1 ++ l2).dropWhile p = l2 ∨ l2 = []) := by
  induction l1 with
  | nil =>
    cases l2 with
    | nil => exact ⟨rfl, .inr rfl⟩
    | cons y r =>
      have : p y = false := h2
      exact ⟨by simp [List.takeWhile, this], .inl (by simp [List.dropWhile, this])⟩
  | cons x r ih =>
    have hx := h1 x List.mem_cons_self
    obtain ⟨e1, e2⟩ := ih (fun y hy => h1 y (List.mem_cons_of_mem _ hy))
    exact ⟨by rw [List.cons_append, List.takeWhile_cons, if_pos hx, e1], e2.imp_left fun e => by rw [List.cons_append, List.dropWhile_cons, if_pos hx, e]⟩
theorem symB_ne {t : Tk} (h : symB t = true) : t.k ≠ 0 := by
  intro e
  simp [symB, e] at h
def rdSideT : Bool × List (List Nat × List Nat) := (true, [([], []), ([0], [0]), ([], []), ([2], [2]), ([3], [3]), ([1, 4, 3], [1, 4]), ([0, 1, 2, 3, 4, 5], []), ([6, 5, 5, 0, 1, 2, 3, 4, 5], [5, 6])])
def rdSideB : List Nat := [0, 1, 0, 4, 12, 31, 63, 127]
theorem rdSideTab : rtab .any (opsOf Tryz.f96 3) = rdSideT := by kernel_rfl
theorem rdSideBits : waitsOk rdSideT.2 rdSideB = true := by kernel_rfl
set_option maxHeartbeats 4000000 in
set_option maxRecDepth 100000 in
theorem rd_side {W0 w : World} {b : Nat} {l : List Tk} {v1 v2 v3 v4 v5 : Value} (h : RL W0 w b l v1 v2 v3 v4 v5) (ht : TEnd l) (hm : l.length ≤ 100000) :
    Calls Tryz.prog 96 #[.pointer (some ⟨b, 0, none⟩)] w fun e w' => ∃ As cs, e = .returned (.agg #[.slice As (l.takeWhile symB).length cs, .int .i64 (hd l).at_]) ∧ Kd.R kTk 85 w' w.heap.size (fun k => k ≠ b) (.slice As (l.takeWhile symB).length cs) (l.takeWhile symB) ∧ RL W0 w' b (l.dropWhile symB) v1 v2 v3 v4 v5 ∧ BelowBut b w w' := by
  obtain ⟨ad, c, c0, hc, k0, k1, k2⟩ := h.head
  have HH := Aside0.mk h
  have HT := Aside0.mk ht
  have hp := h.pos
  have hlt := h.lt
  have hlt2 := World.block_lt_of_cell? _ _ k0
  have HW : W0.heap.size ≤ w.heap.size := h.below.size
  obtain ⟨p, hpe⟩ : ∃ p, (hd l).at_ = p := ⟨_, rfl⟩
  rw [hpe] at k2 ⊢
  clear h ht hpe
  go_enter Tryz.func96, Tryz.ntmps96
  go_wp2
  have q1 := blk_alloc (blk_new w (.cells #[.slice none 0 0, .int .i64 0] 96)) (.cells #[.slice none 0 0, .int .i64 p] 96)
  have q2 := blk_new (w.alloc (.cells #[.slice none 0 0, .int .i64 0] 96)) (.cells #[.slice none 0 0, .int .i64 p] 96)
  rw [show (w.alloc (.cells #[.slice none 0 0, .int .i64 0] 96)).heap.size = w.heap.size + 1 from by simp] at q2
  have q3 := (HH.out.alloc (.cells #[.slice none 0 0, .int .i64 0] 96)).alloc (.cells #[.slice none 0 0, .int .i64 p] 96)
  have q4 := ((BelowBut.refl b w).alloc (.cells #[.slice none 0 0, .int .i64 0] 96)).alloc (.cells #[.slice none 0 0, .int .i64 p] 96)
  obtain ⟨sB, hsB⟩ : ∃ y, y = w.heap.size + 1 := ⟨_, rfl⟩
  rw [← hsB] at q2 ⊢
  have hsb : sB ≠ b := by omega
  have hrb : w.heap.size ≠ b := by omega
  have hsr : w.heap.size ≠ sB := by omega
  have hsw : w.heap.size ≤ sB := by omega
  have hrw := Nat.le_refl w.heap.size
  clear k0 k1 k2 c0 hlt hlt2 hc hsB
  go_loopg [13] l.length (fun gg v13 wr => ∃ (l1 l2 : List Tk) (As : Option Addr) (cs : Nat), l1.length + l2.length = l.length ∧ l2.length ≤ gg ∧ Aside0 (l = l1 ++ l2 ∧ ∀ x ∈ l1, symB x = true) ∧ Aside0 (RL W0 wr b l2 v1 v2 v3 v4 v5) ∧ Aside0 (TEnd l2) ∧ Aside0 (wr.heap[sB]? = some (.cells #[.slice As l1.length cs, .int .i64 p] 96 (0, 0))) ∧ Aside0 (wr.heap[w.heap.size]? = some (.cells #[.slice none 0 0, .int .i64 0] 96 (0, 0))) ∧ Aside0 (Kd.R kTk 85 wr w.heap.size (fun k => k ≠ b) (.slice As l1.length cs) l1) ∧ Aside0 (BelowBut b w wr))
  case atStart => exact ⟨[], l, none, 0, by simp, Nat.le_refl _, ⟨rfl, fun x hx => by cases hx⟩, ⟨q3⟩, HT, ⟨q2⟩, ⟨q1⟩, ⟨Kd.R_nil _ _ _ _ _⟩, ⟨q4⟩⟩
  case round =>
    clear q1 q2 q3 q4
    obtain ⟨l1, l2, As, cs, hlen, hgg, HL, HRL, HT2, BK, BR, HO, HB⟩ := hrel
    have hsym := rd_symbol HRL.out
    cases hq : symB (hd l2) with
    | true =>
      obtain ⟨x, l3, e2, hl3, ht3⟩ := HT2.out.hd (symB_ne hq)
      subst e2
      have HQ := Aside0.mk hq
      have HT3 := Aside0.mk ht3
      rw [hq] at hsym
      simp only [List.length_cons] at hlen hgg
      clear hq ht3
      go_wp2_with (go_at_call 93; refine hsym.mono ?_; rintro e w' ⟨rfl, rfl⟩)
      have n1_ := Aside0.mk (blk_drew BK.out)
      have n2_ := Aside0.mk (blk_drew BR.out)
      have n3_ := Aside0.mk (Kd.R_drew HO.out)
      have n4_ := Aside0.mk HB.out.drew
      have n5_ := Aside0.mk (HRL.out.later (below_drew (Below.refl _ _)))
      clear BK BR HO HB HRL hsym
      have BK := n1_
      have BR := n2_
      have HO := n3_
      have HB := n4_
      have HRL := n5_
      clear n1_ n2_ n3_ n4_ n5_
      refine start_ (n := 8) (S := fun w' => w'.cell? ⟨sB, 0, none⟩ = some (.slice As l1.length cs)) (ds := [7]) #[false, false, false, false, false, false, false, false] (by kernel_rfl) rfl rfl ((blk_cell BK.out 0).trans rfl) (fun hHeld => ?_)
      refine with_tabW rdSideTab rdSideBits (fun HT_ HW_ => ?_)
      generalize World.drew _ = w5 at HRL BK BR HO HB hHeld ⊢
      refine pure_ (i := 0) (N := (some 14)) (v := ?_) (a' := ?_) #[true, false, false, false, false, false, false, false] rfl rfl (any_of HT_.out (by kernel_rfl)) (fun _ _ _ h => h) (Or.inl ⟨by rfl, ?_⟩) ?_ ?_
      rotate_left
      · intro w'
        go_simp
        with_reducible rfl
      rotate_left
      · simp only [Act.put, List.setIfInBounds_toArray, List.set_cons_zero, List.set_cons_succ, i64_w, i32_w]
        rfl
      refine take_ (i := 1) (N := (some 15)) (v := ?_) (a' := ?_) #[true, true, false, false, false, false, false, false] rfl rfl (take_ofW HT_.out HW_.out (by kernel_rfl)) (fun _ _ _ h => h) (Or.inl ⟨by rfl, ?_⟩) hHeld ?_ ?_
      rotate_left
      · rintro w' s0
        go_simp
        with_reducible rfl
      rotate_left
      · simp only [Act.put, List.setIfInBounds_toArray, List.set_cons_zero, List.set_cons_succ, i64_w, i32_w]
        rfl
      refine pure_ (i := 2) (N := (some 16)) (v := ?_) (a' := ?_) #[true, true, true, false, false, false, false, false] rfl rfl (any_of HT_.out (by kernel_rfl)) (fun _ _ _ h => h) (Or.inl ⟨by rfl, ?_⟩) ?_ ?_
      rotate_left
      · intro w'
        go_simp
        with_reducible rfl
      rotate_left
      · simp only [Act.put, List.setIfInBounds_toArray, List.set_cons_zero, List.set_cons_succ, i64_w, i32_w]
        rfl
      refine one_ (i := 3) (N := (some 17)) #[true, true, true, true, false, false, false, false] rfl rfl (one_of HT_.out (by kernel_rfl)) (by decide) (fun K hK => ?_)
      refine goes_ Tryz.func61 (by kernel_rfl) rfl #[.pointer (some ⟨b, 0, none⟩)] (by rfl) rfl rfl (by first | rfl | (simp [Act.eval]; done) | (simp [Act.eval]; rfl)) ?_
      refine (rd_take HRL.out hl3).mono ?_
      rintro e w6 ⟨rfl, h6, hb6⟩
      refine ⟨_, rfl, ?_⟩
      have n1_ := Aside0.mk ((hb6.block sB (blk_lt BK.out) hsb).trans BK.out)
      have n2_ := Aside0.mk ((hb6.block w.heap.size (blk_lt BR.out) hrb).trans BR.out)
      have n3_ := Aside0.mk (Kd.R_step HO.out (fun k hk hlt => hb6.block k hlt hk))
      have n4_ := Aside0.mk (HB.out.trans hb6)
      have n5_ := Aside0.mk h6
      clear HRL BK BR HO HB h6 hb6
      have BK := n1_
      have BR := n2_
      have HO := n3_
      have HB := n4_
      have HRL := n5_
      clear n1_ n2_ n3_ n4_ n5_
      unfold tkV
      refine hK.out _ _ ((blk_cell BK.out 0).trans rfl) (fun hHeld => ?_)
      clear hK K
      refine norm_ (a' := ?_) ?_ ?_
      rotate_left
      · show Act.put _ (some 17) _ = _
        simp only [Act.put, List.setIfInBounds_toArray, List.set_cons_zero, List.set_cons_succ, i64_w, i32_w]
        rfl
      refine one_ (i := 4) (N := (some 18)) #[true, true, true, true, true, false, false, false] rfl rfl (one_of HT_.out (by kernel_rfl)) (by decide) (fun K hK => ?_)
      refine Kd.R_lit_step kTk (w0 := w6) w6.heap.size 85 ?hg (N := 18) ?hd (xs := [x]) (inner := [.int .i64 x.k, .string x.s, .int .i64 x.at_]) (ok := fun _ => True) (okp := fun _ => True) ?hr ?hp (fun _ hk => hk) trivial (Below.refl _ _) (Nat.le_refl _) (by simp) ?_; (case hd => rfl); (case hg => rfl); (case hr => first | (go_simp; done) | (go_simp; rfl)); (case hp => exact (Reps.snoc (Reps.none _ _) (kTk_M x) rfl))
      intro v18 w7 ho hb hg hnew
      obtain ⟨A8, c8, e8, l8, C8⟩ := Kd.R_reads ho
      subst e8
      have n1_ := Aside0.mk (blk_grown BK.out hg (by simp))
      have n2_ := Aside0.mk (blk_grown BR.out hg (by simp))
      have n3_ := Aside0.mk (Kd.R_grown HO.out hg (fun _ _ => by simp))
      have n4_ := Aside0.mk (HB.out.trans (.of (grown_none hg)))
      have n5_ := Aside0.mk (HRL.out.later (grown_none hg))
      have HX := Aside0.mk C8
      clear HRL BK BR HO HB ho hb hg hnew C8 l8
      have BK := n1_
      have BR := n2_
      have HO := n3_
      have HB := n4_
      have HRL := n5_
      clear n1_ n2_ n3_ n4_ n5_
      refine hK.out _ _ ((blk_cell BK.out 0).trans rfl) (fun hHeld => ?_)
      clear hK K
      refine norm_ (a' := ?_) ?_ ?_
      rotate_left
      · show Act.put _ (some 18) _ = _
        simp only [Act.put, List.setIfInBounds_toArray, List.set_cons_zero, List.set_cons_succ, i64_w, i32_w]
        rfl
      refine one_ (i := 5) (N := (some 19)) #[true, true, true, true, true, true, false, false] rfl rfl (one_of HT_.out (by kernel_rfl)) (by decide) (fun K hK => ?_)
      refine Kd.R_append_rows_step kTk (w0 := w7) w.heap.size (by rfl) (.tmp 15) (.tmp 18) 52 85 (.agg #[.int .i64 0, .string ⟨#[]⟩, .int .i64 0]) 32 rfl Tryz.underlying52 infoTok rfl (by decide) (by omega) (.slice As l1.length cs) l1 [x] _ _ _ (fun k => k ≠ b) (fun _ => False) rfl rfl HO.out HX.out (fun p cs hp => (show cs = _ from kTk_open hp) ▸ kTk_M p) (fun _ h => h.elim) (fun k hk he => by have := HRL.out.lt; omega) (Below.refl _ _) HB.out.size ?aL ?_
      case aL => simp only [List.length_cons, List.length_nil]; omega
      intro v19 w8 ho hb hg hat
      have hr_ : ∀ k, (Value.slice As l1.length cs).ownBlock = some k → w.heap.size ≤ k := fun k hk => Kd.R_base HO.out k hk
      have n1_ := Aside0.mk (blk_grown BK.out hg (Kd.R_ne HO.out BK.out (by decide)))
      have n2_ := Aside0.mk (blk_grown BR.out hg (Kd.R_ne HO.out BR.out (by decide)))
      have n4_ := Aside0.mk (HB.out.grown hg hr_)
      have n5_ := Aside0.mk (HRL.out.grown HO.out HW hg (by decide))
      obtain ⟨A9, c9, e9, l9, C9⟩ := Kd.R_reads ho
      obtain rfl : v19 = .slice A9 (l1 ++ [x]).length c9 := e9
      clear HRL BK BR HO HB HX hb hg hat hr_ l9 C9
      have BK := n1_
      have BR := n2_
      have HO := Aside0.mk ho
      have HB := n4_
      have HRL := n5_
      clear n1_ n2_ n4_ n5_ ho
      refine hK.out _ _ ((blk_cell BK.out 0).trans rfl) (fun hHeld => ?_)
      clear hK K
      refine norm_ (a' := ?_) ?_ ?_
      rotate_left
      · show Act.put _ (some 19) _ = _
        simp only [Act.put, List.setIfInBounds_toArray, List.set_cons_zero, List.set_cons_succ, i64_w, i32_w]
        rfl
      refine pure_ (i := 6) (N := (some 20)) (v := ?_) (a' := ?_) #[true, true, true, true, true, true, true, false] rfl rfl (any_of HT_.out (by kernel_rfl)) (fun _ _ _ h => h) (Or.inl ⟨by rfl, ?_⟩) ?_ ?_
      rotate_left
      · intro w'
        go_simp
        with_reducible rfl
      rotate_left
      · simp only [Act.put, List.setIfInBounds_toArray, List.set_cons_zero, List.set_cons_succ, i64_w, i32_w]
        rfl
      refine last_ (i := 7) (N := none) #[true, true, true, true, true, true, true, true] rfl rfl (one_of HT_.out (by kernel_rfl)) (by decide) (fun K hK => ?_)
      have f0 := (blk_cell BK.out 0).trans rfl
      have f1 := blk_frozen BK.out 0
      refine skip_ (by rfl) rfl (w1 := w8.setCell ⟨sB, 0, none⟩ (.slice A9 (l1 ++ [x]).length c9)) ?hrun ?_; (case hrun => first | (go_simp; done) | (go_simp; rfl))
      refine hK.out _ _ ?_
      clear hK K
      refine done_ (done_of HT_.out (by kernel_rfl)) ?_
      go_wp2
      go_roundg l3.length
      case measure => omega
      case rel =>
        refine ⟨l1 ++ [x], l3, A9, c9, by rw [List.length_append]; simp only [List.length_cons, List.length_nil]; omega, Nat.le_refl _, ⟨by rw [HL.out.1]; simp, fun y hy => ?_⟩, ⟨HRL.out.setOther hsb (Nat.le_trans HW hsw) 0 _⟩, HT3, ⟨?_⟩, ⟨blk_far (p := ⟨sB, 0, none⟩) BR.out hsr _⟩, ⟨Kd.R_set HO.out BK.out (by decide) 0 _⟩, ⟨HB.out.setNew hsw 0 _⟩⟩
        · rcases List.mem_append.1 hy with h | h
          · exact HL.out.2 y h
          · rw [List.mem_singleton.1 h]; exact HQ.out
        · have := blk_set BK.out 0 (.slice A9 (l1 ++ [x]).length c9)
          simpa using this
    | false =>
      rw [hq] at hsym
      have g0 := (blk_cell BK.out 0).trans rfl
      have g1 := (blk_cell BK.out 1).trans rfl
      have f0 := (blk_cell BR.out 0).trans rfl
      have f1 := (blk_cell BR.out 1).trans rfl
      have r0 := blk_frozen BR.out 0
      have r1 := blk_frozen BR.out 1
      obtain ⟨ep, ed⟩ := while_parts HL.out.2 hq
      rw [← HL.out.1] at ep ed
      have hne : l2 ≠ [] := by
        rintro rfl
        obtain ⟨l0, t, e, _⟩ := HT2.out
        simp at e
      have HE := Aside0.mk (And.intro ep (ed.resolve_right hne))
      clear hq ep ed hne HL
      go_wp2_with (go_at_call 93; refine hsym.mono ?_; rintro e w' ⟨rfl, rfl⟩)
      have b1 := blk_set (blk_set BR.out 0 (.slice As l1.length cs)) 1 (.int .i64 p)
      obtain ⟨e1, e2⟩ := HE.out
      rw [e1, e2]
      have b0 := blk_set BR.out 0 (.slice As l1.length cs)
      refine bodyPost_ret (results_c (fn := Tryz.f96) rfl _ _ w.heap.size 96 _ (0, 0) _ rfl b1 Tryz.underlying96 rfl (by kernel_rfl)) rfl ⟨As, cs, rfl, Kd.R_set (Kd.R_set HO.out BR.out (by decide) 0 _) b0 (by decide) 1 _, (HRL.out.setOther hrb (Nat.le_trans HW hrw) 0 _).setOther hrb (Nat.le_trans HW hrw) 1 _, (HB.out.setNew hrw 0 _).setNew hrw 1 _⟩
end Go.Proofs.YtliofoikejdjeaaGreat
/- gread's reader: its state while declarations are read. -/
namespace Go.Proofs.YtliofoikejdjeaaGreat
open Go.RowKit Go.Proofs.YtliofoikejdjeaaGreatW.PrintWords Go.Proofs.YtliofoikejdjeaaGreatW.PrintLast
set_option linter.unusedVariables false
set_option linter.unusedSimpArgs false
theorem MapSI.same {w w1 : World} {b n : Nat} {f : ByteArray → Option Int} {c : Nat} (h : MapSI w b n f c) (hs : w1.heap[b]? = w.heap[b]?) : MapSI w1 b n f c := by
  obtain ⟨D, ⟨es, clock, h1, h2⟩, h3⟩ := h
  exact ⟨D, ⟨es, clock, hs.trans h1, h2⟩, h3⟩
theorem MapSI.ne {w : World} {b n : Nat} {f : ByteArray → Option Int} {c g : Nat} (h : MapSI w b n f c) {cs : Array Value} {t : TypeId} {fr : Nat × Nat} (hg : w.heap[g]? = some (.cells cs t fr)) : b ≠ g := by
  obtain ⟨es, clock, h1⟩ := h.map_
  rintro rfl
  rw [h1] at hg
  cases hg
theorem own_cells {α : Type} {d : Kd α} {e base : Nat} {ok : Nat → Prop} {w : World} {v : Value} {xs : List α} (h : d.R e w base ok v xs) : ∀ k, v.ownBlock = some k → ∃ cs, w.heap[k]? = some (.cells cs e (0, 0)) := fun k hk => Kd.R_typed h k hk
theorem MapSI.own {α : Type} {d : Kd α} {e base : Nat} {ok : Nat → Prop} {w w1 : World} {v : Value} {xs : List α} {b n : Nat} {f : ByteArray → Option Int} {c : Nat} (h : MapSI w b n f c) (ho : d.R e w base ok v xs) (hg : w.grownBy w1 v.ownBlock) : MapSI w1 b n f c :=
  h.grown hg (fun he => by obtain ⟨cs, hc⟩ := own_cells ho b he.symm; exact h.ne hc rfl)
theorem RL.blk {W0 w : World} {b : Nat} {l : List Tk} {v1 v2 v3 v4 v5 : Value} (h : RL W0 w b l v1 v2 v3 v4 v5) : ∃ v0, w.heap[b]? = some (.cells #[v0, v1, v2, v3, v4, v5] 62 (0, 0)) := by
  obtain ⟨ad, c, hk, _⟩ := h.cells
  exact ⟨_, hk⟩
theorem RL.put {W0 w : World} {b : Nat} {l : List Tk} {v1 v2 v3 v4 v5 : Value} (h : RL W0 w b l v1 v2 v3 v4 v5) (v : Value) :
    RL W0 (w.setCell ⟨b, 1, none⟩ v) b l v v2 v3 v4 v5 ∧ RL W0 (w.setCell ⟨b, 2, none⟩ v) b l v1 v v3 v4 v5 ∧ RL W0 (w.setCell ⟨b, 3, none⟩ v) b l v1 v2 v v4 v5 ∧ RL W0 (w.setCell ⟨b, 4, none⟩ v) b l v1 v2 v3 v v5 := by
  obtain ⟨ad, c, hk, hc, hC⟩ := h.cells
  exact ⟨⟨h.below.setCell (p := ⟨b, 1, none⟩) h.hb v, h.hb, ⟨ad, c, blk_set hk 1 v, hc, hC⟩, h.pos⟩, ⟨h.below.setCell (p := ⟨b, 2, none⟩) h.hb v, h.hb, ⟨ad, c, blk_set hk 2 v, hc, hC⟩, h.pos⟩, ⟨h.below.setCell (p := ⟨b, 3, none⟩) h.hb v, h.hb, ⟨ad, c, blk_set hk 3 v, hc, hC⟩, h.pos⟩, ⟨h.below.setCell (p := ⟨b, 4, none⟩) h.hb v, h.hb, ⟨ad, c, blk_set hk 4 v, hc, hC⟩, h.pos⟩⟩
/-- The reader's state while declarations are read. -/
structure HS (W0 w : World) (b : Nat) (l : List Tk) (v1 v2 v3 v4 : Value) (m n : Nat) (f : ByteArray → Option Int) (c : Nat) (D : List Tk) (M : List Int) (S : List Tk) : Prop where
  rl : RL W0 w b l v1 v2 v3 v4 (.map (some m))
  r1 : Kd.R kTk 85 w W0.heap.size (fun k => k ≠ b ∧ some k ≠ v3.ownBlock) v1 D
  r2 : Kd.R (Kd.int .i64) 3 w W0.heap.size (fun k => k ≠ b) v2 M
  r3 : Kd.R kTk 85 w W0.heap.size (fun k => k ≠ b ∧ some k ≠ v1.ownBlock) v3 S
  mp : MapSI w m n f c
  mb : W0.heap.size ≤ m
theorem tokField2 (k : Int) (s : ByteArray) (p : Int) (w : World) : (Instr.field 85 (.agg #[.int .i64 k, .string s, .int .i64 p]) 2).run Tryz.prog w = .ok (.int .i64 p) w := by kernel_rfl
section
variable {W0 w w1 : World} {b : Nat} {l l' : List Tk} {v1 v2 v3 v4 : Value} {m n : Nat} {f : ByteArray → Option Int} {c : Nat} {D : List Tk} {M : List Int} {S : List Tk}
theorem HS.mne (h : HS W0 w b l v1 v2 v3 v4 m n f c D M S) : m ≠ b := by
  obtain ⟨v0, hk⟩ := h.rl.blk
  exact h.mp.ne hk
theorem HS.but (h : HS W0 w b l v1 v2 v3 v4 m n f c D M S) (hb : BelowBut b w w1) (hr : RL W0 w1 b l' v1 v2 v3 v4 (.map (some m))) : HS W0 w1 b l' v1 v2 v3 v4 m n f c D M S :=
  ⟨hr, Kd.R_step h.r1 (fun k hk hlt => hb.block k hlt hk.1), Kd.R_step h.r2 (fun k hk hlt => hb.block k hlt hk), Kd.R_step h.r3 (fun k hk hlt => hb.block k hlt hk.1), h.mp.same (hb.block m h.mp.lt h.mne), h.mb⟩
theorem HS.later (h : HS W0 w b l v1 v2 v3 v4 m n f c D M S) (hb : Below w.heap.size w w1) : HS W0 w1 b l v1 v2 v3 v4 m n f c D M S := h.but (.of hb) (h.rl.later hb)
theorem HS.put1 (h : HS W0 w b l v1 v2 v3 v4 m n f c D M S) {v1' : Value} {D' : List Tk} (ho : Kd.R kTk 85 w1 W0.heap.size (fun k => k ≠ b ∧ some k ≠ v3.ownBlock) v1' D') (hg : w.grownBy w1 v1.ownBlock) (hat : v1'.ownBlock = v1.ownBlock ∨ ∃ k, v1'.ownBlock = some k ∧ w.heap.size ≤ k) :
    RL W0 w1 b l v1 v2 v3 v4 (.map (some m)) ∧ HS W0 (w1.setCell ⟨b, 1, none⟩ v1') b l v1' v2 v3 v4 m n f c D' M S := by
  have hr := h.rl.grown h.r1 (Nat.le_refl _) hg (by decide)
  obtain ⟨v0, hk⟩ := hr.blk
  refine ⟨hr, (hr.put v1').1, Kd.R_set ho hk (by decide) 1 v1', ?_, ?_, ?_, h.mb⟩
  · exact Kd.R_set (Kd.R_over h.r2 h.r1 (by decide) hg) hk (by decide) 1 v1'
  · exact Kd.R_set (Kd.R_after (ok := fun k => k ≠ b) h.r3 hg hat) hk (by decide) 1 v1'
  · have h2 := h.mp.own h.r1 hg
    exact h2.same (Below.heap_setCell w1 ⟨b, 1, none⟩ v1' m h.mne)
theorem HS.put3 (h : HS W0 w b l v1 v2 v3 v4 m n f c D M S) {v3' : Value} {S' : List Tk} (ho : Kd.R kTk 85 w1 W0.heap.size (fun k => k ≠ b ∧ some k ≠ v1.ownBlock) v3' S') (hg : w.grownBy w1 v3.ownBlock) (hat : v3'.ownBlock = v3.ownBlock ∨ ∃ k, v3'.ownBlock = some k ∧ w.heap.size ≤ k) :
    RL W0 w1 b l v1 v2 v3 v4 (.map (some m)) ∧ HS W0 (w1.setCell ⟨b, 3, none⟩ v3') b l v1 v2 v3' v4 m n f c D M S' := by
  have hr := h.rl.grown h.r3 (Nat.le_refl _) hg (by decide)
  obtain ⟨v0, hk⟩ := hr.blk
  refine ⟨hr, (hr.put v3').2.2.1, ?_, ?_, Kd.R_set ho hk (by decide) 3 v3', ?_, h.mb⟩
  · exact Kd.R_set (Kd.R_after (ok := fun k => k ≠ b) h.r1 hg hat) hk (by decide) 3 v3'
  · exact Kd.R_set (Kd.R_over h.r2 h.r3 (by decide) hg) hk (by decide) 3 v3'
  · have h2 := h.mp.own h.r3 hg
    exact h2.same (Below.heap_setCell w1 ⟨b, 3, none⟩ v3' m h.mne)
theorem HS.put2 (h : HS W0 w b l v1 v2 v3 v4 m n f c D M S) {v2' : Value} {M' : List Int} (ho : Kd.R (Kd.int .i64) 3 w1 W0.heap.size (fun k => k ≠ b) v2' M') (hg : w.grownBy w1 v2.ownBlock) :
    RL W0 w1 b l v1 v2 v3 v4 (.map (some m)) ∧ HS W0 (w1.setCell ⟨b, 2, none⟩ v2') b l v1 v2' v3 v4 m n f c D M' S := by
  have hr := h.rl.grown h.r2 (Nat.le_refl _) hg (by decide)
  obtain ⟨v0, hk⟩ := hr.blk
  refine ⟨hr, (hr.put v2').2.1, Kd.R_set (Kd.R_over h.r1 h.r2 (by decide) hg) hk (by decide) 2 v2', Kd.R_set ho hk (by decide) 2 v2', Kd.R_set (Kd.R_over h.r3 h.r2 (by decide) hg) hk (by decide) 2 v2', ?_, h.mb⟩
  have h2 := h.mp.own h.r2 hg
  exact h2.same (Below.heap_setCell w1 ⟨b, 2, none⟩ v2' m h.mne)
end
section
variable {P : Program} {ops : Array Oper} {Q : Exit → Act → World → Prop}
/-- A call that panics, within a region that draws. -/
theorem goesP_ {oi : Oper} {N : Option Tmp} {a : Act} {w : World} {K : Act → World → Prop} {f : FuncId} {fn : Func} {asx : Array Operand} {ts : Array TypeId} (hf : P.funcs[f]? = some fn) (hname : (fn.name == "runtime.NumGoroutine") = false) (hb : fn.body.isSome = true) (args : Array Value)
    (hw : Region.wanted oi (yielded ops a.tmps) = true) (hop : oi.op = .call { callee := .value (.func f), args := asx, argTypes := ts }) (hargs : asx.map a.eval = args)
    (h : Calls P f args w fun e w' => ∃ ch, e = .panicked ch ∧ Q (.panic ch) a w') : if Region.wanted oi (yielded ops a.tmps) = true then Oper.wp P oi a w K Q else K (a.put N undef) w := by
  rw [if_pos hw]
  have he := enters_ hf hname hb args w
  have hrun : (execOp a.eval oi).run P w = .ok (.enter f args) w := by
    unfold execOp
    simp [hop, resolve, Deferred.ofValue, invoke, Act.eval, hargs, he]
  unfold Oper.wp
  rw [hrun, Oper.upon_enter]
  refine h.mono fun e w'' hh => ?_
  obtain ⟨ch, rfl, hk⟩ := hh
  exact hk
end
end Go.Proofs.YtliofoikejdjeaaGreat
/- gread's reader: a declaration. -/
namespace Go.Proofs.YtliofoikejdjeaaGreat
open Go.RowKit Go.Proofs.YtliofoikejdjeaaGreatW.PrintWords Go.Proofs.YtliofoikejdjeaaGreatW.PrintLast
set_option linter.unusedVariables false
set_option linter.unusedSimpArgs false
def hd6T : Bool × List (List Nat × List Nat) := (true, [([], []), ([], []), ([1], [1]), ([2], [2]), ([3], [3]), ([], []), ([5], [5]), ([6], [6]), ([4, 7, 6], [4, 7]), ([0, 0, 1, 2, 3, 4, 5, 6, 7, 8], [0]), ([9, 0, 1, 2, 3, 4, 5, 6, 7, 8], [9]), ([10, 8, 8, 0, 1, 2, 3, 4, 5, 6, 7, 8], [8, 10])])
def hd6B : List Nat := [0, 0, 2, 6, 14, 0, 32, 96, 254, 511, 1023, 2047]
theorem hd6Tab : rtab .any (opsOf Tryz.f60 6) = hd6T := by kernel_rfl
theorem hd6Bits : waitsOk hd6T.2 hd6B = true := by kernel_rfl
def hd8T : Bool × List (List Nat × List Nat) := (true, [([], []), ([], []), ([1], [1]), ([2], [2]), ([3], [3]), ([], []), ([5], [5]), ([6], [6]), ([7], [7]), ([4, 8, 6], [4, 8]), ([0, 0, 1, 2, 3, 4, 5, 6, 7, 8, 9], [0]), ([10, 0, 1, 2, 3, 4, 5, 6, 7, 8, 9], [10]), ([11, 9, 9, 0, 1, 2, 3, 4, 5, 6, 7, 8, 9], [9, 11])])
def hd8B : List Nat := [0, 0, 2, 6, 14, 0, 32, 96, 224, 510, 1023, 2047, 4095]
theorem hd8Tab : rtab .any (opsOf Tryz.f60 8) = hd8T := by kernel_rfl
theorem hd8Bits : waitsOk hd8T.2 hd8B = true := by kernel_rfl
def hd9T : Bool × List (List Nat × List Nat) := (true, [([], []), ([], []), ([1], [1]), ([2], [2]), ([3], [3]), ([], []), ([5], [5]), ([6], [6]), ([4, 7, 6], [4, 7]), ([0, 0, 1, 2, 3, 4, 5, 6, 7, 8], [0]), ([9, 0, 1, 2, 3, 4, 5, 6, 7, 8], [9]), ([10, 8, 8, 0, 1, 2, 3, 4, 5, 6, 7, 8], [8, 10])])
def hd9B : List Nat := [0, 0, 2, 6, 14, 0, 32, 96, 254, 511, 1023, 2047]
theorem hd9Tab : rtab .any (opsOf Tryz.f60 9) = hd9T := by kernel_rfl
theorem hd9Bits : waitsOk hd9T.2 hd9B = true := by kernel_rfl
section
variable {W0 w : World} {b : Nat} {l : List Tk} {v1 v2 v3 v4 v5 : Value}
theorem RL.cell1 (h : RL W0 w b l v1 v2 v3 v4 v5) : w.cell? ⟨b, 1, none⟩ = some v1 := by
  obtain ⟨v0, hk⟩ := h.blk
  exact (blk_cell hk 1).trans rfl
theorem RL.cell2 (h : RL W0 w b l v1 v2 v3 v4 v5) : w.cell? ⟨b, 2, none⟩ = some v2 := by
  obtain ⟨v0, hk⟩ := h.blk
  exact (blk_cell hk 2).trans rfl
theorem RL.cell3 (h : RL W0 w b l v1 v2 v3 v4 v5) : w.cell? ⟨b, 3, none⟩ = some v3 := by
  obtain ⟨v0, hk⟩ := h.blk
  exact (blk_cell hk 3).trans rfl
theorem RL.cell4 (h : RL W0 w b l v1 v2 v3 v4 v5) : w.cell? ⟨b, 4, none⟩ = some v4 := by
  obtain ⟨v0, hk⟩ := h.blk
  exact (blk_cell hk 4).trans rfl
theorem RL.cell5 (h : RL W0 w b l v1 v2 v3 v4 v5) : w.cell? ⟨b, 5, none⟩ = some v5 := by
  obtain ⟨v0, hk⟩ := h.blk
  exact (blk_cell hk 5).trans rfl
theorem rd_symy (h : RL W0 w b l v1 v2 v3 v4 v5) (hs : symB (hd l) = true) : Calls Tryz.prog 93 #[.pointer (some ⟨b, 0, none⟩)] w fun e w' => e = .returned (.bool true) ∧ w' = w := by
  have := rd_symbol h
  rw [hs] at this
  exact this
theorem rd_symn (h : RL W0 w b l v1 v2 v3 v4 v5) (hs : symB (hd l) = false) : Calls Tryz.prog 93 #[.pointer (some ⟨b, 0, none⟩)] w fun e w' => e = .returned (.bool false) ∧ w' = w := by
  have := rd_symbol h
  rw [hs] at this
  exact this
end
set_option maxHeartbeats 8000000 in
set_option maxRecDepth 100000 in
theorem rd_head_no {W0 w : World} {b : Nat} {v1 v2 v3 v4 : Value} {m n : Nat} {f : ByteArray → Option Int} {c : Nat} {D : List Tk} {M : List Int} {S : List Tk} {l : List Tk} (h : HS W0 w b l v1 v2 v3 v4 m n f c D M S) (h7 : (hd l).k ≠ 7) (h8 : (hd l).k ≠ 8) :
    Calls Tryz.prog 60 #[.pointer (some ⟨b, 0, none⟩)] w fun e w' => Panics (badS l) e ∧ Below W0.heap.size W0 w' := by
  have HST := Aside0.mk h
  have HK7 := Aside0.mk h7
  have HK8 := Aside0.mk h8
  clear h h7 h8
  go_enter Tryz.func60, Tryz.ntmps60
  go_wp2_with (first | (go_at_call 59; ((with_reducible refine (rd_isn HST.out.rl HK7.out).mono ?_); rintro e w' ⟨rfl, rfl⟩)) | (go_at_call 59; ((with_reducible refine (rd_isn HST.out.rl HK8.out).mono ?_); rintro e w' ⟨rfl, rfl⟩)) | (go_at_call 94; refine (rd_bad HST.out.rl).mono ?_; rintro e w' ⟨⟨older, rfl, ho⟩, rfl⟩))
  exact ⟨rfl, ⟨older, rfl, ho⟩, HST.out.rl.below⟩
set_option maxHeartbeats 8000000 in
set_option maxRecDepth 100000 in
theorem rd_head7_no {W0 w : World} {b : Nat} {v1 v2 v3 v4 : Value} {m n : Nat} {f : ByteArray → Option Int} {c : Nat} {D : List Tk} {M : List Int} {S : List Tk} {x : Tk} {l : List Tk} (h : HS W0 w b (x :: l) v1 v2 v3 v4 m n f c D M S) (h7 : x.k = 7) (hl : 0 < l.length) (hs : symB (hd l) = false) :
    Calls Tryz.prog 60 #[.pointer (some ⟨b, 0, none⟩)] w fun e w' => Panics (badS l) e ∧ Below W0.heap.size W0 w' := by
  have HST := Aside0.mk h
  have HK7 := Aside0.mk (show (hd (x :: l)).k = 7 from h7)
  have HSY := Aside0.mk hs
  clear h h7 hs
  go_enter Tryz.func60, Tryz.ntmps60
  go_wp2_with (first | (go_at_call 59; ((with_reducible refine (rd_isy HST.out.rl HK7.out).mono ?_); rintro e w' ⟨rfl, rfl⟩)) | (go_at_call 61; refine (rd_take HST.out.rl hl).mono ?_; rintro e w2 ⟨rfl, h2, hb2⟩; have H2 := Aside0.mk h2; clear h2 hb2; unfold tkV) | (go_at_call 93; refine (rd_symn H2.out HSY.out).mono ?_; rintro e w' ⟨rfl, rfl⟩) | (go_at_call 94; refine (rd_bad H2.out).mono ?_; rintro e w' ⟨⟨older, rfl, ho⟩, rfl⟩))
  exact ⟨rfl, ⟨older, rfl, ho⟩, H2.out.below⟩
set_option maxHeartbeats 8000000 in
set_option maxRecDepth 100000 in
theorem rd_head7 {W0 w : World} {b : Nat} {v1 v2 v3 v4 : Value} {m n : Nat} {f : ByteArray → Option Int} {c : Nat} {D : List Tk} {M : List Int} {S : List Tk} {x : Tk} {l : List Tk} (h : HS W0 w b (x :: l) v1 v2 v3 v4 m n f c D M S) (h7 : x.k = 7) (hl : 0 < l.length) (ht : TEnd l) (hs : symB (hd l) = true) (hm : D.length + l.length ≤ 100000) :
    Calls Tryz.prog 60 #[.pointer (some ⟨b, 0, none⟩)] w fun e w' => e = .returned (.tuple #[]) ∧ ∃ v1', HS W0 w' b (l.dropWhile symB) v1' v2 v3 v4 m n f c (D ++ l.takeWhile symB) M S := by
  have HST := Aside0.mk h
  have HK7 := Aside0.mk (show (hd (x :: l)).k = 7 from h7)
  have HSY := Aside0.mk hs
  have HT := Aside0.mk ht
  clear h h7 hs ht
  go_enter Tryz.func60, Tryz.ntmps60
  go_wp2_with (first | (go_at_call 59; ((with_reducible refine (rd_isy HST.out.rl HK7.out).mono ?_); rintro e w' ⟨rfl, rfl⟩)) | (go_at_call 61; refine (rd_take HST.out.rl hl).mono ?_; rintro e w2 ⟨rfl, h2, hb2⟩; have H2 := Aside0.mk (HST.out.but hb2 h2); clear h2 hb2; unfold tkV) | (go_at_call 93; refine (rd_symy H2.out.rl HSY.out).mono ?_; rintro e w' ⟨rfl, rfl⟩))
  clear HST
  go_loopg [15] l.length (fun gg v15 wr => ∃ (l1 l2 : List Tk) (vd : Value), l1.length + l2.length = l.length ∧ l2.length ≤ gg ∧ Aside0 (l = l1 ++ l2 ∧ ∀ x ∈ l1, symB x = true) ∧ Aside0 (HS W0 wr b l2 vd v2 v3 v4 m n f c (D ++ l1) M S) ∧ Aside0 (TEnd l2))
  case atStart => exact ⟨[], l, v1, by simp, Nat.le_refl _, ⟨rfl, fun x hx => by cases hx⟩, ⟨by rw [List.append_nil]; exact H2.out⟩, HT⟩
  case round =>
    obtain ⟨l1, l2, vd, hlen, hgg, HL, HST, HT2⟩ := hrel
    obtain ⟨Dl, hDl⟩ : ∃ y, D ++ l1 = y := ⟨_, rfl⟩
    rw [hDl] at HST
    have HLEN : Aside0 (Dl.length ≤ 100000) := ⟨by rw [← hDl, List.length_append]; omega⟩
    have HDL := Aside0.mk hDl
    clear hDl
    obtain ⟨v1, hv1⟩ : ∃ y, vd = y := ⟨_, rfl⟩
    subst hv1
    cases hq : symB (hd l2) with
    | true =>
      obtain ⟨x, l3, e2, hl3, ht3⟩ := HT2.out.hd (symB_ne hq)
      subst e2
      have HQ := Aside0.mk hq
      have HT3 := Aside0.mk ht3
      simp only [List.length_cons] at hlen hgg
      clear hq ht3
      go_wp2_with (go_at_call 93; refine (rd_symy HST.out.rl HQ.out).mono ?_; rintro e w' ⟨rfl, rfl⟩)
      have n1_ := Aside0.mk (HST.out.later (below_drew (Below.refl _ _)))
      clear HST
      have HST := n1_
      clear n1_
      refine start_ (n := 12) (S := fun w' => w'.cell? ⟨b, 1, none⟩ = some vd) (ds := [11]) #[false, false, false, false, false, false, false, false, false, false, false, false] (by kernel_rfl) rfl rfl (HST.out.rl.cell1) (fun hHeld => ?_)
      refine with_tabW hd6Tab hd6Bits (fun HT_ HW_ => ?_)
      generalize World.drew _ = w5 at HST hHeld ⊢
      refine pure_ (i := 0) (N := (some 16)) (v := ?_) (a' := ?_) #[true, false, false, false, false, false, false, false, false, false, false, false] rfl rfl (any_of HT_.out (by kernel_rfl)) (fun _ _ _ h => h) (Or.inl ⟨by rfl, ?_⟩) ?_ ?_
      rotate_left
      · intro w'
        go_simp
        with_reducible rfl
      rotate_left
      · simp only [Act.put, List.setIfInBounds_toArray, List.set_cons_zero, List.set_cons_succ, i64_w, i32_w]
        rfl
      refine pure_ (i := 1) (N := (some 17)) (v := ?_) (a' := ?_) #[true, true, false, false, false, false, false, false, false, false, false, false] rfl rfl (any_of HT_.out (by kernel_rfl)) (fun _ _ _ h => h) (Or.inl ⟨by rfl, ?_⟩) ?_ ?_
      rotate_left
      · intro w'
        go_simp
        with_reducible rfl
      rotate_left
      · simp only [Act.put, List.setIfInBounds_toArray, List.set_cons_zero, List.set_cons_succ, i64_w, i32_w]
        rfl
      refine pure_ (i := 2) (N := (some 18)) (v := ?_) (a' := ?_) #[true, true, true, false, false, false, false, false, false, false, false, false] rfl rfl (any_of HT_.out (by kernel_rfl)) (fun _ _ _ h => h) (Or.inl ⟨by rfl, ?_⟩) ?_ ?_
      rotate_left
      · intro w'
        go_simp
        with_reducible rfl
      rotate_left
      · simp only [Act.put, List.setIfInBounds_toArray, List.set_cons_zero, List.set_cons_succ, i64_w, i32_w]
        rfl
      refine pure_ (i := 3) (N := (some 19)) (v := ?_) (a' := ?_) #[true, true, true, true, false, false, false, false, false, false, false, false] rfl rfl (any_of HT_.out (by kernel_rfl)) (fun _ _ _ h => h) (Or.inl ⟨by rfl, ?_⟩) ?_ ?_
      rotate_left
      · intro w'
        go_simp
        with_reducible rfl
      rotate_left
      · simp only [Act.put, List.setIfInBounds_toArray, List.set_cons_zero, List.set_cons_succ, i64_w, i32_w]
        rfl
      refine take_ (i := 4) (N := (some 20)) (v := ?_) (a' := ?_) #[true, true, true, true, true, false, false, false, false, false, false, false] rfl rfl (take_ofW HT_.out HW_.out (by kernel_rfl)) (fun _ _ _ h => h) (Or.inl ⟨by rfl, ?_⟩) hHeld ?_ ?_
      rotate_left
      · rintro w' s0
        go_simp
        with_reducible rfl
      rotate_left
      · simp only [Act.put, List.setIfInBounds_toArray, List.set_cons_zero, List.set_cons_succ, i64_w, i32_w]
        rfl
      refine pure_ (i := 5) (N := (some 21)) (v := ?_) (a' := ?_) #[true, true, true, true, true, true, false, false, false, false, false, false] rfl rfl (any_of HT_.out (by kernel_rfl)) (fun _ _ _ h => h) (Or.inl ⟨by rfl, ?_⟩) ?_ ?_
      rotate_left
      · intro w'
        go_simp
        with_reducible rfl
      rotate_left
      · simp only [Act.put, List.setIfInBounds_toArray, List.set_cons_zero, List.set_cons_succ, i64_w, i32_w]
        rfl
      refine one_ (i := 6) (N := (some 22)) #[true, true, true, true, true, true, true, false, false, false, false, false] rfl rfl (one_of HT_.out (by kernel_rfl)) (by decide) (fun K hK => ?_)
      refine goes_ Tryz.func61 (by kernel_rfl) rfl #[.pointer (some ⟨b, 0, none⟩)] (by rfl) rfl rfl (by first | rfl | (simp [Act.eval]; done) | (simp [Act.eval]; rfl)) ?_
      refine (rd_take HST.out.rl hl3).mono ?_
      rintro e w6 ⟨rfl, h6, hb6⟩
      refine ⟨_, rfl, ?_⟩
      have n1_ := Aside0.mk (HST.out.but hb6 h6)
      clear HST h6 hb6
      have HST := n1_
      clear n1_
      unfold tkV
      refine hK.out _ _ (HST.out.rl.cell1) (fun hHeld => ?_)
      clear hK K
      refine norm_ (a' := ?_) ?_ ?_
      rotate_left
      · show Act.put _ (some 22) _ = _
        simp only [Act.put, List.setIfInBounds_toArray, List.set_cons_zero, List.set_cons_succ, i64_w, i32_w]
        rfl
      refine one_ (i := 7) (N := (some 23)) #[true, true, true, true, true, true, true, true, false, false, false, false] rfl rfl (one_of HT_.out (by kernel_rfl)) (by decide) (fun K hK => ?_)
      refine Kd.R_lit_step kTk (w0 := w6) w6.heap.size 85 ?hg (N := 23) ?hd (xs := [x]) (inner := [.int .i64 x.k, .string x.s, .int .i64 x.at_]) (ok := fun _ => True) (okp := fun _ => True) ?hr ?hp (fun _ hk => hk) trivial (Below.refl _ _) (Nat.le_refl _) (by simp) ?_; (case hd => rfl); (case hg => rfl); (case hr => first | (go_simp; done) | (go_simp; rfl)); (case hp => exact (Reps.snoc (Reps.none _ _) (kTk_M _) rfl))
      intro vL w7 ho hb hg hnew
      obtain ⟨A8, c8, e8, l8, C8⟩ := Kd.R_reads ho
      subst e8
      have HX := Aside0.mk C8
      have n1_ := Aside0.mk (HST.out.later (grown_none hg))
      clear HST ho hb hg hnew C8 l8
      have HST := n1_
      clear n1_
      refine hK.out _ _ (HST.out.rl.cell1) (fun hHeld => ?_)
      clear hK K
      refine norm_ (a' := ?_) ?_ ?_
      rotate_left
      · show Act.put _ (some 23) _ = _
        simp only [Act.put, List.setIfInBounds_toArray, List.set_cons_zero, List.set_cons_succ, i64_w, i32_w]
        rfl
      refine one_ (i := 8) (N := (some 24)) #[true, true, true, true, true, true, true, true, true, false, false, false] rfl rfl (one_of HT_.out (by kernel_rfl)) (by decide) (fun K hK => ?_)
      refine Kd.R_append_rows_step kTk (w0 := w7) W0.heap.size (by rfl) (.tmp 20) (.tmp 23) 52 85 (.agg #[.int .i64 0, .string ⟨#[]⟩, .int .i64 0]) 32 rfl Tryz.underlying52 infoTok rfl (by decide) (by omega) vd Dl [x] _ _ _ (fun k => k ≠ b ∧ some k ≠ v3.ownBlock) (fun _ => False) rfl rfl HST.out.r1 HX.out (fun p cs hp => (show cs = _ from kTk_open hp) ▸ kTk_M p) (fun _ h => h.elim) (fun k hk => ⟨fun he => by have := HST.out.rl.lt; omega, fun he => by have := Kd.R_lt HST.out.r3 k he.symm; omega⟩) (Below.refl _ _) HST.out.rl.below.size ?aL ?_
      case aL => have := HLEN.out; simp only [List.length_cons, List.length_nil]; omega
      intro vN w8 ho hb hg hat
      have n1_ := HST.out.put1 ho hg hat
      clear HST HX
      have HP := Aside0.mk n1_
      have HSL := Aside0.mk (Kd.R_slice ho)
      clear n1_ ho hb hg hat
      refine hK.out _ _ (HP.out.1.cell1) (fun hHeld => ?_)
      clear hK K
      refine norm_ (a' := ?_) ?_ ?_
      rotate_left
      · show Act.put _ (some 24) _ = _
        simp only [Act.put, List.setIfInBounds_toArray, List.set_cons_zero, List.set_cons_succ, i64_w, i32_w]
        rfl
      refine pure_ (i := 9) (N := (some 25)) (v := ?_) (a' := ?_) #[true, true, true, true, true, true, true, true, true, true, false, false] rfl rfl (any_of HT_.out (by kernel_rfl)) (fun _ _ _ h => h) (Or.inl ⟨by rfl, ?_⟩) ?_ ?_
      rotate_left
      · intro w'
        go_simp
        with_reducible rfl
      rotate_left
      · simp only [Act.put, List.setIfInBounds_toArray, List.set_cons_zero, List.set_cons_succ, i64_w, i32_w]
        rfl
      refine pure_ (i := 10) (N := (some 26)) (v := ?_) (a' := ?_) #[true, true, true, true, true, true, true, true, true, true, true, false] rfl rfl (any_of HT_.out (by kernel_rfl)) (fun _ _ _ h => h) (Or.inl ⟨by rfl, ?_⟩) ?_ ?_
      rotate_left
      · intro w'
        go_simp
        with_reducible rfl
      rotate_left
      · simp only [Act.put, List.setIfInBounds_toArray, List.set_cons_zero, List.set_cons_succ, i64_w, i32_w]
        rfl
      refine last_ (i := 11) (N := none) #[true, true, true, true, true, true, true, true, true, true, true, true] rfl rfl (one_of HT_.out (by kernel_rfl)) (by decide) (fun K hK => ?_)
      obtain ⟨v0_, hk_⟩ := HP.out.1.blk
      have f0 := (blk_cell hk_ 1).trans rfl
      have f1 := blk_frozen hk_ 1
      refine skip_ (by rfl) rfl (w1 := w8.setCell ⟨b, 1, none⟩ vN) ?hrun ?_; (case hrun => obtain ⟨An, cn, en⟩ : ∃ An cn, vN = .slice An (Dl ++ [x]).length cn := HSL.out; subst en; first | (go_simp; done) | (go_simp; rfl))
      clear f0 f1 hk_
      have HST := Aside0.mk HP.out.2
      clear HP
      refine hK.out _ _ ?_
      clear hK K
      refine done_ (done_of HT_.out (by kernel_rfl)) ?_
      go_wp2
      go_roundg l3.length
      case measure => omega
      case rel =>
        refine ⟨l1 ++ [x], l3, vN, by rw [List.length_append]; simp only [List.length_cons, List.length_nil]; omega, Nat.le_refl _, ⟨by rw [HL.out.1]; simp, fun y hy => ?_⟩, ⟨?_⟩, HT3⟩
        · rcases List.mem_append.1 hy with h | h
          · exact HL.out.2 y h
          · rw [List.mem_singleton.1 h]; exact HQ.out
        · rw [← List.append_assoc, HDL.out]
          exact HST.out
    | false =>
      obtain ⟨ep, ed⟩ := while_parts HL.out.2 hq
      rw [← HL.out.1] at ep ed
      have hne : l2 ≠ [] := by
        rintro rfl
        obtain ⟨l0, t, e, _⟩ := HT2.out
        simp at e
      have HE := Aside0.mk (And.intro ep (ed.resolve_right hne))
      have HQ := Aside0.mk hq
      clear hq ep ed hne HL
      go_wp2_with (go_at_call 93; refine (rd_symn HST.out.rl HQ.out).mono ?_; rintro e w' ⟨rfl, rfl⟩)
      (first | go_end0 | refine bodyPost_ret (results_none rfl _ _ _) rfl ?_)
      obtain ⟨e1, e2⟩ := HE.out
      rw [e1, e2]
      exact ⟨rfl, _, by rw [HDL.out]; exact HST.out⟩
end Go.Proofs.YtliofoikejdjeaaGreat
/- gread's reader: %start. -/
namespace Go.Proofs.YtliofoikejdjeaaGreat
open Go.RowKit Go.Proofs.YtliofoikejdjeaaGreatW.PrintWords Go.Proofs.YtliofoikejdjeaaGreatW.PrintLast
set_option linter.unusedVariables false
set_option linter.unusedSimpArgs false
def hd9pT : Bool × List (List Nat × List Nat) := (true, [([], []), ([], []), ([1], [1]), ([2], [2]), ([3], [3]), ([], []), ([5], [5]), ([6], [6]), ([4, 7, 6], [4, 7]), ([0, 0, 1, 2, 3, 4, 5, 6, 7, 8], [0]), ([9, 0, 1, 2, 3, 4, 5, 6, 7, 8], [9]), ([10, 8, 8, 0, 1, 2, 3, 4, 5, 6, 7, 8], [8, 10])])
def hd9pB : List Nat := [0, 0, 2, 6, 14, 0, 32, 96, 254, 511, 1023, 2047]
theorem hd9pTab : rtab .any (opsOf Tryz.f60 9) = hd9pT := by kernel_rfl
theorem hd9pBits : waitsOk hd9pT.2 hd9pB = true := by kernel_rfl
set_option maxHeartbeats 8000000 in
set_option maxRecDepth 100000 in
theorem rd_head8_no {W0 w : World} {b : Nat} {v1 v2 v3 v4 : Value} {m n : Nat} {f : ByteArray → Option Int} {c : Nat} {D : List Tk} {M : List Int} {S : List Tk} {x : Tk} {l : List Tk} (h : HS W0 w b (x :: l) v1 v2 v3 v4 m n f c D M S) (h8 : x.k = 8) (hl : 0 < l.length) (hy : (hd l).k ≠ 1) (hm : M.length ≤ 100000 ∧ S.length ≤ 100000) :
    Calls Tryz.prog 60 #[.pointer (some ⟨b, 0, none⟩)] w fun e w' => Panics (badS l) e ∧ Below W0.heap.size W0 w' := by
  have HST := Aside0.mk h
  have HK7 := Aside0.mk (show (hd (x :: l)).k ≠ 7 from by show x.k ≠ 7; rw [h8]; decide)
  have HK8 := Aside0.mk (show (hd (x :: l)).k = 8 from h8)
  have HLEN : Aside0 (M.length ≤ 100000 ∧ S.length ≤ 100000) := ⟨hm⟩
  have HY := Aside0.mk hy
  clear hy
  have hl3 := hl
  clear h h8 hm
  go_enter Tryz.func60, Tryz.ntmps60
  go_wp2_with (first | (go_at_call 59; ((with_reducible refine (rd_isn HST.out.rl HK7.out).mono ?_); rintro e w' ⟨rfl, rfl⟩)) | (go_at_call 59; ((with_reducible refine (rd_isy HST.out.rl HK8.out).mono ?_); rintro e w' ⟨rfl, rfl⟩)))
  have n1_ := Aside0.mk (HST.out.later (below_drew (Below.refl _ _)))
  clear HST
  have HST := n1_
  clear n1_
  refine start_ (n := 13) (S := fun w' => w'.cell? ⟨b, 2, none⟩ = some v2) (ds := [12]) #[false, false, false, false, false, false, false, false, false, false, false, false, false] (by kernel_rfl) rfl rfl (HST.out.rl.cell2) (fun hHeld => ?_)
  refine with_tabW hd8Tab hd8Bits (fun HT_ HW_ => ?_)
  generalize World.drew _ = w5 at HST hHeld ⊢
  refine pure_ (i := 0) (N := (some 30)) (v := ?_) (a' := ?_) #[true, false, false, false, false, false, false, false, false, false, false, false, false] rfl rfl (any_of HT_.out (by kernel_rfl)) (fun _ _ _ h => h) (Or.inl ⟨by rfl, ?_⟩) ?_ ?_
  rotate_left
  · intro w'
    go_simp
    with_reducible rfl
  rotate_left
  · simp only [Act.put, List.setIfInBounds_toArray, List.set_cons_zero, List.set_cons_succ, i64_w, i32_w]
    rfl
  refine pure_ (i := 1) (N := (some 31)) (v := ?_) (a' := ?_) #[true, true, false, false, false, false, false, false, false, false, false, false, false] rfl rfl (any_of HT_.out (by kernel_rfl)) (fun _ _ _ h => h) (Or.inl ⟨by rfl, ?_⟩) ?_ ?_
  rotate_left
  · intro w'
    go_simp
    with_reducible rfl
  rotate_left
  · simp only [Act.put, List.setIfInBounds_toArray, List.set_cons_zero, List.set_cons_succ, i64_w, i32_w]
    rfl
  refine pure_ (i := 2) (N := (some 32)) (v := ?_) (a' := ?_) #[true, true, true, false, false, false, false, false, false, false, false, false, false] rfl rfl (any_of HT_.out (by kernel_rfl)) (fun _ _ _ h => h) (Or.inl ⟨by rfl, ?_⟩) ?_ ?_
  rotate_left
  · intro w'
    go_simp
    with_reducible rfl
  rotate_left
  · simp only [Act.put, List.setIfInBounds_toArray, List.set_cons_zero, List.set_cons_succ, i64_w, i32_w]
    rfl
  refine pure_ (i := 3) (N := (some 33)) (v := ?_) (a' := ?_) #[true, true, true, true, false, false, false, false, false, false, false, false, false] rfl rfl (any_of HT_.out (by kernel_rfl)) (fun _ _ _ h => h) (Or.inl ⟨by rfl, ?_⟩) ?_ ?_
  rotate_left
  · intro w'
    go_simp
    with_reducible rfl
  rotate_left
  · simp only [Act.put, List.setIfInBounds_toArray, List.set_cons_zero, List.set_cons_succ, i64_w, i32_w]
    rfl
  refine take_ (i := 4) (N := (some 34)) (v := ?_) (a' := ?_) #[true, true, true, true, true, false, false, false, false, false, false, false, false] rfl rfl (take_ofW HT_.out HW_.out (by kernel_rfl)) (fun _ _ _ h => h) (Or.inl ⟨by rfl, ?_⟩) hHeld ?_ ?_
  rotate_left
  · rintro w' s0
    go_simp
    with_reducible rfl
  rotate_left
  · simp only [Act.put, List.setIfInBounds_toArray, List.set_cons_zero, List.set_cons_succ, i64_w, i32_w]
    rfl
  refine pure_ (i := 5) (N := (some 35)) (v := ?_) (a' := ?_) #[true, true, true, true, true, true, false, false, false, false, false, false, false] rfl rfl (any_of HT_.out (by kernel_rfl)) (fun _ _ _ h => h) (Or.inl ⟨by rfl, ?_⟩) ?_ ?_
  rotate_left
  · intro w'
    go_simp
    with_reducible rfl
  rotate_left
  · simp only [Act.put, List.setIfInBounds_toArray, List.set_cons_zero, List.set_cons_succ, i64_w, i32_w]
    rfl
  refine one_ (i := 6) (N := (some 36)) #[true, true, true, true, true, true, true, false, false, false, false, false, false] rfl rfl (one_of HT_.out (by kernel_rfl)) (by decide) (fun K hK => ?_)
  refine goes_ Tryz.func61 (by kernel_rfl) rfl #[.pointer (some ⟨b, 0, none⟩)] (by rfl) rfl rfl (by first | rfl | (simp [Act.eval]; done) | (simp [Act.eval]; rfl)) ?_
  refine (rd_take HST.out.rl hl3).mono ?_
  rintro e w6 ⟨rfl, h6, hb6⟩
  refine ⟨_, rfl, ?_⟩
  have n1_ := Aside0.mk (HST.out.but hb6 h6)
  clear HST h6 hb6
  have HST := n1_
  clear n1_
  unfold tkV
  refine hK.out _ _ (HST.out.rl.cell2) (fun hHeld => ?_)
  clear hK K
  refine norm_ (a' := ?_) ?_ ?_
  rotate_left
  · show Act.put _ (some 36) _ = _
    simp only [Act.put, List.setIfInBounds_toArray, List.set_cons_zero, List.set_cons_succ, i64_w, i32_w]
    rfl
  refine pure_ (i := 7) (N := (some 37)) (v := ?_) (a' := ?_) #[true, true, true, true, true, true, true, true, false, false, false, false, false] rfl rfl (any_of HT_.out (by kernel_rfl)) (fun _ _ _ h => h) (Or.inl ⟨by rfl, ?_⟩) ?_ ?_
  rotate_left
  · intro w'
    have tf := tokField2
    go_simp
    with_reducible rfl
  rotate_left
  · simp only [Act.put, List.setIfInBounds_toArray, List.set_cons_zero, List.set_cons_succ, i64_w, i32_w]
    rfl
  refine one_ (i := 8) (N := (some 38)) #[true, true, true, true, true, true, true, true, true, false, false, false, false] rfl rfl (one_of HT_.out (by kernel_rfl)) (by decide) (fun K hK => ?_)
  refine Kd.R_lit_step (Kd.int .i64) (w0 := w6) w6.heap.size 3 ?hg (N := 38) ?hd (xs := [x.at_]) (inner := [.int .i64 x.at_]) (ok := fun _ => True) (okp := fun _ => True) ?hr ?hp (fun _ hk => hk) trivial (Below.refl _ _) (Nat.le_refl _) (by simp) ?_; (case hd => rfl); (case hg => rfl); (case hr => first | (go_simp; done) | (go_simp; rfl)); (case hp => exact (Reps.snoc (Reps.none _ _) rfl rfl))
  intro vL w7 ho hb hg hnew
  obtain ⟨A8, c8, e8, l8, C8⟩ := Kd.R_reads ho
  subst e8
  have HX := Aside0.mk C8
  have n1_ := Aside0.mk (HST.out.later (grown_none hg))
  clear HST ho hb hg hnew C8 l8
  have HST := n1_
  clear n1_
  refine hK.out _ _ (HST.out.rl.cell2) (fun hHeld => ?_)
  clear hK K
  refine norm_ (a' := ?_) ?_ ?_
  rotate_left
  · show Act.put _ (some 38) _ = _
    simp only [Act.put, List.setIfInBounds_toArray, List.set_cons_zero, List.set_cons_succ, i64_w, i32_w]
    rfl
  refine one_ (i := 9) (N := (some 39)) #[true, true, true, true, true, true, true, true, true, true, false, false, false] rfl rfl (one_of HT_.out (by kernel_rfl)) (by decide) (fun K hK => ?_)
  refine Kd.R_append_rows_step (Kd.int .i64) (w0 := w7) W0.heap.size (by rfl) (.tmp 34) (.tmp 38) 38 3 (.int .i64 0) 8 rfl Tryz.underlying38 info3 rfl (by decide) (by omega) v2 M [x.at_] _ _ _ (fun k => k ≠ b) (fun _ => False) rfl rfl HST.out.r2 HX.out (fun _ _ h => h) (fun _ h => h.elim) (fun k hk he => by have := HST.out.rl.lt; omega) (Below.refl _ _) HST.out.rl.below.size ?aL ?_
  case aL => have := HLEN.out.1; simp only [List.length_cons, List.length_nil]; omega
  intro vN w8 ho hb hg hat
  have n1_ := HST.out.put2 ho hg
  clear HST HX
  have HP := Aside0.mk n1_
  have HSL := Aside0.mk (Kd.R_slice ho)
  clear n1_ ho hb hg hat
  refine hK.out _ _ (HP.out.1.cell2) (fun hHeld => ?_)
  clear hK K
  refine norm_ (a' := ?_) ?_ ?_
  rotate_left
  · show Act.put _ (some 39) _ = _
    simp only [Act.put, List.setIfInBounds_toArray, List.set_cons_zero, List.set_cons_succ, i64_w, i32_w]
    rfl
  refine pure_ (i := 10) (N := (some 40)) (v := ?_) (a' := ?_) #[true, true, true, true, true, true, true, true, true, true, true, false, false] rfl rfl (any_of HT_.out (by kernel_rfl)) (fun _ _ _ h => h) (Or.inl ⟨by rfl, ?_⟩) ?_ ?_
  rotate_left
  · intro w'
    go_simp
    with_reducible rfl
  rotate_left
  · simp only [Act.put, List.setIfInBounds_toArray, List.set_cons_zero, List.set_cons_succ, i64_w, i32_w]
    rfl
  refine pure_ (i := 11) (N := (some 41)) (v := ?_) (a' := ?_) #[true, true, true, true, true, true, true, true, true, true, true, true, false] rfl rfl (any_of HT_.out (by kernel_rfl)) (fun _ _ _ h => h) (Or.inl ⟨by rfl, ?_⟩) ?_ ?_
  rotate_left
  · intro w'
    go_simp
    with_reducible rfl
  rotate_left
  · simp only [Act.put, List.setIfInBounds_toArray, List.set_cons_zero, List.set_cons_succ, i64_w, i32_w]
    rfl
  refine last_ (i := 12) (N := none) #[true, true, true, true, true, true, true, true, true, true, true, true, true] rfl rfl (one_of HT_.out (by kernel_rfl)) (by decide) (fun K hK => ?_)
  obtain ⟨v0_, hk_⟩ := HP.out.1.blk
  have f0 := (blk_cell hk_ 2).trans rfl
  have f1 := blk_frozen hk_ 2
  refine skip_ (by rfl) rfl (w1 := w8.setCell ⟨b, 2, none⟩ vN) ?hrun ?_; (case hrun => obtain ⟨An, cn, en⟩ : ∃ An cn, vN = .slice An (M ++ [x.at_]).length cn := HSL.out; subst en; first | (go_simp; done) | (go_simp; rfl))
  clear f0 f1 hk_
  have HST := Aside0.mk HP.out.2
  clear HP
  refine hK.out _ _ ?_
  clear hK K
  refine done_ (done_of HT_.out (by kernel_rfl)) ?_
  go_wp2
  have n1_ := Aside0.mk (HST.out.later (below_drew (Below.refl _ _)))
  clear HST
  have HST := n1_
  clear n1_
  refine start_ (n := 12) (S := fun w' => w'.cell? ⟨b, 3, none⟩ = some v3) (ds := [11]) #[false, false, false, false, false, false, false, false, false, false, false, false] (by kernel_rfl) rfl rfl (HST.out.rl.cell3) (fun hHeld => ?_)
  refine with_tabW hd9pTab hd9pBits (fun HT_ HW_ => ?_)
  generalize World.drew _ = w5 at HST hHeld ⊢
  refine pure_ (i := 0) (N := (some 42)) (v := ?_) (a' := ?_) #[true, false, false, false, false, false, false, false, false, false, false, false] rfl rfl (any_of HT_.out (by kernel_rfl)) (fun _ _ _ h => h) (Or.inl ⟨by rfl, ?_⟩) ?_ ?_
  rotate_left
  · intro w'
    go_simp
    with_reducible rfl
  rotate_left
  · simp only [Act.put, List.setIfInBounds_toArray, List.set_cons_zero, List.set_cons_succ, i64_w, i32_w]
    rfl
  refine pure_ (i := 1) (N := (some 43)) (v := ?_) (a' := ?_) #[true, true, false, false, false, false, false, false, false, false, false, false] rfl rfl (any_of HT_.out (by kernel_rfl)) (fun _ _ _ h => h) (Or.inl ⟨by rfl, ?_⟩) ?_ ?_
  rotate_left
  · intro w'
    go_simp
    with_reducible rfl
  rotate_left
  · simp only [Act.put, List.setIfInBounds_toArray, List.set_cons_zero, List.set_cons_succ, i64_w, i32_w]
    rfl
  refine pure_ (i := 2) (N := (some 44)) (v := ?_) (a' := ?_) #[true, true, true, false, false, false, false, false, false, false, false, false] rfl rfl (any_of HT_.out (by kernel_rfl)) (fun _ _ _ h => h) (Or.inl ⟨by rfl, ?_⟩) ?_ ?_
  rotate_left
  · intro w'
    go_simp
    with_reducible rfl
  rotate_left
  · simp only [Act.put, List.setIfInBounds_toArray, List.set_cons_zero, List.set_cons_succ, i64_w, i32_w]
    rfl
  refine pure_ (i := 3) (N := (some 45)) (v := ?_) (a' := ?_) #[true, true, true, true, false, false, false, false, false, false, false, false] rfl rfl (any_of HT_.out (by kernel_rfl)) (fun _ _ _ h => h) (Or.inl ⟨by rfl, ?_⟩) ?_ ?_
  rotate_left
  · intro w'
    go_simp
    with_reducible rfl
  rotate_left
  · simp only [Act.put, List.setIfInBounds_toArray, List.set_cons_zero, List.set_cons_succ, i64_w, i32_w]
    rfl
  refine take_ (i := 4) (N := (some 46)) (v := ?_) (a' := ?_) #[true, true, true, true, true, false, false, false, false, false, false, false] rfl rfl (take_ofW HT_.out HW_.out (by kernel_rfl)) (fun _ _ _ h => h) (Or.inl ⟨by rfl, ?_⟩) hHeld ?_ ?_
  rotate_left
  · rintro w' s0
    go_simp
    with_reducible rfl
  rotate_left
  · simp only [Act.put, List.setIfInBounds_toArray, List.set_cons_zero, List.set_cons_succ, i64_w, i32_w]
    rfl
  refine pure_ (i := 5) (N := (some 47)) (v := ?_) (a' := ?_) #[true, true, true, true, true, true, false, false, false, false, false, false] rfl rfl (any_of HT_.out (by kernel_rfl)) (fun _ _ _ h => h) (Or.inl ⟨by rfl, ?_⟩) ?_ ?_
  rotate_left
  · intro w'
    go_simp
    with_reducible rfl
  rotate_left
  · simp only [Act.put, List.setIfInBounds_toArray, List.set_cons_zero, List.set_cons_succ, i64_w, i32_w]
    rfl
  refine one_ (i := 6) (N := (some 48)) #[true, true, true, true, true, true, true, false, false, false, false, false] rfl rfl (one_of HT_.out (by kernel_rfl)) (by decide) (fun K hK => ?_)
  refine goesP_ Tryz.func95 (by kernel_rfl) rfl #[.pointer (some ⟨b, 0, none⟩), .int .i64 1] (by rfl) rfl (by first | rfl | (simp [Act.eval]; done) | (simp [Act.eval]; rfl)) ?_
  refine (rd_want_no HST.out.rl HY.out).mono ?_
  rintro e w6 ⟨⟨older, rfl, ho⟩, hb6⟩
  exact ⟨_, rfl, rfl, ⟨older, rfl, ho⟩, HST.out.rl.below.trans (hb6.below HST.out.rl.hb HST.out.rl.below.size)⟩
set_option maxHeartbeats 8000000 in
set_option maxRecDepth 100000 in
theorem rd_head8 {W0 w : World} {b : Nat} {v1 v2 v3 v4 : Value} {m n : Nat} {f : ByteArray → Option Int} {c : Nat} {D : List Tk} {M : List Int} {S : List Tk} {x y : Tk} {l2 : List Tk} (h : HS W0 w b (x :: y :: l2) v1 v2 v3 v4 m n f c D M S) (h8 : x.k = 8) (hl4 : 0 < l2.length) (hyk : y.k = 1) (hm : M.length ≤ 100000 ∧ S.length ≤ 100000) :
    Calls Tryz.prog 60 #[.pointer (some ⟨b, 0, none⟩)] w fun e w' => e = .returned (.tuple #[]) ∧ ∃ v2' v3', HS W0 w' b l2 v1 v2' v3' v4 m n f c D (M ++ [x.at_]) (S ++ [y]) := by
  have HST := Aside0.mk h
  have HK7 := Aside0.mk (show (hd (x :: y :: l2)).k ≠ 7 from by show x.k ≠ 7; rw [h8]; decide)
  have HK8 := Aside0.mk (show (hd (x :: y :: l2)).k = 8 from h8)
  have HLEN : Aside0 (M.length ≤ 100000 ∧ S.length ≤ 100000) := ⟨hm⟩
  have hl : 0 < (y :: l2).length := Nat.succ_pos _
  have hl3 := hl
  clear h h8 hm
  go_enter Tryz.func60, Tryz.ntmps60
  go_wp2_with (first | (go_at_call 59; ((with_reducible refine (rd_isn HST.out.rl HK7.out).mono ?_); rintro e w' ⟨rfl, rfl⟩)) | (go_at_call 59; ((with_reducible refine (rd_isy HST.out.rl HK8.out).mono ?_); rintro e w' ⟨rfl, rfl⟩)))
  have n1_ := Aside0.mk (HST.out.later (below_drew (Below.refl _ _)))
  clear HST
  have HST := n1_
  clear n1_
  refine start_ (n := 13) (S := fun w' => w'.cell? ⟨b, 2, none⟩ = some v2) (ds := [12]) #[false, false, false, false, false, false, false, false, false, false, false, false, false] (by kernel_rfl) rfl rfl (HST.out.rl.cell2) (fun hHeld => ?_)
  refine with_tabW hd8Tab hd8Bits (fun HT_ HW_ => ?_)
  generalize World.drew _ = w5 at HST hHeld ⊢
  refine pure_ (i := 0) (N := (some 30)) (v := ?_) (a' := ?_) #[true, false, false, false, false, false, false, false, false, false, false, false, false] rfl rfl (any_of HT_.out (by kernel_rfl)) (fun _ _ _ h => h) (Or.inl ⟨by rfl, ?_⟩) ?_ ?_
  rotate_left
  · intro w'
    go_simp
    with_reducible rfl
  rotate_left
  · simp only [Act.put, List.setIfInBounds_toArray, List.set_cons_zero, List.set_cons_succ, i64_w, i32_w]
    rfl
  refine pure_ (i := 1) (N := (some 31)) (v := ?_) (a' := ?_) #[true, true, false, false, false, false, false, false, false, false, false, false, false] rfl rfl (any_of HT_.out (by kernel_rfl)) (fun _ _ _ h => h) (Or.inl ⟨by rfl, ?_⟩) ?_ ?_
  rotate_left
  · intro w'
    go_simp
    with_reducible rfl
  rotate_left
  · simp only [Act.put, List.setIfInBounds_toArray, List.set_cons_zero, List.set_cons_succ, i64_w, i32_w]
    rfl
  refine pure_ (i := 2) (N := (some 32)) (v := ?_) (a' := ?_) #[true, true, true, false, false, false, false, false, false, false, false, false, false] rfl rfl (any_of HT_.out (by kernel_rfl)) (fun _ _ _ h => h) (Or.inl ⟨by rfl, ?_⟩) ?_ ?_
  rotate_left
  · intro w'
    go_simp
    with_reducible rfl
  rotate_left
  · simp only [Act.put, List.setIfInBounds_toArray, List.set_cons_zero, List.set_cons_succ, i64_w, i32_w]
    rfl
  refine pure_ (i := 3) (N := (some 33)) (v := ?_) (a' := ?_) #[true, true, true, true, false, false, false, false, false, false, false, false, false] rfl rfl (any_of HT_.out (by kernel_rfl)) (fun _ _ _ h => h) (Or.inl ⟨by rfl, ?_⟩) ?_ ?_
  rotate_left
  · intro w'
    go_simp
    with_reducible rfl
  rotate_left
  · simp only [Act.put, List.setIfInBounds_toArray, List.set_cons_zero, List.set_cons_succ, i64_w, i32_w]
    rfl
  refine take_ (i := 4) (N := (some 34)) (v := ?_) (a' := ?_) #[true, true, true, true, true, false, false, false, false, false, false, false, false] rfl rfl (take_ofW HT_.out HW_.out (by kernel_rfl)) (fun _ _ _ h => h) (Or.inl ⟨by rfl, ?_⟩) hHeld ?_ ?_
  rotate_left
  · rintro w' s0
    go_simp
    with_reducible rfl
  rotate_left
  · simp only [Act.put, List.setIfInBounds_toArray, List.set_cons_zero, List.set_cons_succ, i64_w, i32_w]
    rfl
  refine pure_ (i := 5) (N := (some 35)) (v := ?_) (a' := ?_) #[true, true, true, true, true, true, false, false, false, false, false, false, false] rfl rfl (any_of HT_.out (by kernel_rfl)) (fun _ _ _ h => h) (Or.inl ⟨by rfl, ?_⟩) ?_ ?_
  rotate_left
  · intro w'
    go_simp
    with_reducible rfl
  rotate_left
  · simp only [Act.put, List.setIfInBounds_toArray, List.set_cons_zero, List.set_cons_succ, i64_w, i32_w]
    rfl
  refine one_ (i := 6) (N := (some 36)) #[true, true, true, true, true, true, true, false, false, false, false, false, false] rfl rfl (one_of HT_.out (by kernel_rfl)) (by decide) (fun K hK => ?_)
  refine goes_ Tryz.func61 (by kernel_rfl) rfl #[.pointer (some ⟨b, 0, none⟩)] (by rfl) rfl rfl (by first | rfl | (simp [Act.eval]; done) | (simp [Act.eval]; rfl)) ?_
  refine (rd_take HST.out.rl hl3).mono ?_
  rintro e w6 ⟨rfl, h6, hb6⟩
  refine ⟨_, rfl, ?_⟩
  have n1_ := Aside0.mk (HST.out.but hb6 h6)
  clear HST h6 hb6
  have HST := n1_
  clear n1_
  unfold tkV
  refine hK.out _ _ (HST.out.rl.cell2) (fun hHeld => ?_)
  clear hK K
  refine norm_ (a' := ?_) ?_ ?_
  rotate_left
  · show Act.put _ (some 36) _ = _
    simp only [Act.put, List.setIfInBounds_toArray, List.set_cons_zero, List.set_cons_succ, i64_w, i32_w]
    rfl
  refine pure_ (i := 7) (N := (some 37)) (v := ?_) (a' := ?_) #[true, true, true, true, true, true, true, true, false, false, false, false, false] rfl rfl (any_of HT_.out (by kernel_rfl)) (fun _ _ _ h => h) (Or.inl ⟨by rfl, ?_⟩) ?_ ?_
  rotate_left
  · intro w'
    have tf := tokField2
    go_simp
    with_reducible rfl
  rotate_left
  · simp only [Act.put, List.setIfInBounds_toArray, List.set_cons_zero, List.set_cons_succ, i64_w, i32_w]
    rfl
  refine one_ (i := 8) (N := (some 38)) #[true, true, true, true, true, true, true, true, true, false, false, false, false] rfl rfl (one_of HT_.out (by kernel_rfl)) (by decide) (fun K hK => ?_)
  refine Kd.R_lit_step (Kd.int .i64) (w0 := w6) w6.heap.size 3 ?hg (N := 38) ?hd (xs := [x.at_]) (inner := [.int .i64 x.at_]) (ok := fun _ => True) (okp := fun _ => True) ?hr ?hp (fun _ hk => hk) trivial (Below.refl _ _) (Nat.le_refl _) (by simp) ?_; (case hd => rfl); (case hg => rfl); (case hr => first | (go_simp; done) | (go_simp; rfl)); (case hp => exact (Reps.snoc (Reps.none _ _) rfl rfl))
  intro vL w7 ho hb hg hnew
  obtain ⟨A8, c8, e8, l8, C8⟩ := Kd.R_reads ho
  subst e8
  have HX := Aside0.mk C8
  have n1_ := Aside0.mk (HST.out.later (grown_none hg))
  clear HST ho hb hg hnew C8 l8
  have HST := n1_
  clear n1_
  refine hK.out _ _ (HST.out.rl.cell2) (fun hHeld => ?_)
  clear hK K
  refine norm_ (a' := ?_) ?_ ?_
  rotate_left
  · show Act.put _ (some 38) _ = _
    simp only [Act.put, List.setIfInBounds_toArray, List.set_cons_zero, List.set_cons_succ, i64_w, i32_w]
    rfl
  refine one_ (i := 9) (N := (some 39)) #[true, true, true, true, true, true, true, true, true, true, false, false, false] rfl rfl (one_of HT_.out (by kernel_rfl)) (by decide) (fun K hK => ?_)
  refine Kd.R_append_rows_step (Kd.int .i64) (w0 := w7) W0.heap.size (by rfl) (.tmp 34) (.tmp 38) 38 3 (.int .i64 0) 8 rfl Tryz.underlying38 info3 rfl (by decide) (by omega) v2 M [x.at_] _ _ _ (fun k => k ≠ b) (fun _ => False) rfl rfl HST.out.r2 HX.out (fun _ _ h => h) (fun _ h => h.elim) (fun k hk he => by have := HST.out.rl.lt; omega) (Below.refl _ _) HST.out.rl.below.size ?aL ?_
  case aL => have := HLEN.out.1; simp only [List.length_cons, List.length_nil]; omega
  intro vN w8 ho hb hg hat
  have n1_ := HST.out.put2 ho hg
  clear HST HX
  have HP := Aside0.mk n1_
  have HSL := Aside0.mk (Kd.R_slice ho)
  clear n1_ ho hb hg hat
  refine hK.out _ _ (HP.out.1.cell2) (fun hHeld => ?_)
  clear hK K
  refine norm_ (a' := ?_) ?_ ?_
  rotate_left
  · show Act.put _ (some 39) _ = _
    simp only [Act.put, List.setIfInBounds_toArray, List.set_cons_zero, List.set_cons_succ, i64_w, i32_w]
    rfl
  refine pure_ (i := 10) (N := (some 40)) (v := ?_) (a' := ?_) #[true, true, true, true, true, true, true, true, true, true, true, false, false] rfl rfl (any_of HT_.out (by kernel_rfl)) (fun _ _ _ h => h) (Or.inl ⟨by rfl, ?_⟩) ?_ ?_
  rotate_left
  · intro w'
    go_simp
    with_reducible rfl
  rotate_left
  · simp only [Act.put, List.setIfInBounds_toArray, List.set_cons_zero, List.set_cons_succ, i64_w, i32_w]
    rfl
  refine pure_ (i := 11) (N := (some 41)) (v := ?_) (a' := ?_) #[true, true, true, true, true, true, true, true, true, true, true, true, false] rfl rfl (any_of HT_.out (by kernel_rfl)) (fun _ _ _ h => h) (Or.inl ⟨by rfl, ?_⟩) ?_ ?_
  rotate_left
  · intro w'
    go_simp
    with_reducible rfl
  rotate_left
  · simp only [Act.put, List.setIfInBounds_toArray, List.set_cons_zero, List.set_cons_succ, i64_w, i32_w]
    rfl
  refine last_ (i := 12) (N := none) #[true, true, true, true, true, true, true, true, true, true, true, true, true] rfl rfl (one_of HT_.out (by kernel_rfl)) (by decide) (fun K hK => ?_)
  obtain ⟨v0_, hk_⟩ := HP.out.1.blk
  have f0 := (blk_cell hk_ 2).trans rfl
  have f1 := blk_frozen hk_ 2
  refine skip_ (by rfl) rfl (w1 := w8.setCell ⟨b, 2, none⟩ vN) ?hrun ?_; (case hrun => obtain ⟨An, cn, en⟩ : ∃ An cn, vN = .slice An (M ++ [x.at_]).length cn := HSL.out; subst en; first | (go_simp; done) | (go_simp; rfl))
  clear f0 f1 hk_
  have HST := Aside0.mk HP.out.2
  clear HP
  refine hK.out _ _ ?_
  clear hK K
  refine done_ (done_of HT_.out (by kernel_rfl)) ?_
  go_wp2
  have n1_ := Aside0.mk (HST.out.later (below_drew (Below.refl _ _)))
  clear HST
  have HST := n1_
  clear n1_
  refine start_ (n := 12) (S := fun w' => w'.cell? ⟨b, 3, none⟩ = some v3) (ds := [11]) #[false, false, false, false, false, false, false, false, false, false, false, false] (by kernel_rfl) rfl rfl (HST.out.rl.cell3) (fun hHeld => ?_)
  refine with_tabW hd9Tab hd9Bits (fun HT_ HW_ => ?_)
  generalize World.drew _ = w5 at HST hHeld ⊢
  refine pure_ (i := 0) (N := (some 42)) (v := ?_) (a' := ?_) #[true, false, false, false, false, false, false, false, false, false, false, false] rfl rfl (any_of HT_.out (by kernel_rfl)) (fun _ _ _ h => h) (Or.inl ⟨by rfl, ?_⟩) ?_ ?_
  rotate_left
  · intro w'
    go_simp
    with_reducible rfl
  rotate_left
  · simp only [Act.put, List.setIfInBounds_toArray, List.set_cons_zero, List.set_cons_succ, i64_w, i32_w]
    rfl
  refine pure_ (i := 1) (N := (some 43)) (v := ?_) (a' := ?_) #[true, true, false, false, false, false, false, false, false, false, false, false] rfl rfl (any_of HT_.out (by kernel_rfl)) (fun _ _ _ h => h) (Or.inl ⟨by rfl, ?_⟩) ?_ ?_
  rotate_left
  · intro w'
    go_simp
    with_reducible rfl
  rotate_left
  · simp only [Act.put, List.setIfInBounds_toArray, List.set_cons_zero, List.set_cons_succ, i64_w, i32_w]
    rfl
  refine pure_ (i := 2) (N := (some 44)) (v := ?_) (a' := ?_) #[true, true, true, false, false, false, false, false, false, false, false, false] rfl rfl (any_of HT_.out (by kernel_rfl)) (fun _ _ _ h => h) (Or.inl ⟨by rfl, ?_⟩) ?_ ?_
  rotate_left
  · intro w'
    go_simp
    with_reducible rfl
  rotate_left
  · simp only [Act.put, List.setIfInBounds_toArray, List.set_cons_zero, List.set_cons_succ, i64_w, i32_w]
    rfl
  refine pure_ (i := 3) (N := (some 45)) (v := ?_) (a' := ?_) #[true, true, true, true, false, false, false, false, false, false, false, false] rfl rfl (any_of HT_.out (by kernel_rfl)) (fun _ _ _ h => h) (Or.inl ⟨by rfl, ?_⟩) ?_ ?_
  rotate_left
  · intro w'
    go_simp
    with_reducible rfl
  rotate_left
  · simp only [Act.put, List.setIfInBounds_toArray, List.set_cons_zero, List.set_cons_succ, i64_w, i32_w]
    rfl
  refine take_ (i := 4) (N := (some 46)) (v := ?_) (a' := ?_) #[true, true, true, true, true, false, false, false, false, false, false, false] rfl rfl (take_ofW HT_.out HW_.out (by kernel_rfl)) (fun _ _ _ h => h) (Or.inl ⟨by rfl, ?_⟩) hHeld ?_ ?_
  rotate_left
  · rintro w' s0
    go_simp
    with_reducible rfl
  rotate_left
  · simp only [Act.put, List.setIfInBounds_toArray, List.set_cons_zero, List.set_cons_succ, i64_w, i32_w]
    rfl
  refine pure_ (i := 5) (N := (some 47)) (v := ?_) (a' := ?_) #[true, true, true, true, true, true, false, false, false, false, false, false] rfl rfl (any_of HT_.out (by kernel_rfl)) (fun _ _ _ h => h) (Or.inl ⟨by rfl, ?_⟩) ?_ ?_
  rotate_left
  · intro w'
    go_simp
    with_reducible rfl
  rotate_left
  · simp only [Act.put, List.setIfInBounds_toArray, List.set_cons_zero, List.set_cons_succ, i64_w, i32_w]
    rfl
  refine one_ (i := 6) (N := (some 48)) #[true, true, true, true, true, true, true, false, false, false, false, false] rfl rfl (one_of HT_.out (by kernel_rfl)) (by decide) (fun K hK => ?_)
  refine goes_ Tryz.func95 (by kernel_rfl) rfl #[.pointer (some ⟨b, 0, none⟩), .int .i64 1] (by rfl) rfl rfl (by first | rfl | (simp [Act.eval]; done) | (simp [Act.eval]; rfl)) ?_
  refine (rd_want HST.out.rl hl4 hyk).mono ?_
  rintro e w6 ⟨rfl, h6, hb6⟩
  refine ⟨_, rfl, ?_⟩
  have n1_ := Aside0.mk (HST.out.but hb6 h6)
  clear HST h6 hb6
  have HST := n1_
  clear n1_
  unfold tkV
  refine hK.out _ _ (HST.out.rl.cell3) (fun hHeld => ?_)
  clear hK K
  refine norm_ (a' := ?_) ?_ ?_
  rotate_left
  · show Act.put _ (some 48) _ = _
    simp only [Act.put, List.setIfInBounds_toArray, List.set_cons_zero, List.set_cons_succ, i64_w, i32_w]
    rfl
  refine one_ (i := 7) (N := (some 49)) #[true, true, true, true, true, true, true, true, false, false, false, false] rfl rfl (one_of HT_.out (by kernel_rfl)) (by decide) (fun K hK => ?_)
  refine Kd.R_lit_step kTk (w0 := w6) w6.heap.size 85 ?hg (N := 49) ?hd (xs := [y]) (inner := [.int .i64 y.k, .string y.s, .int .i64 y.at_]) (ok := fun _ => True) (okp := fun _ => True) ?hr ?hp (fun _ hk => hk) trivial (Below.refl _ _) (Nat.le_refl _) (by simp) ?_; (case hd => rfl); (case hg => rfl); (case hr => first | (go_simp; done) | (go_simp; rfl)); (case hp => exact (Reps.snoc (Reps.none _ _) (kTk_M _) rfl))
  intro vL w7 ho hb hg hnew
  obtain ⟨A8, c8, e8, l8, C8⟩ := Kd.R_reads ho
  subst e8
  have HX := Aside0.mk C8
  have n1_ := Aside0.mk (HST.out.later (grown_none hg))
  clear HST ho hb hg hnew C8 l8
  have HST := n1_
  clear n1_
  refine hK.out _ _ (HST.out.rl.cell3) (fun hHeld => ?_)
  clear hK K
  refine norm_ (a' := ?_) ?_ ?_
  rotate_left
  · show Act.put _ (some 49) _ = _
    simp only [Act.put, List.setIfInBounds_toArray, List.set_cons_zero, List.set_cons_succ, i64_w, i32_w]
    rfl
  refine one_ (i := 8) (N := (some 50)) #[true, true, true, true, true, true, true, true, true, false, false, false] rfl rfl (one_of HT_.out (by kernel_rfl)) (by decide) (fun K hK => ?_)
  refine Kd.R_append_rows_step kTk (w0 := w7) W0.heap.size (by rfl) (.tmp 46) (.tmp 49) 52 85 (.agg #[.int .i64 0, .string ⟨#[]⟩, .int .i64 0]) 32 rfl Tryz.underlying52 infoTok rfl (by decide) (by omega) v3 S [y] _ _ _ (fun k => k ≠ b ∧ some k ≠ v1.ownBlock) (fun _ => False) rfl rfl HST.out.r3 HX.out (fun p cs hp => (show cs = _ from kTk_open hp) ▸ kTk_M p) (fun _ h => h.elim) (fun k hk => ⟨fun he => by have := HST.out.rl.lt; omega, fun he => by have := Kd.R_lt HST.out.r1 k he.symm; omega⟩) (Below.refl _ _) HST.out.rl.below.size ?aL ?_
  case aL => have := HLEN.out.2; simp only [List.length_cons, List.length_nil]; omega
  intro vN w8 ho hb hg hat
  have n1_ := HST.out.put3 ho hg hat
  clear HST HX
  have HP := Aside0.mk n1_
  have HSL := Aside0.mk (Kd.R_slice ho)
  clear n1_ ho hb hg hat
  refine hK.out _ _ (HP.out.1.cell3) (fun hHeld => ?_)
  clear hK K
  refine norm_ (a' := ?_) ?_ ?_
  rotate_left
  · show Act.put _ (some 50) _ = _
    simp only [Act.put, List.setIfInBounds_toArray, List.set_cons_zero, List.set_cons_succ, i64_w, i32_w]
    rfl
  refine pure_ (i := 9) (N := (some 51)) (v := ?_) (a' := ?_) #[true, true, true, true, true, true, true, true, true, true, false, false] rfl rfl (any_of HT_.out (by kernel_rfl)) (fun _ _ _ h => h) (Or.inl ⟨by rfl, ?_⟩) ?_ ?_
  rotate_left
  · intro w'
    go_simp
    with_reducible rfl
  rotate_left
  · simp only [Act.put, List.setIfInBounds_toArray, List.set_cons_zero, List.set_cons_succ, i64_w, i32_w]
    rfl
  refine pure_ (i := 10) (N := (some 52)) (v := ?_) (a' := ?_) #[true, true, true, true, true, true, true, true, true, true, true, false] rfl rfl (any_of HT_.out (by kernel_rfl)) (fun _ _ _ h => h) (Or.inl ⟨by rfl, ?_⟩) ?_ ?_
  rotate_left
  · intro w'
    go_simp
    with_reducible rfl
  rotate_left
  · simp only [Act.put, List.setIfInBounds_toArray, List.set_cons_zero, List.set_cons_succ, i64_w, i32_w]
    rfl
  refine last_ (i := 11) (N := none) #[true, true, true, true, true, true, true, true, true, true, true, true] rfl rfl (one_of HT_.out (by kernel_rfl)) (by decide) (fun K hK => ?_)
  obtain ⟨v0_, hk_⟩ := HP.out.1.blk
  have f0 := (blk_cell hk_ 3).trans rfl
  have f1 := blk_frozen hk_ 3
  refine skip_ (by rfl) rfl (w1 := w8.setCell ⟨b, 3, none⟩ vN) ?hrun ?_; (case hrun => obtain ⟨An, cn, en⟩ : ∃ An cn, vN = .slice An (S ++ [y]).length cn := HSL.out; subst en; first | (go_simp; done) | (go_simp; rfl))
  clear f0 f1 hk_
  have HST := Aside0.mk HP.out.2
  clear HP
  refine hK.out _ _ ?_
  clear hK K
  refine done_ (done_of HT_.out (by kernel_rfl)) ?_
  go_wp2
  (first | go_end0 | refine bodyPost_ret (results_none rfl _ _ _) rfl ?_)
  exact ⟨rfl, _, _, HST.out⟩
end Go.Proofs.YtliofoikejdjeaaGreat
/- gread's reader: rules in memory. -/
namespace Go.Proofs.YtliofoikejdjeaaGreat
open Go.RowKit Go.Proofs.YtliofoikejdjeaaGreatW.PrintWords Go.Proofs.YtliofoikejdjeaaGreatW.PrintLast
set_option linter.unusedVariables false
set_option linter.unusedSimpArgs false
theorem infoSide : (Tryz.prog.info? 96).map (fun i => (i.zero, i.size, i.bytes)) = some (some (.agg #[.slice none 0 0, .int .i64 0]), 2, 32) := by kernel_rfl
theorem infoRu : (Tryz.prog.info? 93).map (fun i => (i.zero, i.size, i.bytes)) = some (some (.agg #[.int .i64 0, .string ⟨#[]⟩, .int .i64 0, .slice none 0 0]), 4, 56) := by kernel_rfl
def kSd : Kd Sd := Kd.iso (Kd.pair (Kd.slice 85 kTk) (Kd.int .i64)) (fun x => (x.l, x.at_))
def kRu : Kd Ru := Kd.iso (Kd.pair kTk (Kd.slice 96 kSd)) (fun x => (x.left, x.sides))
theorem kSd_M {w : World} {base : Nat} {ok : Nat → Prop} {x : Sd} {v : Value} (h : Kd.R kTk 85 w base ok v x.l) : kSd.M w base ok x [v, .int .i64 x.at_] := ⟨[v], [.int .i64 x.at_], rfl, ⟨v, rfl, h⟩, rfl⟩
theorem kSd_open {w : World} {x : Sd} {cs : List Value} (h : kSd.K w x cs) : ∃ A c, cs = [.slice A x.l.length c, .int .i64 x.at_] ∧ x.l.length ≤ c ∧ Kd.C kTk w A x.l.length x.l := by
  obtain ⟨c0, c1, rfl, ⟨A, c, e0, h0, h1⟩, h2⟩ := h
  have e1 : c1 = [.int .i64 x.at_] := h2
  have e0' : c0 = [.slice A x.l.length c] := e0
  rw [e0', e1]
  exact ⟨A, c, rfl, h0, h1⟩
theorem kRu_M {w : World} {base : Nat} {ok : Nat → Prop} {x : Ru} {v : Value} (h : Kd.R kSd 96 w base ok v x.sides) : kRu.M w base ok x [.int .i64 x.left.k, .string x.left.s, .int .i64 x.left.at_, v] := ⟨[.int .i64 x.left.k, .string x.left.s, .int .i64 x.left.at_], [v], rfl, kTk_M x.left, v, rfl, h⟩
theorem kRu_open {w : World} {x : Ru} {cs : List Value} (h : kRu.K w x cs) : ∃ A c, cs = [.int .i64 x.left.k, .string x.left.s, .int .i64 x.left.at_, .slice A x.sides.length c] ∧ x.sides.length ≤ c ∧ Kd.C kSd w A x.sides.length x.sides := by
  obtain ⟨c0, c1, rfl, h0, A, c, e1, h1, h2⟩ := h
  have e0 := kTk_open h0
  have e1' : c1 = [.slice A x.sides.length c] := e1
  rw [e0, e1']
  exact ⟨A, c, rfl, h1, h2⟩
theorem R_apartT {α β : Type} {d : Kd α} {d' : Kd β} {e e' base b' : Nat} {ok ok' : Nat → Prop} {W : World} {u v : Value} {xs : List α} {ys : List β} (h : d.R e W base ok u xs) (hv : d'.R e' W b' ok' v ys) (ht : ∀ q, q ∈ e :: d.E → q ≠ e') : d.R e W base (fun k => ok k ∧ some k ≠ v.ownBlock) u xs :=
  Kd.R_mono (Kd.R_bound h) (fun k hk => ⟨hk.1, fun he => by
    obtain ⟨_, _, _, q, hq, cells, hc⟩ := hk
    obtain ⟨cs, hcs⟩ := Kd.R_typed hv k he.symm
    rw [hc] at hcs
    injection hcs with hcs
    injection hcs with _ hcs
    exact ht q hq hcs⟩)
/-- What was made behind is none of an elder row. -/
theorem R_behind {α β : Type} {d : Kd α} {d' : Kd β} {e e' base b' : Nat} {ok ok' : Nat → Prop} {W Wv : World} {u v : Value} {xs : List α} {ys : List β} (h : d.R e W base ok u xs) (hv : d'.R e' Wv b' ok' v ys) (hb : Wv.heap.size ≤ base) : d.R e W base (fun k => ok k ∧ some k ≠ v.ownBlock) u xs :=
  Kd.R_mono (Kd.R_bound h) (fun k hk => ⟨hk.1, fun he => by have := Kd.R_lt hv k he.symm; have := hk.2.1; omega⟩)
theorem lits_rows {α : Type} {d : Kd α} {e base : Nat} {ok : Nat → Prop} {w : World} {v : Value} {xs : List α} (h : d.R e w base ok v xs) : ∃ A c, v = .slice A xs.length c ∧ ReadsRow (d.M w base (fun k => ok k ∧ some k ≠ v.ownBlock)) d.sz w A xs.length xs := by
  obtain ⟨A, c, he, _, hr⟩ := OwnRow.reads h.2
  exact ⟨A, c, he, hr⟩
section
variable {w : World} {b n c : Nat} {f : ByteArray → Option Int}
set_option maxRecDepth 100000 in
theorem msi_look (h : MapSI w b n f c) (s : ByteArray) (hs : s.size ≤ 140737488351232) (t : TypeId) (ht : Tryz.prog.underlying t = some (.map 9 3)) : (Instr.lookup t (.map (some b)) (.string s) false).run Tryz.prog w = .ok (.int .i64 ((f s).getD 0)) w := by
  obtain ⟨D, h1, h2, h3, h4⟩ := h
  obtain ⟨q, hrun, hq, _⟩ := h1.lookup_int lawS ht Tryz.underlying3 (zeroI w) (keyS s hs)
  rw [(h4 s).2] at hq
  injection hq with hq
  injection hq with _ hq
  subst hq
  exact hrun
set_option maxRecDepth 100000 in
theorem msi_upd (h : MapSI w b n f c) (hn : n ≤ 140737488351232) (s : ByteArray) (hs : s.size ≤ 140737488351232) (q : Int) (hq : (Lit.int .i64 q).wf = true) (t : TypeId) (ht : Tryz.prog.underlying t = some (.map 9 3)) :
    ∃ w', (Instr.mapUpdate t (.map (some b)) (.string s) (.int .i64 q)).run Tryz.prog w = .ok () w' ∧ MapSI w' b (n + 1) (fun u => if u = s then some q else f u) (if (f s).isSome then c else c + 1) ∧ w.grownBy w' (some b) := by
  obtain ⟨D, h1, h2, h3, h4⟩ := h
  obtain ⟨w', hrun, h5, h6⟩ := h1.update lawS ht (by unfold maxLen; omega) (keyS s hs) (plainElem_int Tryz.underlying3 hq)
  have hkl : WideAt.IsKeyLit (litS s) := lawS.key (keyS s hs)
  refine ⟨w', hrun, ⟨_, h5, h2.put hkl _, ?_, fun u => ?_⟩, h6⟩
  · rw [Go.Maps.size_put h2, (h4 s).1, h3]
  · by_cases e : u = s
    · subst e
      show Go.Maps.has _ _ = (if u = u then some q else f u).isSome ∧ _ = DataW.lit (Lit.int .i64 ((if u = u then some q else f u).getD 0))
      rw [if_pos rfl]
      exact ⟨Go.Maps.has_put_same h2.isMap hkl _, Go.Maps.atKey_put_same h2.isMap hkl _ _⟩
    · show Go.Maps.has _ _ = (if u = s then some q else f u).isSome ∧ _ = DataW.lit (Lit.int .i64 ((if u = s then some q else f u).getD 0))
      rw [if_neg e]
      have hne : litS u ≠ litS s := fun h => e (litS_inj h)
      exact ⟨(Go.Maps.has_put_other hne _).trans (h4 u).1, (Go.Maps.atKey_put_other hne _ _).trans (h4 u).2⟩
end
/-- The reader's state while rules are read. -/
structure RS (W0 w : World) (b : Nat) (l : List Tk) (v1 v2 v3 v4 : Value) (m : Nat) (D : List Tk) (M : List Int) (S : List Tk) (rs : List Ru) : Prop where
  hs : ∃ n f c, HS W0 w b l v1 v2 v3 v4 m n f c D M S ∧ (∀ u, (f u).getD 0 = leftsN rs u) ∧ n ≤ rs.length
  r4 : Kd.R kRu 93 w W0.heap.size (fun k => k ≠ b) v4 rs
theorem RS.rl {W0 w : World} {b : Nat} {l : List Tk} {v1 v2 v3 v4 : Value} {m : Nat} {D : List Tk} {M : List Int} {S : List Tk} {rs : List Ru} (h : RS W0 w b l v1 v2 v3 v4 m D M S rs) : RL W0 w b l v1 v2 v3 v4 (.map (some m)) := by
  obtain ⟨n, f, c, h, _⟩ := h.hs
  exact h.rl
theorem RS.but {W0 w w1 : World} {b : Nat} {l l' : List Tk} {v1 v2 v3 v4 : Value} {m : Nat} {D : List Tk} {M : List Int} {S : List Tk} {rs : List Ru} (h : RS W0 w b l v1 v2 v3 v4 m D M S rs) (hb : BelowBut b w w1) (hr : RL W0 w1 b l' v1 v2 v3 v4 (.map (some m))) : RS W0 w1 b l' v1 v2 v3 v4 m D M S rs := by
  obtain ⟨n, f, c, hs, h2⟩ := h.hs
  exact ⟨⟨n, f, c, hs.but hb hr, h2⟩, Kd.R_step h.r4 (fun k hk hlt => hb.block k hlt hk)⟩
/-- One rule more in the row of rules. -/
theorem RS.put4 {W0 w w1 : World} {b : Nat} {l : List Tk} {v1 v2 v3 v4 : Value} {m n c : Nat} {f : ByteArray → Option Int} {D : List Tk} {M : List Int} {S : List Tk} {rs rs' : List Ru} (h : HS W0 w b l v1 v2 v3 v4 m n f c D M S) (h4 : Kd.R kRu 93 w W0.heap.size (fun k => k ≠ b) v4 rs) {v4' : Value} (ho : Kd.R kRu 93 w1 W0.heap.size (fun k => k ≠ b) v4' rs') (hg : w.grownBy w1 v4.ownBlock) :
    RL W0 w1 b l v1 v2 v3 v4 (.map (some m)) ∧ HS W0 (w1.setCell ⟨b, 4, none⟩ v4') b l v1 v2 v3 v4' m n f c D M S ∧ Kd.R kRu 93 (w1.setCell ⟨b, 4, none⟩ v4') W0.heap.size (fun k => k ≠ b) v4' rs' := by
  have hr := h.rl.grown h4 (Nat.le_refl _) hg (by decide)
  obtain ⟨v0, hk⟩ := hr.blk
  refine ⟨hr, ⟨(hr.put v4').2.2.2, Kd.R_set (Kd.R_over h.r1 h4 (by decide) hg) hk (by decide) 4 v4', Kd.R_set (Kd.R_over h.r2 h4 (by decide) hg) hk (by decide) 4 v4', Kd.R_set (Kd.R_over h.r3 h4 (by decide) hg) hk (by decide) 4 v4', ?_, h.mb⟩, Kd.R_set ho hk (by decide) 4 v4'⟩
  have h2 := h.mp.own h4 hg
  exact h2.same (Below.heap_setCell w1 ⟨b, 4, none⟩ v4' m h.mne)
/-- A row stays where a map is written. -/
theorem R_map {α : Type} {d : Kd α} {e base : Nat} {ok : Nat → Prop} {w w1 : World} {v : Value} {xs : List α} {m : Nat} {es : Array MapEntry} {clock : Nat} (h : d.R e w base ok v xs) (hm : w.heap[m]? = some (.map es clock)) (hg : w.grownBy w1 (some m)) : d.R e w1 base ok v xs := by
  have h2 := Kd.R_step (w1 := w1) (Kd.R_bound h) (fun k hk hlt => hg.block k hlt (fun he => by
    obtain ⟨_, _, _, q, _, cells, hc⟩ := hk
    injection he with he
    subst he
    rw [hm] at hc
    cases hc))
  exact Kd.R_mono h2 (fun k hk => hk.1)
theorem HS.putM {W0 w w1 : World} {b : Nat} {l : List Tk} {v1 v2 v3 v4 : Value} {m n c n' c' : Nat} {f f' : ByteArray → Option Int} {D : List Tk} {M : List Int} {S : List Tk} (h : HS W0 w b l v1 v2 v3 v4 m n f c D M S) (hm : MapSI w1 m n' f' c') (hg : w.grownBy w1 (some m)) : HS W0 w1 b l v1 v2 v3 v4 m n' f' c' D M S := by
  obtain ⟨es, clock, h1⟩ := h.mp.map_
  obtain ⟨ad, cc, hk, hc, hC⟩ := h.rl.cells
  have hne : some b ≠ some m := fun e => h.mne (Option.some.inj e).symm
  exact ⟨⟨Below.grown h.rl.below hg h.rl.below.size (fun k hk => by cases hk; exact h.mb), h.rl.hb, ⟨ad, cc, blk_grown hk hg hne, hc, hC⟩, h.rl.pos⟩, R_map h.r1 h1 hg, R_map h.r2 h1 hg, R_map h.r3 h1 hg, hm, h.mb⟩
end Go.Proofs.YtliofoikejdjeaaGreat
