/- Texts laid one behind the other: R4, R5, R6, R7. -/
import Derived.Test.YtliofoikejdjeaaDoorV2
import Derived.Test.YtliofoikejdjeaaDoorWTab
/- gread's reader: a declaration. -/
namespace Go.Proofs.YtliofoikejdjeaaDoor
open Go.RowKit Go.Proofs.YtliofoikejdjeaaDoorW.PrintWords Go.Proofs.YtliofoikejdjeaaDoorW.PrintLast
set_option linter.unusedVariables false
set_option linter.unusedSimpArgs false
def hd6T : Bool × List (List Nat × List Nat) := (true, [([], []), ([], []), ([1], [1]), ([2], [2]), ([3], [3]), ([], []), ([5], [5]), ([6], [6]), ([4, 7, 6], [4, 7]), ([0, 0, 1, 2, 3, 4, 5, 6, 7, 8], [0]), ([9, 0, 1, 2, 3, 4, 5, 6, 7, 8], [9]), ([10, 8, 8, 0, 1, 2, 3, 4, 5, 6, 7, 8], [8, 10])])
def hd6B : List Nat := [0, 0, 2, 6, 14, 0, 32, 96, 254, 511, 1023, 2047]
theorem hd6Tab : rtab .any (opsOf Tryd.f56 6) = hd6T := by kernel_rfl
theorem hd6Bits : waitsOk hd6T.2 hd6B = true := by kernel_rfl
def hd8T : Bool × List (List Nat × List Nat) := (true, [([], []), ([], []), ([1], [1]), ([2], [2]), ([3], [3]), ([], []), ([5], [5]), ([6], [6]), ([7], [7]), ([4, 8, 6], [4, 8]), ([0, 0, 1, 2, 3, 4, 5, 6, 7, 8, 9], [0]), ([10, 0, 1, 2, 3, 4, 5, 6, 7, 8, 9], [10]), ([11, 9, 9, 0, 1, 2, 3, 4, 5, 6, 7, 8, 9], [9, 11])])
def hd8B : List Nat := [0, 0, 2, 6, 14, 0, 32, 96, 224, 510, 1023, 2047, 4095]
theorem hd8Tab : rtab .any (opsOf Tryd.f56 8) = hd8T := by kernel_rfl
theorem hd8Bits : waitsOk hd8T.2 hd8B = true := by kernel_rfl
def hd9T : Bool × List (List Nat × List Nat) := (true, [([], []), ([], []), ([1], [1]), ([2], [2]), ([3], [3]), ([], []), ([5], [5]), ([6], [6]), ([4, 7, 6], [4, 7]), ([0, 0, 1, 2, 3, 4, 5, 6, 7, 8], [0]), ([9, 0, 1, 2, 3, 4, 5, 6, 7, 8], [9]), ([10, 8, 8, 0, 1, 2, 3, 4, 5, 6, 7, 8], [8, 10])])
def hd9B : List Nat := [0, 0, 2, 6, 14, 0, 32, 96, 254, 511, 1023, 2047]
theorem hd9Tab : rtab .any (opsOf Tryd.f56 9) = hd9T := by kernel_rfl
theorem hd9Bits : waitsOk hd9T.2 hd9B = true := by kernel_rfl
section
variable {W0 w : World} {b : Nat} {l : List Tk} {v1 v2 v3 v4 v5 : Value}
theorem RL.cell1 (h : RL W0 w b l v1 v2 v3 v4 v5) : w.cell? ⟨b, 1, none⟩ = some v1 := by
  obtain ⟨v0, hk⟩ := h.blk
  exact (blk_cell hk 1).trans rfl
theorem RL.cell2 (h : RL W0 w b l v1 v2 v3 v4 v5) : w.cell? ⟨b, 2, none⟩ = some v2 := by
  obtain ⟨v0, hk⟩ := h.blk
  exact (blk_cell hk 2).trans rfl
theorem RL.cell3 (h : RL W0 w b l v1 v2 v3 v4 v5) : w.cell? ⟨b, 3, none⟩ = some v3 := by
  obtain ⟨v0, hk⟩ := h.blk
  exact (blk_cell hk 3).trans rfl
theorem RL.cell4 (h : RL W0 w b l v1 v2 v3 v4 v5) : w.cell? ⟨b, 4, none⟩ = some v4 := by
  obtain ⟨v0, hk⟩ := h.blk
  exact (blk_cell hk 4).trans rfl
theorem RL.cell5 (h : RL W0 w b l v1 v2 v3 v4 v5) : w.cell? ⟨b, 5, none⟩ = some v5 := by
  obtain ⟨v0, hk⟩ := h.blk
  exact (blk_cell hk 5).trans rfl
theorem rd_symy (h : RL W0 w b l v1 v2 v3 v4 v5) (hs : symB (hd l) = true) : Calls Tryd.prog 82 #[.pointer (some ⟨b, 0, none⟩)] w fun e w' => e = .returned (.bool true) ∧ w' = w := by
  have := rd_symbol h
  rw [hs] at this
  exact this
theorem rd_symn (h : RL W0 w b l v1 v2 v3 v4 v5) (hs : symB (hd l) = false) : Calls Tryd.prog 82 #[.pointer (some ⟨b, 0, none⟩)] w fun e w' => e = .returned (.bool false) ∧ w' = w := by
  have := rd_symbol h
  rw [hs] at this
  exact this
end
set_option maxHeartbeats 8000000 in
set_option maxRecDepth 100000 in
theorem rd_head_no {W0 w : World} {b : Nat} {v1 v2 v3 v4 : Value} {m n : Nat} {f : ByteArray → Option Int} {c : Nat} {D : List Tk} {M : List Int} {S : List Tk} {l : List Tk} (h : HS W0 w b l v1 v2 v3 v4 m n f c D M S) (h7 : (hd l).k ≠ 7) (h8 : (hd l).k ≠ 8) :
    Calls Tryd.prog 56 #[.pointer (some ⟨b, 0, none⟩)] w fun e w' => Panics (badS l) e ∧ Below W0.heap.size W0 w' := by
  have HST := Aside0.mk h
  have HK7 := Aside0.mk h7
  have HK8 := Aside0.mk h8
  clear h h7 h8
  go_enter Tryd.func56, Tryd.ntmps56
  go_wp2_with (first | (go_at_call 55; ((with_reducible refine (rd_isn HST.out.rl HK7.out).mono ?_); rintro e w' ⟨rfl, rfl⟩)) | (go_at_call 55; ((with_reducible refine (rd_isn HST.out.rl HK8.out).mono ?_); rintro e w' ⟨rfl, rfl⟩)) | (go_at_call 83; refine (rd_bad HST.out.rl).mono ?_; rintro e w' ⟨⟨older, rfl, ho⟩, rfl⟩))
  exact ⟨rfl, ⟨older, rfl, ho⟩, HST.out.rl.below⟩
set_option maxHeartbeats 8000000 in
set_option maxRecDepth 100000 in
theorem rd_head7_no {W0 w : World} {b : Nat} {v1 v2 v3 v4 : Value} {m n : Nat} {f : ByteArray → Option Int} {c : Nat} {D : List Tk} {M : List Int} {S : List Tk} {x : Tk} {l : List Tk} (h : HS W0 w b (x :: l) v1 v2 v3 v4 m n f c D M S) (h7 : x.k = 7) (hl : 0 < l.length) (hs : symB (hd l) = false) :
    Calls Tryd.prog 56 #[.pointer (some ⟨b, 0, none⟩)] w fun e w' => Panics (badS l) e ∧ Below W0.heap.size W0 w' := by
  have HST := Aside0.mk h
  have HK7 := Aside0.mk (show (hd (x :: l)).k = 7 from h7)
  have HSY := Aside0.mk hs
  clear h h7 hs
  go_enter Tryd.func56, Tryd.ntmps56
  go_wp2_with (first | (go_at_call 55; ((with_reducible refine (rd_isy HST.out.rl HK7.out).mono ?_); rintro e w' ⟨rfl, rfl⟩)) | (go_at_call 57; refine (rd_take HST.out.rl hl).mono ?_; rintro e w2 ⟨rfl, h2, hb2⟩; have H2 := Aside0.mk h2; clear h2 hb2; unfold tkV) | (go_at_call 82; refine (rd_symn H2.out HSY.out).mono ?_; rintro e w' ⟨rfl, rfl⟩) | (go_at_call 83; refine (rd_bad H2.out).mono ?_; rintro e w' ⟨⟨older, rfl, ho⟩, rfl⟩))
  exact ⟨rfl, ⟨older, rfl, ho⟩, H2.out.below⟩
set_option maxHeartbeats 8000000 in
set_option maxRecDepth 100000 in
theorem rd_head7 {W0 w : World} {b : Nat} {v1 v2 v3 v4 : Value} {m n : Nat} {f : ByteArray → Option Int} {c : Nat} {D : List Tk} {M : List Int} {S : List Tk} {x : Tk} {l : List Tk} (h : HS W0 w b (x :: l) v1 v2 v3 v4 m n f c D M S) (h7 : x.k = 7) (hl : 0 < l.length) (ht : TEnd l) (hs : symB (hd l) = true) (hm : D.length + l.length ≤ 100000) :
    Calls Tryd.prog 56 #[.pointer (some ⟨b, 0, none⟩)] w fun e w' => e = .returned (.tuple #[]) ∧ ∃ v1', HS W0 w' b (l.dropWhile symB) v1' v2 v3 v4 m n f c (D ++ l.takeWhile symB) M S := by
  have HST := Aside0.mk h
  have HK7 := Aside0.mk (show (hd (x :: l)).k = 7 from h7)
  have HSY := Aside0.mk hs
  have HT := Aside0.mk ht
  clear h h7 hs ht
  go_enter Tryd.func56, Tryd.ntmps56
  go_wp2_with (first | (go_at_call 55; ((with_reducible refine (rd_isy HST.out.rl HK7.out).mono ?_); rintro e w' ⟨rfl, rfl⟩)) | (go_at_call 57; refine (rd_take HST.out.rl hl).mono ?_; rintro e w2 ⟨rfl, h2, hb2⟩; have H2 := Aside0.mk (HST.out.but hb2 h2); clear h2 hb2; unfold tkV) | (go_at_call 82; refine (rd_symy H2.out.rl HSY.out).mono ?_; rintro e w' ⟨rfl, rfl⟩))
  clear HST
  go_loopg [15] l.length (fun gg v15 wr => ∃ (l1 l2 : List Tk) (vd : Value), l1.length + l2.length = l.length ∧ l2.length ≤ gg ∧ Aside0 (l = l1 ++ l2 ∧ ∀ x ∈ l1, symB x = true) ∧ Aside0 (HS W0 wr b l2 vd v2 v3 v4 m n f c (D ++ l1) M S) ∧ Aside0 (TEnd l2))
  case atStart => exact ⟨[], l, v1, by simp, Nat.le_refl _, ⟨rfl, fun x hx => by cases hx⟩, ⟨by rw [List.append_nil]; exact H2.out⟩, HT⟩
  case round =>
    obtain ⟨l1, l2, vd, hlen, hgg, HL, HST, HT2⟩ := hrel
    obtain ⟨Dl, hDl⟩ : ∃ y, D ++ l1 = y := ⟨_, rfl⟩
    rw [hDl] at HST
    have HLEN : Aside0 (Dl.length ≤ 100000) := ⟨by rw [← hDl, List.length_append]; omega⟩
    have HDL := Aside0.mk hDl
    clear hDl
    obtain ⟨v1, hv1⟩ : ∃ y, vd = y := ⟨_, rfl⟩
    subst hv1
    cases hq : symB (hd l2) with
    | true =>
      obtain ⟨x, l3, e2, hl3, ht3⟩ := HT2.out.hd (symB_ne hq)
      subst e2
      have HQ := Aside0.mk hq
      have HT3 := Aside0.mk ht3
      simp only [List.length_cons] at hlen hgg
      clear hq ht3
      go_wp2_with (go_at_call 82; refine (rd_symy HST.out.rl HQ.out).mono ?_; rintro e w' ⟨rfl, rfl⟩)
      have n1_ := Aside0.mk (HST.out.later (below_drew (Below.refl _ _)))
      clear HST
      have HST := n1_
      clear n1_
      refine start_ (n := 12) (S := fun w' => w'.cell? ⟨b, 1, none⟩ = some vd) (ds := [11]) #[false, false, false, false, false, false, false, false, false, false, false, false] (by kernel_rfl) rfl rfl (HST.out.rl.cell1) (fun hHeld => ?_)
      refine with_tabW hd6Tab hd6Bits (fun HT_ HW_ => ?_)
      generalize World.drew _ = w5 at HST hHeld ⊢
      refine pure_ (i := 0) (N := (some 16)) (v := ?_) (a' := ?_) #[true, false, false, false, false, false, false, false, false, false, false, false] rfl rfl (any_of HT_.out (by kernel_rfl)) (fun _ _ _ h => h) (Or.inl ⟨by rfl, ?_⟩) ?_ ?_
      rotate_left
      · intro w'
        go_simp
        with_reducible rfl
      rotate_left
      · simp only [Act.put, List.setIfInBounds_toArray, List.set_cons_zero, List.set_cons_succ, i64_w, i32_w]
        rfl
      refine pure_ (i := 1) (N := (some 17)) (v := ?_) (a' := ?_) #[true, true, false, false, false, false, false, false, false, false, false, false] rfl rfl (any_of HT_.out (by kernel_rfl)) (fun _ _ _ h => h) (Or.inl ⟨by rfl, ?_⟩) ?_ ?_
      rotate_left
      · intro w'
        go_simp
        with_reducible rfl
      rotate_left
      · simp only [Act.put, List.setIfInBounds_toArray, List.set_cons_zero, List.set_cons_succ, i64_w, i32_w]
        rfl
      refine pure_ (i := 2) (N := (some 18)) (v := ?_) (a' := ?_) #[true, true, true, false, false, false, false, false, false, false, false, false] rfl rfl (any_of HT_.out (by kernel_rfl)) (fun _ _ _ h => h) (Or.inl ⟨by rfl, ?_⟩) ?_ ?_
      rotate_left
      · intro w'
        go_simp
        with_reducible rfl
      rotate_left
      · simp only [Act.put, List.setIfInBounds_toArray, List.set_cons_zero, List.set_cons_succ, i64_w, i32_w]
        rfl
      refine pure_ (i := 3) (N := (some 19)) (v := ?_) (a' := ?_) #[true, true, true, true, false, false, false, false, false, false, false, false] rfl rfl (any_of HT_.out (by kernel_rfl)) (fun _ _ _ h => h) (Or.inl ⟨by rfl, ?_⟩) ?_ ?_
      rotate_left
      · intro w'
        go_simp
        with_reducible rfl
      rotate_left
      · simp only [Act.put, List.setIfInBounds_toArray, List.set_cons_zero, List.set_cons_succ, i64_w, i32_w]
        rfl
      refine take_ (i := 4) (N := (some 20)) (v := ?_) (a' := ?_) #[true, true, true, true, true, false, false, false, false, false, false, false] rfl rfl (take_ofW HT_.out HW_.out (by kernel_rfl)) (fun _ _ _ h => h) (Or.inl ⟨by rfl, ?_⟩) hHeld ?_ ?_
      rotate_left
      · rintro w' s0
        go_simp
        with_reducible rfl
      rotate_left
      · simp only [Act.put, List.setIfInBounds_toArray, List.set_cons_zero, List.set_cons_succ, i64_w, i32_w]
        rfl
      refine pure_ (i := 5) (N := (some 21)) (v := ?_) (a' := ?_) #[true, true, true, true, true, true, false, false, false, false, false, false] rfl rfl (any_of HT_.out (by kernel_rfl)) (fun _ _ _ h => h) (Or.inl ⟨by rfl, ?_⟩) ?_ ?_
      rotate_left
      · intro w'
        go_simp
        with_reducible rfl
      rotate_left
      · simp only [Act.put, List.setIfInBounds_toArray, List.set_cons_zero, List.set_cons_succ, i64_w, i32_w]
        rfl
      refine one_ (i := 6) (N := (some 22)) #[true, true, true, true, true, true, true, false, false, false, false, false] rfl rfl (one_of HT_.out (by kernel_rfl)) (by decide) (fun K hK => ?_)
      refine goes_ Tryd.func57 (by kernel_rfl) rfl #[.pointer (some ⟨b, 0, none⟩)] (by rfl) rfl rfl (by first | rfl | (simp [Act.eval]; done) | (simp [Act.eval]; rfl)) ?_
      refine (rd_take HST.out.rl hl3).mono ?_
      rintro e w6 ⟨rfl, h6, hb6⟩
      refine ⟨_, rfl, ?_⟩
      have n1_ := Aside0.mk (HST.out.but hb6 h6)
      clear HST h6 hb6
      have HST := n1_
      clear n1_
      unfold tkV
      refine hK.out _ _ (HST.out.rl.cell1) (fun hHeld => ?_)
      clear hK K
      refine norm_ (a' := ?_) ?_ ?_
      rotate_left
      · show Act.put _ (some 22) _ = _
        simp only [Act.put, List.setIfInBounds_toArray, List.set_cons_zero, List.set_cons_succ, i64_w, i32_w]
        rfl
      refine one_ (i := 7) (N := (some 23)) #[true, true, true, true, true, true, true, true, false, false, false, false] rfl rfl (one_of HT_.out (by kernel_rfl)) (by decide) (fun K hK => ?_)
      refine Kd.R_lit_step kTk (w0 := w6) w6.heap.size 66 ?hg (N := 23) ?hd (xs := [x]) (inner := [.int .i64 x.k, .string x.s, .int .i64 x.at_]) (ok := fun _ => True) (okp := fun _ => True) ?hr ?hp (fun _ hk => hk) trivial (Below.refl _ _) (Nat.le_refl _) (by simp) ?_; (case hd => rfl); (case hg => rfl); (case hr => first | (go_simp; done) | (go_simp; rfl)); (case hp => exact (Reps.snoc (Reps.none _ _) (kTk_M _) rfl))
      intro vL w7 ho hb hg hnew
      obtain ⟨A8, c8, e8, l8, C8⟩ := Kd.R_reads ho
      subst e8
      have HX := Aside0.mk C8
      have n1_ := Aside0.mk (HST.out.later (grown_none hg))
      clear HST ho hb hg hnew C8 l8
      have HST := n1_
      clear n1_
      refine hK.out _ _ (HST.out.rl.cell1) (fun hHeld => ?_)
      clear hK K
      refine norm_ (a' := ?_) ?_ ?_
      rotate_left
      · show Act.put _ (some 23) _ = _
        simp only [Act.put, List.setIfInBounds_toArray, List.set_cons_zero, List.set_cons_succ, i64_w, i32_w]
        rfl
      refine one_ (i := 8) (N := (some 24)) #[true, true, true, true, true, true, true, true, true, false, false, false] rfl rfl (one_of HT_.out (by kernel_rfl)) (by decide) (fun K hK => ?_)
      refine Kd.R_append_rows_step kTk (w0 := w7) W0.heap.size (by rfl) (.tmp 20) (.tmp 23) 50 66 (.agg #[.int .i64 0, .string ⟨#[]⟩, .int .i64 0]) 32 rfl Tryd.underlying50 infoTok rfl (by decide) (by omega) vd Dl [x] _ _ _ (fun k => k ≠ b ∧ some k ≠ v3.ownBlock) (fun _ => False) rfl rfl HST.out.r1 HX.out (fun p cs hp => (show cs = _ from kTk_open hp) ▸ kTk_M p) (fun _ h => h.elim) (fun k hk => ⟨fun he => by have := HST.out.rl.lt; omega, fun he => by have := Kd.R_lt HST.out.r3 k he.symm; omega⟩) (Below.refl _ _) HST.out.rl.below.size ?aL ?_
      case aL => have := HLEN.out; simp only [List.length_cons, List.length_nil]; omega
      intro vN w8 ho hb hg hat
      have n1_ := HST.out.put1 ho hg hat
      clear HST HX
      have HP := Aside0.mk n1_
      have HSL := Aside0.mk (Kd.R_slice ho)
      clear n1_ ho hb hg hat
      refine hK.out _ _ (HP.out.1.cell1) (fun hHeld => ?_)
      clear hK K
      refine norm_ (a' := ?_) ?_ ?_
      rotate_left
      · show Act.put _ (some 24) _ = _
        simp only [Act.put, List.setIfInBounds_toArray, List.set_cons_zero, List.set_cons_succ, i64_w, i32_w]
        rfl
      refine pure_ (i := 9) (N := (some 25)) (v := ?_) (a' := ?_) #[true, true, true, true, true, true, true, true, true, true, false, false] rfl rfl (any_of HT_.out (by kernel_rfl)) (fun _ _ _ h => h) (Or.inl ⟨by rfl, ?_⟩) ?_ ?_
      rotate_left
      · intro w'
        go_simp
        with_reducible rfl
      rotate_left
      · simp only [Act.put, List.setIfInBounds_toArray, List.set_cons_zero, List.set_cons_succ, i64_w, i32_w]
        rfl
      refine pure_ (i := 10) (N := (some 26)) (v := ?_) (a' := ?_) #[true, true, true, true, true, true, true, true, true, true, true, false] rfl rfl (any_of HT_.out (by kernel_rfl)) (fun _ _ _ h => h) (Or.inl ⟨by rfl, ?_⟩) ?_ ?_
      rotate_left
      · intro w'
        go_simp
        with_reducible rfl
      rotate_left
      · simp only [Act.put, List.setIfInBounds_toArray, List.set_cons_zero, List.set_cons_succ, i64_w, i32_w]
        rfl
      refine last_ (i := 11) (N := none) #[true, true, true, true, true, true, true, true, true, true, true, true] rfl rfl (one_of HT_.out (by kernel_rfl)) (by decide) (fun K hK => ?_)
      obtain ⟨v0_, hk_⟩ := HP.out.1.blk
      have f0 := (blk_cell hk_ 1).trans rfl
      have f1 := blk_frozen hk_ 1
      refine skip_ (by rfl) rfl (w1 := w8.setCell ⟨b, 1, none⟩ vN) ?hrun ?_; (case hrun => obtain ⟨An, cn, en⟩ : ∃ An cn, vN = .slice An (Dl ++ [x]).length cn := HSL.out; subst en; first | (go_simp; done) | (go_simp; rfl))
      clear f0 f1 hk_
      have HST := Aside0.mk HP.out.2
      clear HP
      refine hK.out _ _ ?_
      clear hK K
      refine done_ (done_of HT_.out (by kernel_rfl)) ?_
      go_wp2
      go_roundg l3.length
      case measure => omega
      case rel =>
        refine ⟨l1 ++ [x], l3, vN, by rw [List.length_append]; simp only [List.length_cons, List.length_nil]; omega, Nat.le_refl _, ⟨by rw [HL.out.1]; simp, fun y hy => ?_⟩, ⟨?_⟩, HT3⟩
        · rcases List.mem_append.1 hy with h | h
          · exact HL.out.2 y h
          · rw [List.mem_singleton.1 h]; exact HQ.out
        · rw [← List.append_assoc, HDL.out]
          exact HST.out
    | false =>
      obtain ⟨ep, ed⟩ := while_parts HL.out.2 hq
      rw [← HL.out.1] at ep ed
      have hne : l2 ≠ [] := by
        rintro rfl
        obtain ⟨l0, t, e, _⟩ := HT2.out
        simp at e
      have HE := Aside0.mk (And.intro ep (ed.resolve_right hne))
      have HQ := Aside0.mk hq
      clear hq ep ed hne HL
      go_wp2_with (go_at_call 82; refine (rd_symn HST.out.rl HQ.out).mono ?_; rintro e w' ⟨rfl, rfl⟩)
      (first | go_end0 | refine bodyPost_ret (results_none rfl _ _ _) rfl ?_)
      obtain ⟨e1, e2⟩ := HE.out
      rw [e1, e2]
      exact ⟨rfl, _, by rw [HDL.out]; exact HST.out⟩
end Go.Proofs.YtliofoikejdjeaaDoor
/- gread's reader: %start. -/
namespace Go.Proofs.YtliofoikejdjeaaDoor
open Go.RowKit Go.Proofs.YtliofoikejdjeaaDoorW.PrintWords Go.Proofs.YtliofoikejdjeaaDoorW.PrintLast
set_option linter.unusedVariables false
set_option linter.unusedSimpArgs false
def hd9pT : Bool × List (List Nat × List Nat) := (true, [([], []), ([], []), ([1], [1]), ([2], [2]), ([3], [3]), ([], []), ([5], [5]), ([6], [6]), ([4, 7, 6], [4, 7]), ([0, 0, 1, 2, 3, 4, 5, 6, 7, 8], [0]), ([9, 0, 1, 2, 3, 4, 5, 6, 7, 8], [9]), ([10, 8, 8, 0, 1, 2, 3, 4, 5, 6, 7, 8], [8, 10])])
def hd9pB : List Nat := [0, 0, 2, 6, 14, 0, 32, 96, 254, 511, 1023, 2047]
theorem hd9pTab : rtab .any (opsOf Tryd.f56 9) = hd9pT := by kernel_rfl
theorem hd9pBits : waitsOk hd9pT.2 hd9pB = true := by kernel_rfl
set_option maxHeartbeats 8000000 in
set_option maxRecDepth 100000 in
theorem rd_head8_no {W0 w : World} {b : Nat} {v1 v2 v3 v4 : Value} {m n : Nat} {f : ByteArray → Option Int} {c : Nat} {D : List Tk} {M : List Int} {S : List Tk} {x : Tk} {l : List Tk} (h : HS W0 w b (x :: l) v1 v2 v3 v4 m n f c D M S) (h8 : x.k = 8) (hl : 0 < l.length) (hy : (hd l).k ≠ 1) (hm : M.length ≤ 100000 ∧ S.length ≤ 100000) :
    Calls Tryd.prog 56 #[.pointer (some ⟨b, 0, none⟩)] w fun e w' => Panics (badS l) e ∧ Below W0.heap.size W0 w' := by
  have HST := Aside0.mk h
  have HK7 := Aside0.mk (show (hd (x :: l)).k ≠ 7 from by show x.k ≠ 7; rw [h8]; decide)
  have HK8 := Aside0.mk (show (hd (x :: l)).k = 8 from h8)
  have HLEN : Aside0 (M.length ≤ 100000 ∧ S.length ≤ 100000) := ⟨hm⟩
  have HY := Aside0.mk hy
  clear hy
  have hl3 := hl
  clear h h8 hm
  go_enter Tryd.func56, Tryd.ntmps56
  go_wp2_with (first | (go_at_call 55; ((with_reducible refine (rd_isn HST.out.rl HK7.out).mono ?_); rintro e w' ⟨rfl, rfl⟩)) | (go_at_call 55; ((with_reducible refine (rd_isy HST.out.rl HK8.out).mono ?_); rintro e w' ⟨rfl, rfl⟩)))
  have n1_ := Aside0.mk (HST.out.later (below_drew (Below.refl _ _)))
  clear HST
  have HST := n1_
  clear n1_
  refine start_ (n := 13) (S := fun w' => w'.cell? ⟨b, 2, none⟩ = some v2) (ds := [12]) #[false, false, false, false, false, false, false, false, false, false, false, false, false] (by kernel_rfl) rfl rfl (HST.out.rl.cell2) (fun hHeld => ?_)
  refine with_tabW hd8Tab hd8Bits (fun HT_ HW_ => ?_)
  generalize World.drew _ = w5 at HST hHeld ⊢
  refine pure_ (i := 0) (N := (some 30)) (v := ?_) (a' := ?_) #[true, false, false, false, false, false, false, false, false, false, false, false, false] rfl rfl (any_of HT_.out (by kernel_rfl)) (fun _ _ _ h => h) (Or.inl ⟨by rfl, ?_⟩) ?_ ?_
  rotate_left
  · intro w'
    go_simp
    with_reducible rfl
  rotate_left
  · simp only [Act.put, List.setIfInBounds_toArray, List.set_cons_zero, List.set_cons_succ, i64_w, i32_w]
    rfl
  refine pure_ (i := 1) (N := (some 31)) (v := ?_) (a' := ?_) #[true, true, false, false, false, false, false, false, false, false, false, false, false] rfl rfl (any_of HT_.out (by kernel_rfl)) (fun _ _ _ h => h) (Or.inl ⟨by rfl, ?_⟩) ?_ ?_
  rotate_left
  · intro w'
    go_simp
    with_reducible rfl
  rotate_left
  · simp only [Act.put, List.setIfInBounds_toArray, List.set_cons_zero, List.set_cons_succ, i64_w, i32_w]
    rfl
  refine pure_ (i := 2) (N := (some 32)) (v := ?_) (a' := ?_) #[true, true, true, false, false, false, false, false, false, false, false, false, false] rfl rfl (any_of HT_.out (by kernel_rfl)) (fun _ _ _ h => h) (Or.inl ⟨by rfl, ?_⟩) ?_ ?_
  rotate_left
  · intro w'
    go_simp
    with_reducible rfl
  rotate_left
  · simp only [Act.put, List.setIfInBounds_toArray, List.set_cons_zero, List.set_cons_succ, i64_w, i32_w]
    rfl
  refine pure_ (i := 3) (N := (some 33)) (v := ?_) (a' := ?_) #[true, true, true, true, false, false, false, false, false, false, false, false, false] rfl rfl (any_of HT_.out (by kernel_rfl)) (fun _ _ _ h => h) (Or.inl ⟨by rfl, ?_⟩) ?_ ?_
  rotate_left
  · intro w'
    go_simp
    with_reducible rfl
  rotate_left
  · simp only [Act.put, List.setIfInBounds_toArray, List.set_cons_zero, List.set_cons_succ, i64_w, i32_w]
    rfl
  refine take_ (i := 4) (N := (some 34)) (v := ?_) (a' := ?_) #[true, true, true, true, true, false, false, false, false, false, false, false, false] rfl rfl (take_ofW HT_.out HW_.out (by kernel_rfl)) (fun _ _ _ h => h) (Or.inl ⟨by rfl, ?_⟩) hHeld ?_ ?_
  rotate_left
  · rintro w' s0
    go_simp
    with_reducible rfl
  rotate_left
  · simp only [Act.put, List.setIfInBounds_toArray, List.set_cons_zero, List.set_cons_succ, i64_w, i32_w]
    rfl
  refine pure_ (i := 5) (N := (some 35)) (v := ?_) (a' := ?_) #[true, true, true, true, true, true, false, false, false, false, false, false, false] rfl rfl (any_of HT_.out (by kernel_rfl)) (fun _ _ _ h => h) (Or.inl ⟨by rfl, ?_⟩) ?_ ?_
  rotate_left
  · intro w'
    go_simp
    with_reducible rfl
  rotate_left
  · simp only [Act.put, List.setIfInBounds_toArray, List.set_cons_zero, List.set_cons_succ, i64_w, i32_w]
    rfl
  refine one_ (i := 6) (N := (some 36)) #[true, true, true, true, true, true, true, false, false, false, false, false, false] rfl rfl (one_of HT_.out (by kernel_rfl)) (by decide) (fun K hK => ?_)
  refine goes_ Tryd.func57 (by kernel_rfl) rfl #[.pointer (some ⟨b, 0, none⟩)] (by rfl) rfl rfl (by first | rfl | (simp [Act.eval]; done) | (simp [Act.eval]; rfl)) ?_
  refine (rd_take HST.out.rl hl3).mono ?_
  rintro e w6 ⟨rfl, h6, hb6⟩
  refine ⟨_, rfl, ?_⟩
  have n1_ := Aside0.mk (HST.out.but hb6 h6)
  clear HST h6 hb6
  have HST := n1_
  clear n1_
  unfold tkV
  refine hK.out _ _ (HST.out.rl.cell2) (fun hHeld => ?_)
  clear hK K
  refine norm_ (a' := ?_) ?_ ?_
  rotate_left
  · show Act.put _ (some 36) _ = _
    simp only [Act.put, List.setIfInBounds_toArray, List.set_cons_zero, List.set_cons_succ, i64_w, i32_w]
    rfl
  refine pure_ (i := 7) (N := (some 37)) (v := ?_) (a' := ?_) #[true, true, true, true, true, true, true, true, false, false, false, false, false] rfl rfl (any_of HT_.out (by kernel_rfl)) (fun _ _ _ h => h) (Or.inl ⟨by rfl, ?_⟩) ?_ ?_
  rotate_left
  · intro w'
    have tf := tokField2
    go_simp
    with_reducible rfl
  rotate_left
  · simp only [Act.put, List.setIfInBounds_toArray, List.set_cons_zero, List.set_cons_succ, i64_w, i32_w]
    rfl
  refine one_ (i := 8) (N := (some 38)) #[true, true, true, true, true, true, true, true, true, false, false, false, false] rfl rfl (one_of HT_.out (by kernel_rfl)) (by decide) (fun K hK => ?_)
  refine Kd.R_lit_step (Kd.int .i64) (w0 := w6) w6.heap.size 3 ?hg (N := 38) ?hd (xs := [x.at_]) (inner := [.int .i64 x.at_]) (ok := fun _ => True) (okp := fun _ => True) ?hr ?hp (fun _ hk => hk) trivial (Below.refl _ _) (Nat.le_refl _) (by simp) ?_; (case hd => rfl); (case hg => rfl); (case hr => first | (go_simp; done) | (go_simp; rfl)); (case hp => exact (Reps.snoc (Reps.none _ _) rfl rfl))
  intro vL w7 ho hb hg hnew
  obtain ⟨A8, c8, e8, l8, C8⟩ := Kd.R_reads ho
  subst e8
  have HX := Aside0.mk C8
  have n1_ := Aside0.mk (HST.out.later (grown_none hg))
  clear HST ho hb hg hnew C8 l8
  have HST := n1_
  clear n1_
  refine hK.out _ _ (HST.out.rl.cell2) (fun hHeld => ?_)
  clear hK K
  refine norm_ (a' := ?_) ?_ ?_
  rotate_left
  · show Act.put _ (some 38) _ = _
    simp only [Act.put, List.setIfInBounds_toArray, List.set_cons_zero, List.set_cons_succ, i64_w, i32_w]
    rfl
  refine one_ (i := 9) (N := (some 39)) #[true, true, true, true, true, true, true, true, true, true, false, false, false] rfl rfl (one_of HT_.out (by kernel_rfl)) (by decide) (fun K hK => ?_)
  refine Kd.R_append_rows_step (Kd.int .i64) (w0 := w7) W0.heap.size (by rfl) (.tmp 34) (.tmp 38) 72 3 (.int .i64 0) 8 rfl Tryd.underlying72 info3 rfl (by decide) (by omega) v2 M [x.at_] _ _ _ (fun k => k ≠ b) (fun _ => False) rfl rfl HST.out.r2 HX.out (fun _ _ h => h) (fun _ h => h.elim) (fun k hk he => by have := HST.out.rl.lt; omega) (Below.refl _ _) HST.out.rl.below.size ?aL ?_
  case aL => have := HLEN.out.1; simp only [List.length_cons, List.length_nil]; omega
  intro vN w8 ho hb hg hat
  have n1_ := HST.out.put2 ho hg
  clear HST HX
  have HP := Aside0.mk n1_
  have HSL := Aside0.mk (Kd.R_slice ho)
  clear n1_ ho hb hg hat
  refine hK.out _ _ (HP.out.1.cell2) (fun hHeld => ?_)
  clear hK K
  refine norm_ (a' := ?_) ?_ ?_
  rotate_left
  · show Act.put _ (some 39) _ = _
    simp only [Act.put, List.setIfInBounds_toArray, List.set_cons_zero, List.set_cons_succ, i64_w, i32_w]
    rfl
  refine pure_ (i := 10) (N := (some 40)) (v := ?_) (a' := ?_) #[true, true, true, true, true, true, true, true, true, true, true, false, false] rfl rfl (any_of HT_.out (by kernel_rfl)) (fun _ _ _ h => h) (Or.inl ⟨by rfl, ?_⟩) ?_ ?_
  rotate_left
  · intro w'
    go_simp
    with_reducible rfl
  rotate_left
  · simp only [Act.put, List.setIfInBounds_toArray, List.set_cons_zero, List.set_cons_succ, i64_w, i32_w]
    rfl
  refine pure_ (i := 11) (N := (some 41)) (v := ?_) (a' := ?_) #[true, true, true, true, true, true, true, true, true, true, true, true, false] rfl rfl (any_of HT_.out (by kernel_rfl)) (fun _ _ _ h => h) (Or.inl ⟨by rfl, ?_⟩) ?_ ?_
  rotate_left
  · intro w'
    go_simp
    with_reducible rfl
  rotate_left
  · simp only [Act.put, List.setIfInBounds_toArray, List.set_cons_zero, List.set_cons_succ, i64_w, i32_w]
    rfl
  refine last_ (i := 12) (N := none) #[true, true, true, true, true, true, true, true, true, true, true, true, true] rfl rfl (one_of HT_.out (by kernel_rfl)) (by decide) (fun K hK => ?_)
  obtain ⟨v0_, hk_⟩ := HP.out.1.blk
  have f0 := (blk_cell hk_ 2).trans rfl
  have f1 := blk_frozen hk_ 2
  refine skip_ (by rfl) rfl (w1 := w8.setCell ⟨b, 2, none⟩ vN) ?hrun ?_; (case hrun => obtain ⟨An, cn, en⟩ : ∃ An cn, vN = .slice An (M ++ [x.at_]).length cn := HSL.out; subst en; first | (go_simp; done) | (go_simp; rfl))
  clear f0 f1 hk_
  have HST := Aside0.mk HP.out.2
  clear HP
  refine hK.out _ _ ?_
  clear hK K
  refine done_ (done_of HT_.out (by kernel_rfl)) ?_
  go_wp2
  have n1_ := Aside0.mk (HST.out.later (below_drew (Below.refl _ _)))
  clear HST
  have HST := n1_
  clear n1_
  refine start_ (n := 12) (S := fun w' => w'.cell? ⟨b, 3, none⟩ = some v3) (ds := [11]) #[false, false, false, false, false, false, false, false, false, false, false, false] (by kernel_rfl) rfl rfl (HST.out.rl.cell3) (fun hHeld => ?_)
  refine with_tabW hd9pTab hd9pBits (fun HT_ HW_ => ?_)
  generalize World.drew _ = w5 at HST hHeld ⊢
  refine pure_ (i := 0) (N := (some 42)) (v := ?_) (a' := ?_) #[true, false, false, false, false, false, false, false, false, false, false, false] rfl rfl (any_of HT_.out (by kernel_rfl)) (fun _ _ _ h => h) (Or.inl ⟨by rfl, ?_⟩) ?_ ?_
  rotate_left
  · intro w'
    go_simp
    with_reducible rfl
  rotate_left
  · simp only [Act.put, List.setIfInBounds_toArray, List.set_cons_zero, List.set_cons_succ, i64_w, i32_w]
    rfl
  refine pure_ (i := 1) (N := (some 43)) (v := ?_) (a' := ?_) #[true, true, false, false, false, false, false, false, false, false, false, false] rfl rfl (any_of HT_.out (by kernel_rfl)) (fun _ _ _ h => h) (Or.inl ⟨by rfl, ?_⟩) ?_ ?_
  rotate_left
  · intro w'
    go_simp
    with_reducible rfl
  rotate_left
  · simp only [Act.put, List.setIfInBounds_toArray, List.set_cons_zero, List.set_cons_succ, i64_w, i32_w]
    rfl
  refine pure_ (i := 2) (N := (some 44)) (v := ?_) (a' := ?_) #[true, true, true, false, false, false, false, false, false, false, false, false] rfl rfl (any_of HT_.out (by kernel_rfl)) (fun _ _ _ h => h) (Or.inl ⟨by rfl, ?_⟩) ?_ ?_
  rotate_left
  · intro w'
    go_simp
    with_reducible rfl
  rotate_left
  · simp only [Act.put, List.setIfInBounds_toArray, List.set_cons_zero, List.set_cons_succ, i64_w, i32_w]
    rfl
  refine pure_ (i := 3) (N := (some 45)) (v := ?_) (a' := ?_) #[true, true, true, true, false, false, false, false, false, false, false, false] rfl rfl (any_of HT_.out (by kernel_rfl)) (fun _ _ _ h => h) (Or.inl ⟨by rfl, ?_⟩) ?_ ?_
  rotate_left
  · intro w'
    go_simp
    with_reducible rfl
  rotate_left
  · simp only [Act.put, List.setIfInBounds_toArray, List.set_cons_zero, List.set_cons_succ, i64_w, i32_w]
    rfl
  refine take_ (i := 4) (N := (some 46)) (v := ?_) (a' := ?_) #[true, true, true, true, true, false, false, false, false, false, false, false] rfl rfl (take_ofW HT_.out HW_.out (by kernel_rfl)) (fun _ _ _ h => h) (Or.inl ⟨by rfl, ?_⟩) hHeld ?_ ?_
  rotate_left
  · rintro w' s0
    go_simp
    with_reducible rfl
  rotate_left
  · simp only [Act.put, List.setIfInBounds_toArray, List.set_cons_zero, List.set_cons_succ, i64_w, i32_w]
    rfl
  refine pure_ (i := 5) (N := (some 47)) (v := ?_) (a' := ?_) #[true, true, true, true, true, true, false, false, false, false, false, false] rfl rfl (any_of HT_.out (by kernel_rfl)) (fun _ _ _ h => h) (Or.inl ⟨by rfl, ?_⟩) ?_ ?_
  rotate_left
  · intro w'
    go_simp
    with_reducible rfl
  rotate_left
  · simp only [Act.put, List.setIfInBounds_toArray, List.set_cons_zero, List.set_cons_succ, i64_w, i32_w]
    rfl
  refine one_ (i := 6) (N := (some 48)) #[true, true, true, true, true, true, true, false, false, false, false, false] rfl rfl (one_of HT_.out (by kernel_rfl)) (by decide) (fun K hK => ?_)
  refine goesP_ Tryd.func84 (by kernel_rfl) rfl #[.pointer (some ⟨b, 0, none⟩), .int .i64 1] (by rfl) rfl (by first | rfl | (simp [Act.eval]; done) | (simp [Act.eval]; rfl)) ?_
  refine (rd_want_no HST.out.rl HY.out).mono ?_
  rintro e w6 ⟨⟨older, rfl, ho⟩, hb6⟩
  exact ⟨_, rfl, rfl, ⟨older, rfl, ho⟩, HST.out.rl.below.trans (hb6.below HST.out.rl.hb HST.out.rl.below.size)⟩
set_option maxHeartbeats 8000000 in
set_option maxRecDepth 100000 in
theorem rd_head8 {W0 w : World} {b : Nat} {v1 v2 v3 v4 : Value} {m n : Nat} {f : ByteArray → Option Int} {c : Nat} {D : List Tk} {M : List Int} {S : List Tk} {x y : Tk} {l2 : List Tk} (h : HS W0 w b (x :: y :: l2) v1 v2 v3 v4 m n f c D M S) (h8 : x.k = 8) (hl4 : 0 < l2.length) (hyk : y.k = 1) (hm : M.length ≤ 100000 ∧ S.length ≤ 100000) :
    Calls Tryd.prog 56 #[.pointer (some ⟨b, 0, none⟩)] w fun e w' => e = .returned (.tuple #[]) ∧ ∃ v2' v3', HS W0 w' b l2 v1 v2' v3' v4 m n f c D (M ++ [x.at_]) (S ++ [y]) := by
  have HST := Aside0.mk h
  have HK7 := Aside0.mk (show (hd (x :: y :: l2)).k ≠ 7 from by show x.k ≠ 7; rw [h8]; decide)
  have HK8 := Aside0.mk (show (hd (x :: y :: l2)).k = 8 from h8)
  have HLEN : Aside0 (M.length ≤ 100000 ∧ S.length ≤ 100000) := ⟨hm⟩
  have hl : 0 < (y :: l2).length := Nat.succ_pos _
  have hl3 := hl
  clear h h8 hm
  go_enter Tryd.func56, Tryd.ntmps56
  go_wp2_with (first | (go_at_call 55; ((with_reducible refine (rd_isn HST.out.rl HK7.out).mono ?_); rintro e w' ⟨rfl, rfl⟩)) | (go_at_call 55; ((with_reducible refine (rd_isy HST.out.rl HK8.out).mono ?_); rintro e w' ⟨rfl, rfl⟩)))
  have n1_ := Aside0.mk (HST.out.later (below_drew (Below.refl _ _)))
  clear HST
  have HST := n1_
  clear n1_
  refine start_ (n := 13) (S := fun w' => w'.cell? ⟨b, 2, none⟩ = some v2) (ds := [12]) #[false, false, false, false, false, false, false, false, false, false, false, false, false] (by kernel_rfl) rfl rfl (HST.out.rl.cell2) (fun hHeld => ?_)
  refine with_tabW hd8Tab hd8Bits (fun HT_ HW_ => ?_)
  generalize World.drew _ = w5 at HST hHeld ⊢
  refine pure_ (i := 0) (N := (some 30)) (v := ?_) (a' := ?_) #[true, false, false, false, false, false, false, false, false, false, false, false, false] rfl rfl (any_of HT_.out (by kernel_rfl)) (fun _ _ _ h => h) (Or.inl ⟨by rfl, ?_⟩) ?_ ?_
  rotate_left
  · intro w'
    go_simp
    with_reducible rfl
  rotate_left
  · simp only [Act.put, List.setIfInBounds_toArray, List.set_cons_zero, List.set_cons_succ, i64_w, i32_w]
    rfl
  refine pure_ (i := 1) (N := (some 31)) (v := ?_) (a' := ?_) #[true, true, false, false, false, false, false, false, false, false, false, false, false] rfl rfl (any_of HT_.out (by kernel_rfl)) (fun _ _ _ h => h) (Or.inl ⟨by rfl, ?_⟩) ?_ ?_
  rotate_left
  · intro w'
    go_simp
    with_reducible rfl
  rotate_left
  · simp only [Act.put, List.setIfInBounds_toArray, List.set_cons_zero, List.set_cons_succ, i64_w, i32_w]
    rfl
  refine pure_ (i := 2) (N := (some 32)) (v := ?_) (a' := ?_) #[true, true, true, false, false, false, false, false, false, false, false, false, false] rfl rfl (any_of HT_.out (by kernel_rfl)) (fun _ _ _ h => h) (Or.inl ⟨by rfl, ?_⟩) ?_ ?_
  rotate_left
  · intro w'
    go_simp
    with_reducible rfl
  rotate_left
  · simp only [Act.put, List.setIfInBounds_toArray, List.set_cons_zero, List.set_cons_succ, i64_w, i32_w]
    rfl
  refine pure_ (i := 3) (N := (some 33)) (v := ?_) (a' := ?_) #[true, true, true, true, false, false, false, false, false, false, false, false, false] rfl rfl (any_of HT_.out (by kernel_rfl)) (fun _ _ _ h => h) (Or.inl ⟨by rfl, ?_⟩) ?_ ?_
  rotate_left
  · intro w'
    go_simp
    with_reducible rfl
  rotate_left
  · simp only [Act.put, List.setIfInBounds_toArray, List.set_cons_zero, List.set_cons_succ, i64_w, i32_w]
    rfl
  refine take_ (i := 4) (N := (some 34)) (v := ?_) (a' := ?_) #[true, true, true, true, true, false, false, false, false, false, false, false, false] rfl rfl (take_ofW HT_.out HW_.out (by kernel_rfl)) (fun _ _ _ h => h) (Or.inl ⟨by rfl, ?_⟩) hHeld ?_ ?_
  rotate_left
  · rintro w' s0
    go_simp
    with_reducible rfl
  rotate_left
  · simp only [Act.put, List.setIfInBounds_toArray, List.set_cons_zero, List.set_cons_succ, i64_w, i32_w]
    rfl
  refine pure_ (i := 5) (N := (some 35)) (v := ?_) (a' := ?_) #[true, true, true, true, true, true, false, false, false, false, false, false, false] rfl rfl (any_of HT_.out (by kernel_rfl)) (fun _ _ _ h => h) (Or.inl ⟨by rfl, ?_⟩) ?_ ?_
  rotate_left
  · intro w'
    go_simp
    with_reducible rfl
  rotate_left
  · simp only [Act.put, List.setIfInBounds_toArray, List.set_cons_zero, List.set_cons_succ, i64_w, i32_w]
    rfl
  refine one_ (i := 6) (N := (some 36)) #[true, true, true, true, true, true, true, false, false, false, false, false, false] rfl rfl (one_of HT_.out (by kernel_rfl)) (by decide) (fun K hK => ?_)
  refine goes_ Tryd.func57 (by kernel_rfl) rfl #[.pointer (some ⟨b, 0, none⟩)] (by rfl) rfl rfl (by first | rfl | (simp [Act.eval]; done) | (simp [Act.eval]; rfl)) ?_
  refine (rd_take HST.out.rl hl3).mono ?_
  rintro e w6 ⟨rfl, h6, hb6⟩
  refine ⟨_, rfl, ?_⟩
  have n1_ := Aside0.mk (HST.out.but hb6 h6)
  clear HST h6 hb6
  have HST := n1_
  clear n1_
  unfold tkV
  refine hK.out _ _ (HST.out.rl.cell2) (fun hHeld => ?_)
  clear hK K
  refine norm_ (a' := ?_) ?_ ?_
  rotate_left
  · show Act.put _ (some 36) _ = _
    simp only [Act.put, List.setIfInBounds_toArray, List.set_cons_zero, List.set_cons_succ, i64_w, i32_w]
    rfl
  refine pure_ (i := 7) (N := (some 37)) (v := ?_) (a' := ?_) #[true, true, true, true, true, true, true, true, false, false, false, false, false] rfl rfl (any_of HT_.out (by kernel_rfl)) (fun _ _ _ h => h) (Or.inl ⟨by rfl, ?_⟩) ?_ ?_
  rotate_left
  · intro w'
    have tf := tokField2
    go_simp
    with_reducible rfl
  rotate_left
  · simp only [Act.put, List.setIfInBounds_toArray, List.set_cons_zero, List.set_cons_succ, i64_w, i32_w]
    rfl
  refine one_ (i := 8) (N := (some 38)) #[true, true, true, true, true, true, true, true, true, false, false, false, false] rfl rfl (one_of HT_.out (by kernel_rfl)) (by decide) (fun K hK => ?_)
  refine Kd.R_lit_step (Kd.int .i64) (w0 := w6) w6.heap.size 3 ?hg (N := 38) ?hd (xs := [x.at_]) (inner := [.int .i64 x.at_]) (ok := fun _ => True) (okp := fun _ => True) ?hr ?hp (fun _ hk => hk) trivial (Below.refl _ _) (Nat.le_refl _) (by simp) ?_; (case hd => rfl); (case hg => rfl); (case hr => first | (go_simp; done) | (go_simp; rfl)); (case hp => exact (Reps.snoc (Reps.none _ _) rfl rfl))
  intro vL w7 ho hb hg hnew
  obtain ⟨A8, c8, e8, l8, C8⟩ := Kd.R_reads ho
  subst e8
  have HX := Aside0.mk C8
  have n1_ := Aside0.mk (HST.out.later (grown_none hg))
  clear HST ho hb hg hnew C8 l8
  have HST := n1_
  clear n1_
  refine hK.out _ _ (HST.out.rl.cell2) (fun hHeld => ?_)
  clear hK K
  refine norm_ (a' := ?_) ?_ ?_
  rotate_left
  · show Act.put _ (some 38) _ = _
    simp only [Act.put, List.setIfInBounds_toArray, List.set_cons_zero, List.set_cons_succ, i64_w, i32_w]
    rfl
  refine one_ (i := 9) (N := (some 39)) #[true, true, true, true, true, true, true, true, true, true, false, false, false] rfl rfl (one_of HT_.out (by kernel_rfl)) (by decide) (fun K hK => ?_)
  refine Kd.R_append_rows_step (Kd.int .i64) (w0 := w7) W0.heap.size (by rfl) (.tmp 34) (.tmp 38) 72 3 (.int .i64 0) 8 rfl Tryd.underlying72 info3 rfl (by decide) (by omega) v2 M [x.at_] _ _ _ (fun k => k ≠ b) (fun _ => False) rfl rfl HST.out.r2 HX.out (fun _ _ h => h) (fun _ h => h.elim) (fun k hk he => by have := HST.out.rl.lt; omega) (Below.refl _ _) HST.out.rl.below.size ?aL ?_
  case aL => have := HLEN.out.1; simp only [List.length_cons, List.length_nil]; omega
  intro vN w8 ho hb hg hat
  have n1_ := HST.out.put2 ho hg
  clear HST HX
  have HP := Aside0.mk n1_
  have HSL := Aside0.mk (Kd.R_slice ho)
  clear n1_ ho hb hg hat
  refine hK.out _ _ (HP.out.1.cell2) (fun hHeld => ?_)
  clear hK K
  refine norm_ (a' := ?_) ?_ ?_
  rotate_left
  · show Act.put _ (some 39) _ = _
    simp only [Act.put, List.setIfInBounds_toArray, List.set_cons_zero, List.set_cons_succ, i64_w, i32_w]
    rfl
  refine pure_ (i := 10) (N := (some 40)) (v := ?_) (a' := ?_) #[true, true, true, true, true, true, true, true, true, true, true, false, false] rfl rfl (any_of HT_.out (by kernel_rfl)) (fun _ _ _ h => h) (Or.inl ⟨by rfl, ?_⟩) ?_ ?_
  rotate_left
  · intro w'
    go_simp
    with_reducible rfl
  rotate_left
  · simp only [Act.put, List.setIfInBounds_toArray, List.set_cons_zero, List.set_cons_succ, i64_w, i32_w]
    rfl
  refine pure_ (i := 11) (N := (some 41)) (v := ?_) (a' := ?_) #[true, true, true, true, true, true, true, true, true, true, true, true, false] rfl rfl (any_of HT_.out (by kernel_rfl)) (fun _ _ _ h => h) (Or.inl ⟨by rfl, ?_⟩) ?_ ?_
  rotate_left
  · intro w'
    go_simp
    with_reducible rfl
  rotate_left
  · simp only [Act.put, List.setIfInBounds_toArray, List.set_cons_zero, List.set_cons_succ, i64_w, i32_w]
    rfl
  refine last_ (i := 12) (N := none) #[true, true, true, true, true, true, true, true, true, true, true, true, true] rfl rfl (one_of HT_.out (by kernel_rfl)) (by decide) (fun K hK => ?_)
  obtain ⟨v0_, hk_⟩ := HP.out.1.blk
  have f0 := (blk_cell hk_ 2).trans rfl
  have f1 := blk_frozen hk_ 2
  refine skip_ (by rfl) rfl (w1 := w8.setCell ⟨b, 2, none⟩ vN) ?hrun ?_; (case hrun => obtain ⟨An, cn, en⟩ : ∃ An cn, vN = .slice An (M ++ [x.at_]).length cn := HSL.out; subst en; first | (go_simp; done) | (go_simp; rfl))
  clear f0 f1 hk_
  have HST := Aside0.mk HP.out.2
  clear HP
  refine hK.out _ _ ?_
  clear hK K
  refine done_ (done_of HT_.out (by kernel_rfl)) ?_
  go_wp2
  have n1_ := Aside0.mk (HST.out.later (below_drew (Below.refl _ _)))
  clear HST
  have HST := n1_
  clear n1_
  refine start_ (n := 12) (S := fun w' => w'.cell? ⟨b, 3, none⟩ = some v3) (ds := [11]) #[false, false, false, false, false, false, false, false, false, false, false, false] (by kernel_rfl) rfl rfl (HST.out.rl.cell3) (fun hHeld => ?_)
  refine with_tabW hd9Tab hd9Bits (fun HT_ HW_ => ?_)
  generalize World.drew _ = w5 at HST hHeld ⊢
  refine pure_ (i := 0) (N := (some 42)) (v := ?_) (a' := ?_) #[true, false, false, false, false, false, false, false, false, false, false, false] rfl rfl (any_of HT_.out (by kernel_rfl)) (fun _ _ _ h => h) (Or.inl ⟨by rfl, ?_⟩) ?_ ?_
  rotate_left
  · intro w'
    go_simp
    with_reducible rfl
  rotate_left
  · simp only [Act.put, List.setIfInBounds_toArray, List.set_cons_zero, List.set_cons_succ, i64_w, i32_w]
    rfl
  refine pure_ (i := 1) (N := (some 43)) (v := ?_) (a' := ?_) #[true, true, false, false, false, false, false, false, false, false, false, false] rfl rfl (any_of HT_.out (by kernel_rfl)) (fun _ _ _ h => h) (Or.inl ⟨by rfl, ?_⟩) ?_ ?_
  rotate_left
  · intro w'
    go_simp
    with_reducible rfl
  rotate_left
  · simp only [Act.put, List.setIfInBounds_toArray, List.set_cons_zero, List.set_cons_succ, i64_w, i32_w]
    rfl
  refine pure_ (i := 2) (N := (some 44)) (v := ?_) (a' := ?_) #[true, true, true, false, false, false, false, false, false, false, false, false] rfl rfl (any_of HT_.out (by kernel_rfl)) (fun _ _ _ h => h) (Or.inl ⟨by rfl, ?_⟩) ?_ ?_
  rotate_left
  · intro w'
    go_simp
    with_reducible rfl
  rotate_left
  · simp only [Act.put, List.setIfInBounds_toArray, List.set_cons_zero, List.set_cons_succ, i64_w, i32_w]
    rfl
  refine pure_ (i := 3) (N := (some 45)) (v := ?_) (a' := ?_) #[true, true, true, true, false, false, false, false, false, false, false, false] rfl rfl (any_of HT_.out (by kernel_rfl)) (fun _ _ _ h => h) (Or.inl ⟨by rfl, ?_⟩) ?_ ?_
  rotate_left
  · intro w'
    go_simp
    with_reducible rfl
  rotate_left
  · simp only [Act.put, List.setIfInBounds_toArray, List.set_cons_zero, List.set_cons_succ, i64_w, i32_w]
    rfl
  refine take_ (i := 4) (N := (some 46)) (v := ?_) (a' := ?_) #[true, true, true, true, true, false, false, false, false, false, false, false] rfl rfl (take_ofW HT_.out HW_.out (by kernel_rfl)) (fun _ _ _ h => h) (Or.inl ⟨by rfl, ?_⟩) hHeld ?_ ?_
  rotate_left
  · rintro w' s0
    go_simp
    with_reducible rfl
  rotate_left
  · simp only [Act.put, List.setIfInBounds_toArray, List.set_cons_zero, List.set_cons_succ, i64_w, i32_w]
    rfl
  refine pure_ (i := 5) (N := (some 47)) (v := ?_) (a' := ?_) #[true, true, true, true, true, true, false, false, false, false, false, false] rfl rfl (any_of HT_.out (by kernel_rfl)) (fun _ _ _ h => h) (Or.inl ⟨by rfl, ?_⟩) ?_ ?_
  rotate_left
  · intro w'
    go_simp
    with_reducible rfl
  rotate_left
  · simp only [Act.put, List.setIfInBounds_toArray, List.set_cons_zero, List.set_cons_succ, i64_w, i32_w]
    rfl
  refine one_ (i := 6) (N := (some 48)) #[true, true, true, true, true, true, true, false, false, false, false, false] rfl rfl (one_of HT_.out (by kernel_rfl)) (by decide) (fun K hK => ?_)
  refine goes_ Tryd.func84 (by kernel_rfl) rfl #[.pointer (some ⟨b, 0, none⟩), .int .i64 1] (by rfl) rfl rfl (by first | rfl | (simp [Act.eval]; done) | (simp [Act.eval]; rfl)) ?_
  refine (rd_want HST.out.rl hl4 hyk).mono ?_
  rintro e w6 ⟨rfl, h6, hb6⟩
  refine ⟨_, rfl, ?_⟩
  have n1_ := Aside0.mk (HST.out.but hb6 h6)
  clear HST h6 hb6
  have HST := n1_
  clear n1_
  unfold tkV
  refine hK.out _ _ (HST.out.rl.cell3) (fun hHeld => ?_)
  clear hK K
  refine norm_ (a' := ?_) ?_ ?_
  rotate_left
  · show Act.put _ (some 48) _ = _
    simp only [Act.put, List.setIfInBounds_toArray, List.set_cons_zero, List.set_cons_succ, i64_w, i32_w]
    rfl
  refine one_ (i := 7) (N := (some 49)) #[true, true, true, true, true, true, true, true, false, false, false, false] rfl rfl (one_of HT_.out (by kernel_rfl)) (by decide) (fun K hK => ?_)
  refine Kd.R_lit_step kTk (w0 := w6) w6.heap.size 66 ?hg (N := 49) ?hd (xs := [y]) (inner := [.int .i64 y.k, .string y.s, .int .i64 y.at_]) (ok := fun _ => True) (okp := fun _ => True) ?hr ?hp (fun _ hk => hk) trivial (Below.refl _ _) (Nat.le_refl _) (by simp) ?_; (case hd => rfl); (case hg => rfl); (case hr => first | (go_simp; done) | (go_simp; rfl)); (case hp => exact (Reps.snoc (Reps.none _ _) (kTk_M _) rfl))
  intro vL w7 ho hb hg hnew
  obtain ⟨A8, c8, e8, l8, C8⟩ := Kd.R_reads ho
  subst e8
  have HX := Aside0.mk C8
  have n1_ := Aside0.mk (HST.out.later (grown_none hg))
  clear HST ho hb hg hnew C8 l8
  have HST := n1_
  clear n1_
  refine hK.out _ _ (HST.out.rl.cell3) (fun hHeld => ?_)
  clear hK K
  refine norm_ (a' := ?_) ?_ ?_
  rotate_left
  · show Act.put _ (some 49) _ = _
    simp only [Act.put, List.setIfInBounds_toArray, List.set_cons_zero, List.set_cons_succ, i64_w, i32_w]
    rfl
  refine one_ (i := 8) (N := (some 50)) #[true, true, true, true, true, true, true, true, true, false, false, false] rfl rfl (one_of HT_.out (by kernel_rfl)) (by decide) (fun K hK => ?_)
  refine Kd.R_append_rows_step kTk (w0 := w7) W0.heap.size (by rfl) (.tmp 46) (.tmp 49) 50 66 (.agg #[.int .i64 0, .string ⟨#[]⟩, .int .i64 0]) 32 rfl Tryd.underlying50 infoTok rfl (by decide) (by omega) v3 S [y] _ _ _ (fun k => k ≠ b ∧ some k ≠ v1.ownBlock) (fun _ => False) rfl rfl HST.out.r3 HX.out (fun p cs hp => (show cs = _ from kTk_open hp) ▸ kTk_M p) (fun _ h => h.elim) (fun k hk => ⟨fun he => by have := HST.out.rl.lt; omega, fun he => by have := Kd.R_lt HST.out.r1 k he.symm; omega⟩) (Below.refl _ _) HST.out.rl.below.size ?aL ?_
  case aL => have := HLEN.out.2; simp only [List.length_cons, List.length_nil]; omega
  intro vN w8 ho hb hg hat
  have n1_ := HST.out.put3 ho hg hat
  clear HST HX
  have HP := Aside0.mk n1_
  have HSL := Aside0.mk (Kd.R_slice ho)
  clear n1_ ho hb hg hat
  refine hK.out _ _ (HP.out.1.cell3) (fun hHeld => ?_)
  clear hK K
  refine norm_ (a' := ?_) ?_ ?_
  rotate_left
  · show Act.put _ (some 50) _ = _
    simp only [Act.put, List.setIfInBounds_toArray, List.set_cons_zero, List.set_cons_succ, i64_w, i32_w]
    rfl
  refine pure_ (i := 9) (N := (some 51)) (v := ?_) (a' := ?_) #[true, true, true, true, true, true, true, true, true, true, false, false] rfl rfl (any_of HT_.out (by kernel_rfl)) (fun _ _ _ h => h) (Or.inl ⟨by rfl, ?_⟩) ?_ ?_
  rotate_left
  · intro w'
    go_simp
    with_reducible rfl
  rotate_left
  · simp only [Act.put, List.setIfInBounds_toArray, List.set_cons_zero, List.set_cons_succ, i64_w, i32_w]
    rfl
  refine pure_ (i := 10) (N := (some 52)) (v := ?_) (a' := ?_) #[true, true, true, true, true, true, true, true, true, true, true, false] rfl rfl (any_of HT_.out (by kernel_rfl)) (fun _ _ _ h => h) (Or.inl ⟨by rfl, ?_⟩) ?_ ?_
  rotate_left
  · intro w'
    go_simp
    with_reducible rfl
  rotate_left
  · simp only [Act.put, List.setIfInBounds_toArray, List.set_cons_zero, List.set_cons_succ, i64_w, i32_w]
    rfl
  refine last_ (i := 11) (N := none) #[true, true, true, true, true, true, true, true, true, true, true, true] rfl rfl (one_of HT_.out (by kernel_rfl)) (by decide) (fun K hK => ?_)
  obtain ⟨v0_, hk_⟩ := HP.out.1.blk
  have f0 := (blk_cell hk_ 3).trans rfl
  have f1 := blk_frozen hk_ 3
  refine skip_ (by rfl) rfl (w1 := w8.setCell ⟨b, 3, none⟩ vN) ?hrun ?_; (case hrun => obtain ⟨An, cn, en⟩ : ∃ An cn, vN = .slice An (S ++ [y]).length cn := HSL.out; subst en; first | (go_simp; done) | (go_simp; rfl))
  clear f0 f1 hk_
  have HST := Aside0.mk HP.out.2
  clear HP
  refine hK.out _ _ ?_
  clear hK K
  refine done_ (done_of HT_.out (by kernel_rfl)) ?_
  go_wp2
  (first | go_end0 | refine bodyPost_ret (results_none rfl _ _ _) rfl ?_)
  exact ⟨rfl, _, _, HST.out⟩
end Go.Proofs.YtliofoikejdjeaaDoor
/- gread's reader: rules in memory. -/
namespace Go.Proofs.YtliofoikejdjeaaDoor
open Go.RowKit Go.Proofs.YtliofoikejdjeaaDoorW.PrintWords Go.Proofs.YtliofoikejdjeaaDoorW.PrintLast
set_option linter.unusedVariables false
set_option linter.unusedSimpArgs false
theorem infoSide : (Tryd.prog.info? 124).map (fun i => (i.zero, i.size, i.bytes)) = some (some (.agg #[.slice none 0 0, .int .i64 0]), 2, 32) := by kernel_rfl
theorem infoRu : (Tryd.prog.info? 121).map (fun i => (i.zero, i.size, i.bytes)) = some (some (.agg #[.int .i64 0, .string ⟨#[]⟩, .int .i64 0, .slice none 0 0]), 4, 56) := by kernel_rfl
def kSd : Kd Sd := Kd.iso (Kd.pair (Kd.slice 66 kTk) (Kd.int .i64)) (fun x => (x.l, x.at_))
def kRu : Kd Ru := Kd.iso (Kd.pair kTk (Kd.slice 124 kSd)) (fun x => (x.left, x.sides))
theorem kSd_M {w : World} {base : Nat} {ok : Nat → Prop} {x : Sd} {v : Value} (h : Kd.R kTk 66 w base ok v x.l) : kSd.M w base ok x [v, .int .i64 x.at_] := ⟨[v], [.int .i64 x.at_], rfl, ⟨v, rfl, h⟩, rfl⟩
theorem kSd_open {w : World} {x : Sd} {cs : List Value} (h : kSd.K w x cs) : ∃ A c, cs = [.slice A x.l.length c, .int .i64 x.at_] ∧ x.l.length ≤ c ∧ Kd.C kTk w A x.l.length x.l := by
  obtain ⟨c0, c1, rfl, ⟨A, c, e0, h0, h1⟩, h2⟩ := h
  have e1 : c1 = [.int .i64 x.at_] := h2
  have e0' : c0 = [.slice A x.l.length c] := e0
  rw [e0', e1]
  exact ⟨A, c, rfl, h0, h1⟩
theorem kRu_M {w : World} {base : Nat} {ok : Nat → Prop} {x : Ru} {v : Value} (h : Kd.R kSd 124 w base ok v x.sides) : kRu.M w base ok x [.int .i64 x.left.k, .string x.left.s, .int .i64 x.left.at_, v] := ⟨[.int .i64 x.left.k, .string x.left.s, .int .i64 x.left.at_], [v], rfl, kTk_M x.left, v, rfl, h⟩
theorem kRu_open {w : World} {x : Ru} {cs : List Value} (h : kRu.K w x cs) : ∃ A c, cs = [.int .i64 x.left.k, .string x.left.s, .int .i64 x.left.at_, .slice A x.sides.length c] ∧ x.sides.length ≤ c ∧ Kd.C kSd w A x.sides.length x.sides := by
  obtain ⟨c0, c1, rfl, h0, A, c, e1, h1, h2⟩ := h
  have e0 := kTk_open h0
  have e1' : c1 = [.slice A x.sides.length c] := e1
  rw [e0, e1']
  exact ⟨A, c, rfl, h1, h2⟩
theorem R_apartT {α β : Type} {d : Kd α} {d' : Kd β} {e e' base b' : Nat} {ok ok' : Nat → Prop} {W : World} {u v : Value} {xs : List α} {ys : List β} (h : d.R e W base ok u xs) (hv : d'.R e' W b' ok' v ys) (ht : ∀ q, q ∈ e :: d.E → q ≠ e') : d.R e W base (fun k => ok k ∧ some k ≠ v.ownBlock) u xs :=
  Kd.R_mono (Kd.R_bound h) (fun k hk => ⟨hk.1, fun he => by
    obtain ⟨_, _, _, q, hq, cells, hc⟩ := hk
    obtain ⟨cs, hcs⟩ := Kd.R_typed hv k he.symm
    rw [hc] at hcs
    injection hcs with hcs
    injection hcs with _ hcs
    exact ht q hq hcs⟩)
/-- What was made behind is none of an elder row. -/
theorem R_behind {α β : Type} {d : Kd α} {d' : Kd β} {e e' base b' : Nat} {ok ok' : Nat → Prop} {W Wv : World} {u v : Value} {xs : List α} {ys : List β} (h : d.R e W base ok u xs) (hv : d'.R e' Wv b' ok' v ys) (hb : Wv.heap.size ≤ base) : d.R e W base (fun k => ok k ∧ some k ≠ v.ownBlock) u xs :=
  Kd.R_mono (Kd.R_bound h) (fun k hk => ⟨hk.1, fun he => by have := Kd.R_lt hv k he.symm; have := hk.2.1; omega⟩)
theorem lits_rows {α : Type} {d : Kd α} {e base : Nat} {ok : Nat → Prop} {w : World} {v : Value} {xs : List α} (h : d.R e w base ok v xs) : ∃ A c, v = .slice A xs.length c ∧ ReadsRow (d.M w base (fun k => ok k ∧ some k ≠ v.ownBlock)) d.sz w A xs.length xs := by
  obtain ⟨A, c, he, _, hr⟩ := OwnRow.reads h.2
  exact ⟨A, c, he, hr⟩
section
variable {w : World} {b n c : Nat} {f : ByteArray → Option Int}
set_option maxRecDepth 100000 in
theorem msi_look (h : MapSI w b n f c) (s : ByteArray) (hs : s.size ≤ 140737488351232) (t : TypeId) (ht : Tryd.prog.underlying t = some (.map 9 3)) : (Instr.lookup t (.map (some b)) (.string s) false).run Tryd.prog w = .ok (.int .i64 ((f s).getD 0)) w := by
  obtain ⟨D, h1, h2, h3, h4⟩ := h
  obtain ⟨q, hrun, hq, _⟩ := h1.lookup_int lawS ht Tryd.underlying3 (zeroI w) (keyS s hs)
  rw [(h4 s).2] at hq
  injection hq with hq
  injection hq with _ hq
  subst hq
  exact hrun
set_option maxRecDepth 100000 in
theorem msi_upd (h : MapSI w b n f c) (hn : n ≤ 140737488351232) (s : ByteArray) (hs : s.size ≤ 140737488351232) (q : Int) (hq : (Lit.int .i64 q).wf = true) (t : TypeId) (ht : Tryd.prog.underlying t = some (.map 9 3)) :
    ∃ w', (Instr.mapUpdate t (.map (some b)) (.string s) (.int .i64 q)).run Tryd.prog w = .ok () w' ∧ MapSI w' b (n + 1) (fun u => if u = s then some q else f u) (if (f s).isSome then c else c + 1) ∧ w.grownBy w' (some b) := by
  obtain ⟨D, h1, h2, h3, h4⟩ := h
  obtain ⟨w', hrun, h5, h6⟩ := h1.update lawS ht (by unfold maxLen; omega) (keyS s hs) (plainElem_int Tryd.underlying3 hq)
  have hkl : WideAt.IsKeyLit (litS s) := lawS.key (keyS s hs)
  refine ⟨w', hrun, ⟨_, h5, h2.put hkl _, ?_, fun u => ?_⟩, h6⟩
  · rw [Go.Maps.size_put h2, (h4 s).1, h3]
  · by_cases e : u = s
    · subst e
      show Go.Maps.has _ _ = (if u = u then some q else f u).isSome ∧ _ = DataW.lit (Lit.int .i64 ((if u = u then some q else f u).getD 0))
      rw [if_pos rfl]
      exact ⟨Go.Maps.has_put_same h2.isMap hkl _, Go.Maps.atKey_put_same h2.isMap hkl _ _⟩
    · show Go.Maps.has _ _ = (if u = s then some q else f u).isSome ∧ _ = DataW.lit (Lit.int .i64 ((if u = s then some q else f u).getD 0))
      rw [if_neg e]
      have hne : litS u ≠ litS s := fun h => e (litS_inj h)
      exact ⟨(Go.Maps.has_put_other hne _).trans (h4 u).1, (Go.Maps.atKey_put_other hne _ _).trans (h4 u).2⟩
end
/-- The reader's state while rules are read. -/
structure RS (W0 w : World) (b : Nat) (l : List Tk) (v1 v2 v3 v4 : Value) (m : Nat) (D : List Tk) (M : List Int) (S : List Tk) (rs : List Ru) : Prop where
  hs : ∃ n f c, HS W0 w b l v1 v2 v3 v4 m n f c D M S ∧ (∀ u, (f u).getD 0 = leftsN rs u) ∧ n ≤ rs.length
  r4 : Kd.R kRu 121 w W0.heap.size (fun k => k ≠ b) v4 rs
theorem RS.rl {W0 w : World} {b : Nat} {l : List Tk} {v1 v2 v3 v4 : Value} {m : Nat} {D : List Tk} {M : List Int} {S : List Tk} {rs : List Ru} (h : RS W0 w b l v1 v2 v3 v4 m D M S rs) : RL W0 w b l v1 v2 v3 v4 (.map (some m)) := by
  obtain ⟨n, f, c, h, _⟩ := h.hs
  exact h.rl
theorem RS.but {W0 w w1 : World} {b : Nat} {l l' : List Tk} {v1 v2 v3 v4 : Value} {m : Nat} {D : List Tk} {M : List Int} {S : List Tk} {rs : List Ru} (h : RS W0 w b l v1 v2 v3 v4 m D M S rs) (hb : BelowBut b w w1) (hr : RL W0 w1 b l' v1 v2 v3 v4 (.map (some m))) : RS W0 w1 b l' v1 v2 v3 v4 m D M S rs := by
  obtain ⟨n, f, c, hs, h2⟩ := h.hs
  exact ⟨⟨n, f, c, hs.but hb hr, h2⟩, Kd.R_step h.r4 (fun k hk hlt => hb.block k hlt hk)⟩
/-- One rule more in the row of rules. -/
theorem RS.put4 {W0 w w1 : World} {b : Nat} {l : List Tk} {v1 v2 v3 v4 : Value} {m n c : Nat} {f : ByteArray → Option Int} {D : List Tk} {M : List Int} {S : List Tk} {rs rs' : List Ru} (h : HS W0 w b l v1 v2 v3 v4 m n f c D M S) (h4 : Kd.R kRu 121 w W0.heap.size (fun k => k ≠ b) v4 rs) {v4' : Value} (ho : Kd.R kRu 121 w1 W0.heap.size (fun k => k ≠ b) v4' rs') (hg : w.grownBy w1 v4.ownBlock) :
    RL W0 w1 b l v1 v2 v3 v4 (.map (some m)) ∧ HS W0 (w1.setCell ⟨b, 4, none⟩ v4') b l v1 v2 v3 v4' m n f c D M S ∧ Kd.R kRu 121 (w1.setCell ⟨b, 4, none⟩ v4') W0.heap.size (fun k => k ≠ b) v4' rs' := by
  have hr := h.rl.grown h4 (Nat.le_refl _) hg (by decide)
  obtain ⟨v0, hk⟩ := hr.blk
  refine ⟨hr, ⟨(hr.put v4').2.2.2, Kd.R_set (Kd.R_over h.r1 h4 (by decide) hg) hk (by decide) 4 v4', Kd.R_set (Kd.R_over h.r2 h4 (by decide) hg) hk (by decide) 4 v4', Kd.R_set (Kd.R_over h.r3 h4 (by decide) hg) hk (by decide) 4 v4', ?_, h.mb⟩, Kd.R_set ho hk (by decide) 4 v4'⟩
  have h2 := h.mp.own h4 hg
  exact h2.same (Below.heap_setCell w1 ⟨b, 4, none⟩ v4' m h.mne)
/-- A row stays where a map is written. -/
theorem R_map {α : Type} {d : Kd α} {e base : Nat} {ok : Nat → Prop} {w w1 : World} {v : Value} {xs : List α} {m : Nat} {es : Array MapEntry} {clock : Nat} (h : d.R e w base ok v xs) (hm : w.heap[m]? = some (.map es clock)) (hg : w.grownBy w1 (some m)) : d.R e w1 base ok v xs := by
  have h2 := Kd.R_step (w1 := w1) (Kd.R_bound h) (fun k hk hlt => hg.block k hlt (fun he => by
    obtain ⟨_, _, _, q, _, cells, hc⟩ := hk
    injection he with he
    subst he
    rw [hm] at hc
    cases hc))
  exact Kd.R_mono h2 (fun k hk => hk.1)
theorem HS.putM {W0 w w1 : World} {b : Nat} {l : List Tk} {v1 v2 v3 v4 : Value} {m n c n' c' : Nat} {f f' : ByteArray → Option Int} {D : List Tk} {M : List Int} {S : List Tk} (h : HS W0 w b l v1 v2 v3 v4 m n f c D M S) (hm : MapSI w1 m n' f' c') (hg : w.grownBy w1 (some m)) : HS W0 w1 b l v1 v2 v3 v4 m n' f' c' D M S := by
  obtain ⟨es, clock, h1⟩ := h.mp.map_
  obtain ⟨ad, cc, hk, hc, hC⟩ := h.rl.cells
  have hne : some b ≠ some m := fun e => h.mne (Option.some.inj e).symm
  exact ⟨⟨Below.grown h.rl.below hg h.rl.below.size (fun k hk => by cases hk; exact h.mb), h.rl.hb, ⟨ad, cc, blk_grown hk hg hne, hc, hC⟩, h.rl.pos⟩, R_map h.r1 h1 hg, R_map h.r2 h1 hg, R_map h.r3 h1 hg, hm, h.mb⟩
end Go.Proofs.YtliofoikejdjeaaDoor
/- gread's reader: a rule. -/
namespace Go.Proofs.YtliofoikejdjeaaDoor
open Go.RowKit Go.Proofs.YtliofoikejdjeaaDoorW.PrintWords Go.Proofs.YtliofoikejdjeaaDoorW.PrintLast
set_option linter.unusedVariables false
set_option linter.unusedSimpArgs false
def ru2T : Bool × List (List Nat × List Nat) := (true, [([], []), ([0], [0]), ([], []), ([2], [2]), ([3], [3]), ([1, 4, 3], [1, 4]), ([0, 1, 2, 3, 4, 5], []), ([6, 5, 5, 0, 1, 2, 3, 4, 5], [5, 6])])
def ru2B : List Nat := [0, 1, 0, 4, 12, 31, 63, 127]
theorem ru2Tab : rtab .any (opsOf Tryd.f58 2) = ru2T := by kernel_rfl
theorem ru2Bits : waitsOk ru2T.2 ru2B = true := by kernel_rfl
def ru5T : Bool × List (List Nat × List Nat) := (true, [([], []), ([0], [0]), ([], []), ([2], [2]), ([3], [3]), ([1, 4, 3], [1, 4]), ([0, 1, 2, 3, 4, 5], []), ([6, 5, 5, 0, 1, 2, 3, 4, 5], [5, 6])])
def ru5B : List Nat := [0, 1, 0, 4, 12, 31, 63, 127]
theorem ru5Tab : rtab .any (opsOf Tryd.f58 5) = ru5T := by kernel_rfl
theorem ru5Bits : waitsOk ru5T.2 ru5B = true := by kernel_rfl
def ru7T : Bool × List (List Nat × List Nat) := (true, [([], []), ([], []), ([1], [1]), ([2], [2]), ([3], [3]), ([], []), ([5], [5]), ([4, 6], [4, 6]), ([0, 0, 1, 2, 3, 4, 5, 6, 7], [0]), ([8, 0, 1, 2, 3, 4, 5, 6, 7], [8]), ([9, 7, 7, 0, 1, 2, 3, 4, 5, 6, 7], [7, 9])])
def ru7B : List Nat := [0, 0, 2, 6, 14, 0, 32, 126, 255, 511, 1023]
theorem ru7Tab : rtab .any (opsOf Tryd.f58 7) = ru7T := by kernel_rfl
theorem ru7Bits : waitsOk ru7T.2 ru7B = true := by kernel_rfl
def ru8T : Bool × List (List Nat × List Nat) := (true, [([], []), ([0], [0]), ([1], [1]), ([2], [2]), ([], []), ([4], [4]), ([5], [5]), ([3, 6], [3, 6]), ([7], [7]), ([3, 6, 8, 0, 1, 2, 3, 4, 5, 6, 7, 8], [3, 6, 8])])
def ru8B : List Nat := [0, 1, 3, 7, 0, 16, 48, 127, 255, 511]
theorem ru8Tab : rtab .any (opsOf Tryd.f58 8) = ru8T := by kernel_rfl
theorem ru8Bits : waitsOk ru8T.2 ru8B = true := by kernel_rfl
/-- Behind a right side. -/
def contS (f : Nat) (l : List Tk) (acc : List Sd) : Except Ft (List Tk × List Sd) := if (hd l).k = 4 then sidesS f l.tail acc else if (hd l).k = 5 then .ok (l.tail, acc) else .error (badS l)
theorem sides_cont (f : Nat) (l : List Tk) (acc : List Sd) : sidesS (f + 1) l acc = contS f (l.dropWhile symB) (acc ++ [sideS l]) := rfl
theorem leftsN_snoc (rs : List Ru) (r : Ru) (u : ByteArray) : leftsN (rs ++ [r]) u = leftsN rs u + if r.left.s = u then 1 else 0 := by
  unfold leftsN
  rw [List.countP_append]
  by_cases h : r.left.s = u <;> simp [h]
theorem leftsN_le (rs : List Ru) (u : ByteArray) : leftsN rs u ≤ rs.length := List.countP_le_length
def RuleEnd (W0 : World) (b : Nat) (v1 v2 v3 : Value) (m : Nat) (D : List Tk) (M : List Int) (S : List Tk) (rs : List Ru) (R : Except Ft (List Tk × Ru)) (e : Ending) (w' : World) : Prop :=
  match R with
  | .error f => Panics f e ∧ Below W0.heap.size W0 w'
  | .ok (l', r) => e = .returned (.tuple #[]) ∧ ∃ v4', RS W0 w' b l' v1 v2 v3 v4' m D M S (rs ++ [r])
def ruleOf (x : Tk) (R : Except Ft (List Tk × List Sd)) : Except Ft (List Tk × Ru) :=
  match R with
  | .ok (l', sd) => .ok (l', ⟨x, sd⟩)
  | .error e => .error e
theorem drop_len (l : List Tk) : (l.dropWhile symB).length ≤ l.length := (List.dropWhile_suffix symB).length_le
set_option maxHeartbeats 16000000 in
set_option maxRecDepth 100000 in
theorem rd_rule3 {W0 w : World} {b : Nat} {v1 v2 v3 v4 : Value} {m : Nat} {D : List Tk} {M : List Int} {S : List Tk} {rs : List Ru} {x y : Tk} {l : List Tk} (h : RS W0 w b (x :: y :: l) v1 v2 v3 v4 m D M S rs) (hx1 : x.k = 1) (hy3 : y.k = 3) (hl : 0 < l.length) (ht : TEnd l) (hxs : x.s.size ≤ 10000) (hm : l.length + rs.length ≤ 100000)
    {f : Nat} (hf : l.length < f) {R : Except Ft (List Tk × List Sd)} (hR : sidesS f l [] = R) :
    Calls Tryd.prog 58 #[.pointer (some ⟨b, 0, none⟩)] w (RuleEnd W0 b v1 v2 v3 m D M S rs (ruleOf x R)) := by
  have HE := Aside0.mk h
  have HE4 := Aside0.mk h.r4
  have HX1 := Aside0.mk hx1
  have HY3 := Aside0.mk hy3
  have HT := Aside0.mk ht
  have HXS : Aside0 (x.s.size ≤ 140737488351232) := ⟨by omega⟩
  have HW : W0.heap.size ≤ w.heap.size := h.rl.below.size
  have hlt := h.rl.lt
  obtain ⟨f, rfl⟩ : ∃ g, f = g + 1 := ⟨f - 1, by omega⟩
  rw [sides_cont] at hR
  have HR := Aside0.mk hR
  clear h hx1 hy3 ht hR hxs
  go_enter Tryd.func58, Tryd.ntmps58
  go_wp2_with (go_at_call 84; ((with_reducible refine (rd_want HE.out.rl (Nat.succ_pos _) HX1.out).mono ?_); rintro e w1 ⟨rfl, h1, hb1⟩; have H1 := Aside0.mk h1; have HB1 := Aside0.mk hb1; clear h1 hb1; unfold tkV))
  have hb0 : b < w1.heap.size := H1.out.lt
  go_wp2_with (go_at_call 84; ((with_reducible refine (rd_want (H1.out.alloc _) hl HY3.out).mono ?_); rintro e w2 ⟨rfl, h2, hb2⟩))
  obtain ⟨xB, hxBe⟩ : ∃ y, y = w1.heap.size := ⟨_, rfl⟩
  rw [← hxBe]
  have hxb : xB ≠ b := by omega
  have hxw : w.heap.size ≤ xB := by rw [hxBe]; exact HB1.out.size
  have HNE : Aside0 (some xB ≠ v4.ownBlock) := ⟨fun e => by have := Kd.R_lt HE4.out _ e.symm; omega⟩
  have BK : Aside0 (w2.heap[xB]? = some (.cells #[.int .i64 x.k, .string x.s, .int .i64 x.at_, .slice none 0 0] 121 (0, 0))) := ⟨by
    rw [hb2.block xB (by rw [hxBe]; simp) hxb, hxBe]
    exact blk_new w1 _⟩
  have HB := Aside0.mk ((HB1.out.alloc (.cells #[.int .i64 x.k, .string x.s, .int .i64 x.at_, .slice none 0 0] 121)).trans hb2)
  have HRL := Aside0.mk h2
  clear hxBe h2 hb2 H1 HB1 hb0 HX1 HY3
  obtain ⟨acc, hacc⟩ : ∃ y : List Sd, y = [] := ⟨_, rfl⟩
  obtain ⟨vs, hvs⟩ : ∃ y : Value, y = .slice none 0 0 := ⟨_, rfl⟩
  obtain ⟨lx, hlxe⟩ : ∃ y : List Tk, y = l := ⟨_, rfl⟩
  have HO : Aside0 (Kd.R kSd 124 w2 w.heap.size (fun k => k ≠ b) vs acc) := ⟨by rw [hvs, hacc]; exact Kd.R_nil _ _ _ _ _⟩
  rw [← hvs] at BK
  rw [← hlxe] at HRL HT
  have HAC := Aside0.mk hacc
  have HLX := Aside0.mk hlxe
  have hlx : lx.length ≤ 100000 := by rw [hlxe]; omega
  have hac0 : acc.length ≤ 100000 := by rw [hacc]; simp
  clear hacc hvs hlxe
  have n1_ := Aside0.mk (blk_drew BK.out)
  have n3_ := Aside0.mk (Kd.R_drew HO.out)
  have n4_ := Aside0.mk HB.out.drew
  have n5_ := Aside0.mk (HRL.out.later (below_drew (Below.refl _ _)))
  clear BK HO HB HRL
  have BK := n1_
  have HO := n3_
  have HB := n4_
  have HRL := n5_
  clear n1_ n3_ n4_ n5_
  refine start_ (n := 8) (S := fun w' => w'.cell? ⟨xB, 3, none⟩ = some vs) (ds := [7]) #[false, false, false, false, false, false, false, false] (by kernel_rfl) rfl rfl ((blk_cell BK.out 3).trans rfl) (fun hHeld => ?_)
  refine with_tabW ru2Tab ru2Bits (fun HT_ HW_ => ?_)
  generalize World.drew _ = w5 at HRL BK HO HB hHeld ⊢
  refine pure_ (i := 0) (N := (some 8)) (v := ?_) (a' := ?_) #[true, false, false, false, false, false, false, false] rfl rfl (any_of HT_.out (by kernel_rfl)) (fun _ _ _ h => h) (Or.inl ⟨by rfl, ?_⟩) ?_ ?_
  rotate_left
  · intro w'
    go_simp
    with_reducible rfl
  rotate_left
  · simp only [Act.put, List.setIfInBounds_toArray, List.set_cons_zero, List.set_cons_succ, i64_w, i32_w]
    rfl
  refine take_ (i := 1) (N := (some 9)) (v := ?_) (a' := ?_) #[true, true, false, false, false, false, false, false] rfl rfl (take_ofW HT_.out HW_.out (by kernel_rfl)) (fun _ _ _ h => h) (Or.inl ⟨by rfl, ?_⟩) hHeld ?_ ?_
  rotate_left
  · rintro w' s0
    go_simp
    with_reducible rfl
  rotate_left
  · simp only [Act.put, List.setIfInBounds_toArray, List.set_cons_zero, List.set_cons_succ, i64_w, i32_w]
    rfl
  refine pure_ (i := 2) (N := (some 10)) (v := ?_) (a' := ?_) #[true, true, true, false, false, false, false, false] rfl rfl (any_of HT_.out (by kernel_rfl)) (fun _ _ _ h => h) (Or.inl ⟨by rfl, ?_⟩) ?_ ?_
  rotate_left
  · intro w'
    go_simp
    with_reducible rfl
  rotate_left
  · simp only [Act.put, List.setIfInBounds_toArray, List.set_cons_zero, List.set_cons_succ, i64_w, i32_w]
    rfl
  refine one_ (i := 3) (N := (some 11)) #[true, true, true, true, false, false, false, false] rfl rfl (one_of HT_.out (by kernel_rfl)) (by decide) (fun K hK => ?_)
  refine goes_ Tryd.func85 (by kernel_rfl) rfl #[.pointer (some ⟨b, 0, none⟩)] (by rfl) rfl rfl (by first | rfl | (simp [Act.eval]; done) | (simp [Act.eval]; rfl)) ?_
  refine (rd_side HRL.out HT.out hlx).mono ?_
  rintro e w6 ⟨At, ct, rfl, ho6, h6, hb6⟩
  refine ⟨_, rfl, ?_⟩
  have n1_ := Aside0.mk ((hb6.block xB (blk_lt BK.out) hxb).trans BK.out)
  have n6_ := Aside0.mk (Kd.R_lower (R_behind ho6 HO.out (Nat.le_refl _)) HB.out.size)
  have n3_ := Aside0.mk (Kd.R_step HO.out (fun k hk hlt => hb6.block k hlt hk))
  have n4_ := Aside0.mk (HB.out.trans hb6)
  have n5_ := Aside0.mk h6
  clear HRL BK HO HB h6 hb6 ho6
  have BK := n1_
  have HO := n3_
  have HB := n4_
  have HRL := n5_
  have HTK := n6_
  clear n1_ n3_ n4_ n5_ n6_
  refine hK.out _ _ ((blk_cell BK.out 3).trans rfl) (fun hHeld => ?_)
  clear hK K
  refine norm_ (a' := ?_) ?_ ?_
  rotate_left
  · show Act.put _ (some 11) _ = _
    simp only [Act.put, List.setIfInBounds_toArray, List.set_cons_zero, List.set_cons_succ, i64_w, i32_w]
    rfl
  refine one_ (i := 4) (N := (some 12)) #[true, true, true, true, true, false, false, false] rfl rfl (one_of HT_.out (by kernel_rfl)) (by decide) (fun K hK => ?_)
  refine Kd.R_lit_step kSd (w0 := w6) w.heap.size 124 ?hg (N := 12) ?hd (xs := [sideS lx]) (inner := [.slice At (lx.takeWhile symB).length ct, .int .i64 (hd lx).at_]) (ok := fun k => k ≠ b ∧ some k ≠ vs.ownBlock) (okp := fun k => k ≠ b ∧ some k ≠ vs.ownBlock) ?hr ?hp (fun _ hk => hk) ⟨fun he => by have := HRL.out.lt; omega, fun he => by have := Kd.R_lt HO.out _ he.symm; omega⟩ (Below.refl _ _) HB.out.size (by simp) ?_; (case hd => rfl); (case hg => rfl); (case hr => first | (go_simp; done) | (go_simp; rfl)); (case hp => exact (Reps.snoc (Reps.none _ _) (kSd_M (x := sideS lx) HTK.out) rfl))
  intro vL w7 ho hb hg hnew
  obtain ⟨A8, c8, e8, C8⟩ := lits_rows ho
  subst e8
  have hgn := grown_none hg
  have n1_ := Aside0.mk (blk_grown BK.out hg (by simp))
  have n3_ := Aside0.mk (Kd.R_grown HO.out hg (fun _ _ => by simp))
  have n4_ := Aside0.mk (HB.out.trans (.of hgn))
  have n5_ := Aside0.mk (HRL.out.later hgn)
  have HX := Aside0.mk C8
  clear HRL BK HO HB HTK ho hb hg hnew C8 hgn
  have BK := n1_
  have HO := n3_
  have HB := n4_
  have HRL := n5_
  clear n1_ n3_ n4_ n5_
  refine hK.out _ _ ((blk_cell BK.out 3).trans rfl) (fun hHeld => ?_)
  clear hK K
  refine norm_ (a' := ?_) ?_ ?_
  rotate_left
  · show Act.put _ (some 12) _ = _
    simp only [Act.put, List.setIfInBounds_toArray, List.set_cons_zero, List.set_cons_succ, i64_w, i32_w]
    rfl
  refine one_ (i := 5) (N := (some 13)) #[true, true, true, true, true, true, false, false] rfl rfl (one_of HT_.out (by kernel_rfl)) (by decide) (fun K hK => ?_)
  refine Kd.R_append_rows_step kSd (w0 := w7) w.heap.size (by rfl) (.tmp 9) (.tmp 12) 119 124 (.agg #[.slice none 0 0, .int .i64 0]) 32 rfl Tryd.underlying119 infoSide rfl (by decide) (by omega) vs acc [sideS lx] _ _ _ (fun k => k ≠ b) (fun k => k ≠ b ∧ some k ≠ vs.ownBlock) rfl rfl HO.out HX.out (fun p cs hp => kSd.M_mono (fun k hk => hk.1) hp) (fun _ h => h) (fun k hk he => by have := HRL.out.lt; omega) (Below.refl _ _) HB.out.size ?aL ?_
  case aL => simp only [List.length_cons, List.length_nil]; omega
  intro vN w8 ho hb hg hat
  have hr_ : ∀ k, vs.ownBlock = some k → w.heap.size ≤ k := fun k hk => Kd.R_base HO.out k hk
  have n1_ := Aside0.mk (blk_grown BK.out hg (Kd.R_ne HO.out BK.out (by decide)))
  have n4_ := Aside0.mk (HB.out.grown hg hr_)
  have n5_ := Aside0.mk (HRL.out.grown HO.out HW hg (by decide))
  have HSL := Aside0.mk (Kd.R_slice ho)
  clear HRL BK HO HB HX hb hg hat hr_
  have BK := n1_
  have HO := Aside0.mk ho
  have HB := n4_
  have HRL := n5_
  clear n1_ n4_ n5_ ho
  refine hK.out _ _ ((blk_cell BK.out 3).trans rfl) (fun hHeld => ?_)
  clear hK K
  refine norm_ (a' := ?_) ?_ ?_
  rotate_left
  · show Act.put _ (some 13) _ = _
    simp only [Act.put, List.setIfInBounds_toArray, List.set_cons_zero, List.set_cons_succ, i64_w, i32_w]
    rfl
  refine pure_ (i := 6) (N := (some 14)) (v := ?_) (a' := ?_) #[true, true, true, true, true, true, true, false] rfl rfl (any_of HT_.out (by kernel_rfl)) (fun _ _ _ h => h) (Or.inl ⟨by rfl, ?_⟩) ?_ ?_
  rotate_left
  · intro w'
    go_simp
    with_reducible rfl
  rotate_left
  · simp only [Act.put, List.setIfInBounds_toArray, List.set_cons_zero, List.set_cons_succ, i64_w, i32_w]
    rfl
  refine last_ (i := 7) (N := none) #[true, true, true, true, true, true, true, true] rfl rfl (one_of HT_.out (by kernel_rfl)) (by decide) (fun K hK => ?_)
  have f0 := (blk_cell BK.out 3).trans rfl
  have f1 := blk_frozen BK.out 3
  refine skip_ (by rfl) rfl (w1 := w8.setCell ⟨xB, 3, none⟩ vN) ?hrun ?_; (case hrun => obtain ⟨An, cn, en⟩ : ∃ An cn, vN = .slice An (acc ++ [sideS lx]).length cn := HSL.out; subst en; first | (go_simp; done) | (go_simp; rfl))
  have n1_ := Aside0.mk (blk_set BK.out 3 vN)
  have n2_ := Aside0.mk (Kd.R_set HO.out BK.out (by decide) 3 vN)
  have n3_ := Aside0.mk (HRL.out.setOther hxb (Nat.le_trans HW hxw) 3 vN)
  have n4_ := Aside0.mk (HB.out.setNew hxw 3 vN)
  clear f0 f1 HSL BK HO HRL HB
  have BK : Aside0 ((w8.setCell ⟨xB, 3, none⟩ vN).heap[xB]? = some (.cells #[.int .i64 x.k, .string x.s, .int .i64 x.at_, vN] 121 (0, 0))) := n1_
  have HO := n2_
  have HRL := n3_
  have HB := n4_
  clear n1_ n2_ n3_ n4_
  refine hK.out _ _ ?_
  clear hK K
  refine done_ (done_of HT_.out (by kernel_rfl)) ?_
  go_wp2
  rw [HAC.out, HLX.out] at HO
  rw [HLX.out] at HRL HT
  clear hlx hac0
  go_loopg [16] l.length (fun gg v16 wr => ∃ (f : Nat) (l2 : List Tk) (acc : List Sd) (vs : Value), acc.length + l2.length ≤ l.length + 1 ∧ l2.length ≤ gg ∧ l2.length ≤ f ∧ Aside0 (contS f l2 acc = R) ∧ Aside0 (TEnd l2) ∧ Aside0 (RL W0 wr b l2 v1 v2 v3 v4 (.map (some m))) ∧ Aside0 (wr.heap[xB]? = some (.cells #[.int .i64 x.k, .string x.s, .int .i64 x.at_, vs] 121 (0, 0))) ∧ Aside0 (Kd.R kSd 124 wr w.heap.size (fun k => k ≠ b) vs acc) ∧ Aside0 (BelowBut b w wr))
  case atStart =>
    have := drop_len l
    exact ⟨f, l.dropWhile symB, _, vN, by simp only [List.length_append, List.length_cons, List.length_nil]; omega, by omega, by omega, HR, ⟨HT.out.drop⟩, HRL, BK, HO, HB⟩
  case round =>
    clear HR HRL BK HO HB HT HAC HLX
    obtain ⟨f, l2, acc, vs, hlen, hgg, hff, HR, HT2, HRL, BK, HO, HB⟩ := hrel
    by_cases hk4 : (hd l2).k = 4
    · obtain ⟨z, lx, e2, hl3, ht3⟩ := HT2.out.hd (by rw [hk4]; decide)
      subst e2
      have HK4 := Aside0.mk hk4
      have HT := Aside0.mk ht3
      simp only [List.length_cons] at hlen hgg hff
      obtain ⟨g, rfl⟩ : ∃ g, f = g + 1 := ⟨f - 1, by omega⟩
      have HR2 : Aside0 (contS g (lx.dropWhile symB) (acc ++ [sideS lx]) = R) := ⟨by rw [← HR.out, ← sides_cont]; unfold contS; rw [if_pos hk4]; rfl⟩
      have hlx : lx.length ≤ 100000 := by omega
      have hac0 : acc.length ≤ 100000 := by omega
      clear hk4 ht3 HR
      go_wp2_with (first | (go_at_call 55; ((with_reducible refine (rd_isy HRL.out HK4.out).mono ?_); rintro e w' ⟨rfl, rfl⟩)) | (go_at_call 57; ((with_reducible refine (rd_take HRL.out hl3).mono ?_); rintro e w4 ⟨rfl, h4, hb4⟩; have n1_ := Aside0.mk ((hb4.block xB (blk_lt BK.out) hxb).trans BK.out); have n3_ := Aside0.mk (Kd.R_step HO.out (fun k hk hlt => hb4.block k hlt hk)); have n4_ := Aside0.mk (HB.out.trans hb4); have n5_ := Aside0.mk h4; clear HRL BK HO HB h4 hb4; have BK := n1_; have HO := n3_; have HB := n4_; have HRL := n5_; clear n1_ n3_ n4_ n5_; unfold tkV)))
      have n1_ := Aside0.mk (blk_drew BK.out)
      have n3_ := Aside0.mk (Kd.R_drew HO.out)
      have n4_ := Aside0.mk HB.out.drew
      have n5_ := Aside0.mk (HRL.out.later (below_drew (Below.refl _ _)))
      clear BK HO HB HRL
      have BK := n1_
      have HO := n3_
      have HB := n4_
      have HRL := n5_
      clear n1_ n3_ n4_ n5_
      refine start_ (n := 8) (S := fun w' => w'.cell? ⟨xB, 3, none⟩ = some vs) (ds := [7]) #[false, false, false, false, false, false, false, false] (by kernel_rfl) rfl rfl ((blk_cell BK.out 3).trans rfl) (fun hHeld => ?_)
      refine with_tabW ru5Tab ru5Bits (fun HT_ HW_ => ?_)
      generalize World.drew _ = w5 at HRL BK HO HB hHeld ⊢
      refine pure_ (i := 0) (N := (some 19)) (v := ?_) (a' := ?_) #[true, false, false, false, false, false, false, false] rfl rfl (any_of HT_.out (by kernel_rfl)) (fun _ _ _ h => h) (Or.inl ⟨by rfl, ?_⟩) ?_ ?_
      rotate_left
      · intro w'
        go_simp
        with_reducible rfl
      rotate_left
      · simp only [Act.put, List.setIfInBounds_toArray, List.set_cons_zero, List.set_cons_succ, i64_w, i32_w]
        rfl
      refine take_ (i := 1) (N := (some 20)) (v := ?_) (a' := ?_) #[true, true, false, false, false, false, false, false] rfl rfl (take_ofW HT_.out HW_.out (by kernel_rfl)) (fun _ _ _ h => h) (Or.inl ⟨by rfl, ?_⟩) hHeld ?_ ?_
      rotate_left
      · rintro w' s0
        go_simp
        with_reducible rfl
      rotate_left
      · simp only [Act.put, List.setIfInBounds_toArray, List.set_cons_zero, List.set_cons_succ, i64_w, i32_w]
        rfl
      refine pure_ (i := 2) (N := (some 21)) (v := ?_) (a' := ?_) #[true, true, true, false, false, false, false, false] rfl rfl (any_of HT_.out (by kernel_rfl)) (fun _ _ _ h => h) (Or.inl ⟨by rfl, ?_⟩) ?_ ?_
      rotate_left
      · intro w'
        go_simp
        with_reducible rfl
      rotate_left
      · simp only [Act.put, List.setIfInBounds_toArray, List.set_cons_zero, List.set_cons_succ, i64_w, i32_w]
        rfl
      refine one_ (i := 3) (N := (some 22)) #[true, true, true, true, false, false, false, false] rfl rfl (one_of HT_.out (by kernel_rfl)) (by decide) (fun K hK => ?_)
      refine goes_ Tryd.func85 (by kernel_rfl) rfl #[.pointer (some ⟨b, 0, none⟩)] (by rfl) rfl rfl (by first | rfl | (simp [Act.eval]; done) | (simp [Act.eval]; rfl)) ?_
      refine (rd_side HRL.out HT.out hlx).mono ?_
      rintro e w6 ⟨At, ct, rfl, ho6, h6, hb6⟩
      refine ⟨_, rfl, ?_⟩
      have n1_ := Aside0.mk ((hb6.block xB (blk_lt BK.out) hxb).trans BK.out)
      have n6_ := Aside0.mk (Kd.R_lower (R_behind ho6 HO.out (Nat.le_refl _)) HB.out.size)
      have n3_ := Aside0.mk (Kd.R_step HO.out (fun k hk hlt => hb6.block k hlt hk))
      have n4_ := Aside0.mk (HB.out.trans hb6)
      have n5_ := Aside0.mk h6
      clear HRL BK HO HB h6 hb6 ho6
      have BK := n1_
      have HO := n3_
      have HB := n4_
      have HRL := n5_
      have HTK := n6_
      clear n1_ n3_ n4_ n5_ n6_
      refine hK.out _ _ ((blk_cell BK.out 3).trans rfl) (fun hHeld => ?_)
      clear hK K
      refine norm_ (a' := ?_) ?_ ?_
      rotate_left
      · show Act.put _ (some 22) _ = _
        simp only [Act.put, List.setIfInBounds_toArray, List.set_cons_zero, List.set_cons_succ, i64_w, i32_w]
        rfl
      refine one_ (i := 4) (N := (some 23)) #[true, true, true, true, true, false, false, false] rfl rfl (one_of HT_.out (by kernel_rfl)) (by decide) (fun K hK => ?_)
      refine Kd.R_lit_step kSd (w0 := w6) w.heap.size 124 ?hg (N := 23) ?hd (xs := [sideS lx]) (inner := [.slice At (lx.takeWhile symB).length ct, .int .i64 (hd lx).at_]) (ok := fun k => k ≠ b ∧ some k ≠ vs.ownBlock) (okp := fun k => k ≠ b ∧ some k ≠ vs.ownBlock) ?hr ?hp (fun _ hk => hk) ⟨fun he => by have := HRL.out.lt; omega, fun he => by have := Kd.R_lt HO.out _ he.symm; omega⟩ (Below.refl _ _) HB.out.size (by simp) ?_; (case hd => rfl); (case hg => rfl); (case hr => first | (go_simp; done) | (go_simp; rfl)); (case hp => exact (Reps.snoc (Reps.none _ _) (kSd_M (x := sideS lx) HTK.out) rfl))
      intro vL w7 ho hb hg hnew
      obtain ⟨A8, c8, e8, C8⟩ := lits_rows ho
      subst e8
      have hgn := grown_none hg
      have n1_ := Aside0.mk (blk_grown BK.out hg (by simp))
      have n3_ := Aside0.mk (Kd.R_grown HO.out hg (fun _ _ => by simp))
      have n4_ := Aside0.mk (HB.out.trans (.of hgn))
      have n5_ := Aside0.mk (HRL.out.later hgn)
      have HX := Aside0.mk C8
      clear HRL BK HO HB HTK ho hb hg hnew C8 hgn
      have BK := n1_
      have HO := n3_
      have HB := n4_
      have HRL := n5_
      clear n1_ n3_ n4_ n5_
      refine hK.out _ _ ((blk_cell BK.out 3).trans rfl) (fun hHeld => ?_)
      clear hK K
      refine norm_ (a' := ?_) ?_ ?_
      rotate_left
      · show Act.put _ (some 23) _ = _
        simp only [Act.put, List.setIfInBounds_toArray, List.set_cons_zero, List.set_cons_succ, i64_w, i32_w]
        rfl
      refine one_ (i := 5) (N := (some 24)) #[true, true, true, true, true, true, false, false] rfl rfl (one_of HT_.out (by kernel_rfl)) (by decide) (fun K hK => ?_)
      refine Kd.R_append_rows_step kSd (w0 := w7) w.heap.size (by rfl) (.tmp 20) (.tmp 23) 119 124 (.agg #[.slice none 0 0, .int .i64 0]) 32 rfl Tryd.underlying119 infoSide rfl (by decide) (by omega) vs acc [sideS lx] _ _ _ (fun k => k ≠ b) (fun k => k ≠ b ∧ some k ≠ vs.ownBlock) rfl rfl HO.out HX.out (fun p cs hp => kSd.M_mono (fun k hk => hk.1) hp) (fun _ h => h) (fun k hk he => by have := HRL.out.lt; omega) (Below.refl _ _) HB.out.size ?aL ?_
      case aL => simp only [List.length_cons, List.length_nil]; omega
      intro vN w8 ho hb hg hat
      have hr_ : ∀ k, vs.ownBlock = some k → w.heap.size ≤ k := fun k hk => Kd.R_base HO.out k hk
      have n1_ := Aside0.mk (blk_grown BK.out hg (Kd.R_ne HO.out BK.out (by decide)))
      have n4_ := Aside0.mk (HB.out.grown hg hr_)
      have n5_ := Aside0.mk (HRL.out.grown HO.out HW hg (by decide))
      have HSL := Aside0.mk (Kd.R_slice ho)
      clear HRL BK HO HB HX hb hg hat hr_
      have BK := n1_
      have HO := Aside0.mk ho
      have HB := n4_
      have HRL := n5_
      clear n1_ n4_ n5_ ho
      refine hK.out _ _ ((blk_cell BK.out 3).trans rfl) (fun hHeld => ?_)
      clear hK K
      refine norm_ (a' := ?_) ?_ ?_
      rotate_left
      · show Act.put _ (some 24) _ = _
        simp only [Act.put, List.setIfInBounds_toArray, List.set_cons_zero, List.set_cons_succ, i64_w, i32_w]
        rfl
      refine pure_ (i := 6) (N := (some 25)) (v := ?_) (a' := ?_) #[true, true, true, true, true, true, true, false] rfl rfl (any_of HT_.out (by kernel_rfl)) (fun _ _ _ h => h) (Or.inl ⟨by rfl, ?_⟩) ?_ ?_
      rotate_left
      · intro w'
        go_simp
        with_reducible rfl
      rotate_left
      · simp only [Act.put, List.setIfInBounds_toArray, List.set_cons_zero, List.set_cons_succ, i64_w, i32_w]
        rfl
      refine last_ (i := 7) (N := none) #[true, true, true, true, true, true, true, true] rfl rfl (one_of HT_.out (by kernel_rfl)) (by decide) (fun K hK => ?_)
      have f0 := (blk_cell BK.out 3).trans rfl
      have f1 := blk_frozen BK.out 3
      refine skip_ (by rfl) rfl (w1 := w8.setCell ⟨xB, 3, none⟩ vN) ?hrun ?_; (case hrun => obtain ⟨An, cn, en⟩ : ∃ An cn, vN = .slice An (acc ++ [sideS lx]).length cn := HSL.out; subst en; first | (go_simp; done) | (go_simp; rfl))
      have n1_ := Aside0.mk (blk_set BK.out 3 vN)
      have n2_ := Aside0.mk (Kd.R_set HO.out BK.out (by decide) 3 vN)
      have n3_ := Aside0.mk (HRL.out.setOther hxb (Nat.le_trans HW hxw) 3 vN)
      have n4_ := Aside0.mk (HB.out.setNew hxw 3 vN)
      clear f0 f1 HSL BK HO HRL HB
      have BK : Aside0 ((w8.setCell ⟨xB, 3, none⟩ vN).heap[xB]? = some (.cells #[.int .i64 x.k, .string x.s, .int .i64 x.at_, vN] 121 (0, 0))) := n1_
      have HO := n2_
      have HRL := n3_
      have HB := n4_
      clear n1_ n2_ n3_ n4_
      refine hK.out _ _ ?_
      clear hK K
      refine done_ (done_of HT_.out (by kernel_rfl)) ?_
      go_wp2
      go_roundg lx.length
      case measure => omega
      case rel =>
        have := drop_len lx
        exact ⟨g, lx.dropWhile symB, acc ++ [sideS lx], vN, by simp only [List.length_append, List.length_cons, List.length_nil]; omega, by omega, by omega, HR2, ⟨HT.out.drop⟩, HRL, BK, HO, HB⟩
    · have HK4 := Aside0.mk hk4
      by_cases hk5 : (hd l2).k = 5
      · obtain ⟨z, l3, e2, hl3, ht3⟩ := HT2.out.hd (by rw [hk5]; decide)
        subst e2
        have HK5 := Aside0.mk (show z.k = 5 from hk5)
        have HRv : Aside0 (R = .ok (l3, acc)) := ⟨by rw [← HR.out]; unfold contS; rw [if_neg hk4, if_pos hk5]; rfl⟩
        simp only [List.length_cons] at hlen hgg hff
        clear hk4 hk5 ht3 HR
        go_wp2_with (first | (go_at_call 55; ((with_reducible refine (rd_isn HRL.out HK4.out).mono ?_); rintro e w' ⟨rfl, rfl⟩)) | (go_at_call 84; ((with_reducible refine (rd_want HRL.out hl3 HK5.out).mono ?_); rintro e w4 ⟨rfl, h4, hb4⟩; have n1_ := Aside0.mk ((hb4.block xB (blk_lt BK.out) hxb).trans BK.out); have n3_ := Aside0.mk (Kd.R_step HO.out (fun k hk hlt => hb4.block k hlt hk)); have n4_ := Aside0.mk (HE.out.but (HB.out.trans hb4) h4); clear HRL BK HO HB h4 hb4; have BK := n1_; have HO := n3_; have HRS := n4_; clear n1_ n3_ n4_; unfold tkV)))
        obtain ⟨n, ff, c, hsx, hff2, hnr⟩ := HRS.out.hs
        obtain ⟨An, cn, en⟩ := Kd.R_slice HO.out
        subst en
        have n1_ := Aside0.mk (blk_drew BK.out)
        have n3_ := Aside0.mk (Kd.R_drew HO.out)
        have HSX := Aside0.mk (hsx.later (below_drew (Below.refl _ _)))
        have HR4 := Aside0.mk (Kd.R_drew HRS.out.r4)
        have HFF := Aside0.mk hff2
        obtain ⟨q, hq⟩ : ∃ q, (ff x.s).getD 0 = q := ⟨_, rfl⟩
        have HQ := Aside0.mk hq
        have hqv : q = leftsN rs x.s := by rw [← hq, hff2]
        have hqw : (Lit.int .i64 (q + 1)).wf = true := by
          have e1 : IntKind.i64.min = -9223372036854775808 := rfl
          have e2 : IntKind.i64.max = 9223372036854775807 := rfl
          have := leftsN_le rs x.s
          simp [Lit.wf, e1, e2]
          omega
        have HQV := Aside0.mk hqv
        have HWR : Aside0 (wrap64 (q + 1) = q + 1) := ⟨by have := leftsN_le rs x.s; unfold wrap64; omega⟩
        have hnn : n ≤ 140737488351232 := by omega
        clear BK HO HRS hsx hff2 hq hqv
        have BK := n1_
        have HO := n3_
        clear n1_ n3_
        refine start_ (n := 11) (S := fun w' => w'.cell? ⟨b, 4, none⟩ = some v4 ∧ w'.cell? ⟨xB, 0, none⟩ = some (.int .i64 x.k) ∧ w'.cell? ⟨xB, 1, none⟩ = some (.string x.s) ∧ w'.cell? ⟨xB, 2, none⟩ = some (.int .i64 x.at_) ∧ w'.cell? ⟨xB, 3, none⟩ = some (.slice An acc.length cn)) (ds := [10]) #[false, false, false, false, false, false, false, false, false, false, false] (by kernel_rfl) rfl rfl ⟨HSX.out.rl.cell4, (blk_cell BK.out 0).trans rfl, (blk_cell BK.out 1).trans rfl, (blk_cell BK.out 2).trans rfl, (blk_cell BK.out 3).trans rfl⟩ (fun hHeld => ?_)
        refine with_tabW ru7Tab ru7Bits (fun HT_ HW_ => ?_)
        generalize World.drew _ = w5 at HSX HR4 BK HO hHeld ⊢
        refine pure_ (i := 0) (N := (some 28)) (v := ?_) (a' := ?_) #[true, false, false, false, false, false, false, false, false, false, false] rfl rfl (any_of HT_.out (by kernel_rfl)) (fun _ _ _ h => h) (Or.inl ⟨by rfl, ?_⟩) ?_ ?_
        rotate_left
        · intro w'
          go_simp
          with_reducible rfl
        rotate_left
        · simp only [Act.put, List.setIfInBounds_toArray, List.set_cons_zero, List.set_cons_succ, i64_w, i32_w]
          rfl
        refine pure_ (i := 1) (N := (some 29)) (v := ?_) (a' := ?_) #[true, true, false, false, false, false, false, false, false, false, false] rfl rfl (any_of HT_.out (by kernel_rfl)) (fun _ _ _ h => h) (Or.inl ⟨by rfl, ?_⟩) ?_ ?_
        rotate_left
        · intro w'
          go_simp
          with_reducible rfl
        rotate_left
        · simp only [Act.put, List.setIfInBounds_toArray, List.set_cons_zero, List.set_cons_succ, i64_w, i32_w]
          rfl
        refine pure_ (i := 2) (N := (some 30)) (v := ?_) (a' := ?_) #[true, true, true, false, false, false, false, false, false, false, false] rfl rfl (any_of HT_.out (by kernel_rfl)) (fun _ _ _ h => h) (Or.inl ⟨by rfl, ?_⟩) ?_ ?_
        rotate_left
        · intro w'
          go_simp
          with_reducible rfl
        rotate_left
        · simp only [Act.put, List.setIfInBounds_toArray, List.set_cons_zero, List.set_cons_succ, i64_w, i32_w]
          rfl
        refine pure_ (i := 3) (N := (some 31)) (v := ?_) (a' := ?_) #[true, true, true, true, false, false, false, false, false, false, false] rfl rfl (any_of HT_.out (by kernel_rfl)) (fun _ _ _ h => h) (Or.inl ⟨by rfl, ?_⟩) ?_ ?_
        rotate_left
        · intro w'
          go_simp
          with_reducible rfl
        rotate_left
        · simp only [Act.put, List.setIfInBounds_toArray, List.set_cons_zero, List.set_cons_succ, i64_w, i32_w]
          rfl
        refine take_ (i := 4) (N := (some 32)) (v := ?_) (a' := ?_) #[true, true, true, true, true, false, false, false, false, false, false] rfl rfl (take_ofW HT_.out HW_.out (by kernel_rfl)) (fun _ _ _ h => h) (Or.inl ⟨by rfl, ?_⟩) hHeld ?_ ?_
        rotate_left
        · rintro w' ⟨s0, s1, s2, s3, s4⟩
          go_simp
          with_reducible rfl
        rotate_left
        · simp only [Act.put, List.setIfInBounds_toArray, List.set_cons_zero, List.set_cons_succ, i64_w, i32_w]
          rfl
        refine take_ (i := 5) (N := (some 33)) (v := ?_) (a' := ?_) #[true, true, true, true, true, true, false, false, false, false, false] rfl rfl (take_ofW HT_.out HW_.out (by kernel_rfl)) (fun _ _ _ h => h) (Or.inl ⟨by rfl, ?_⟩) hHeld ?_ ?_
        rotate_left
        · rintro w' ⟨s0, s1, s2, s3, s4⟩
          go_simp
          with_reducible rfl
        rotate_left
        · simp only [Act.put, List.setIfInBounds_toArray, List.set_cons_zero, List.set_cons_succ, i64_w, i32_w]
          rfl
        refine one_ (i := 6) (N := (some 34)) #[true, true, true, true, true, true, true, false, false, false, false] rfl rfl (one_of HT_.out (by kernel_rfl)) (by decide) (fun K hK => ?_)
        have hM := kRu_M (x := ⟨x, acc⟩) (Kd.R_lower (R_behind HO.out HE4.out (Nat.le_refl _)) HW)
        refine Kd.R_lit_step kRu (w0 := w5) W0.heap.size 121 ?hg (N := 34) ?hd (xs := [(⟨x, acc⟩ : Ru)]) (inner := [.int .i64 x.k, .string x.s, .int .i64 x.at_, .slice An acc.length cn]) (ok := fun k => k ≠ b ∧ some k ≠ v4.ownBlock) (okp := fun k => k ≠ b ∧ some k ≠ v4.ownBlock) ?hr ?hp (fun _ hk => hk) ⟨fun he => by have := HSX.out.rl.lt; omega, fun he => by have := Kd.R_lt HR4.out _ he.symm; omega⟩ (Below.refl _ _) HSX.out.rl.below.size (by simp) ?_; (case hd => rfl); (case hg => rfl); (case hr => first | (go_simp; done) | (go_simp; rfl)); (case hp => exact (Reps.snoc (Reps.none _ _) hM rfl))
        intro vL w7 ho hb hg hnew
        clear hM
        obtain ⟨A8, c8, e8, C8⟩ := lits_rows ho
        subst e8
        have hgn := grown_none hg
        have n1_ := Aside0.mk (blk_grown BK.out hg (by simp))
        have n2_ := Aside0.mk (HSX.out.later hgn)
        have n3_ := Aside0.mk (Kd.R_grown HR4.out hg (fun _ _ => by simp))
        have HX := Aside0.mk C8
        clear HSX HR4 BK HO ho hb hg hnew C8 hgn
        have BK := n1_
        have HSX := n2_
        have HR4 := n3_
        clear n1_ n2_ n3_
        refine hK.out _ _ ⟨HSX.out.rl.cell4, (blk_cell BK.out 0).trans rfl, (blk_cell BK.out 1).trans rfl, (blk_cell BK.out 2).trans rfl, (blk_cell BK.out 3).trans rfl⟩ (fun hHeld => ?_)
        clear hK K
        refine norm_ (a' := ?_) ?_ ?_
        rotate_left
        · show Act.put _ (some 34) _ = _
          simp only [Act.put, List.setIfInBounds_toArray, List.set_cons_zero, List.set_cons_succ, i64_w, i32_w]
          rfl
        refine one_ (i := 7) (N := (some 35)) #[true, true, true, true, true, true, true, true, false, false, false] rfl rfl (one_of HT_.out (by kernel_rfl)) (by decide) (fun K hK => ?_)
        refine Kd.R_append_rows_step kRu (w0 := w7) W0.heap.size (by rfl) (.tmp 32) (.tmp 34) 86 121 (.agg #[.int .i64 0, .string ⟨#[]⟩, .int .i64 0, .slice none 0 0]) 56 rfl Tryd.underlying86 infoRu rfl (by decide) (by omega) v4 rs [(⟨x, acc⟩ : Ru)] _ _ _ (fun k => k ≠ b) (fun k => k ≠ b ∧ some k ≠ v4.ownBlock) rfl rfl HR4.out HX.out (fun p cs hp => kRu.M_mono (fun k hk => hk.1) hp) (fun _ h => h) (fun k hk he => by have := HSX.out.rl.lt; omega) (Below.refl _ _) HSX.out.rl.below.size ?aL ?_
        case aL => simp only [List.length_cons, List.length_nil]; omega
        intro vN w8 ho hb hg hat
        have n1_ := Aside0.mk (blk_grown BK.out hg HNE.out)
        have n2_ := Aside0.mk (RS.put4 HSX.out HR4.out ho hg)
        have HSL := Aside0.mk (Kd.R_slice ho)
        clear HSX HR4 BK HX ho hb hg hat
        have BK := n1_
        have HP := n2_
        clear n1_ n2_
        refine hK.out _ _ ⟨HP.out.1.cell4, (blk_cell BK.out 0).trans rfl, (blk_cell BK.out 1).trans rfl, (blk_cell BK.out 2).trans rfl, (blk_cell BK.out 3).trans rfl⟩ (fun hHeld => ?_)
        clear hK K
        refine norm_ (a' := ?_) ?_ ?_
        rotate_left
        · show Act.put _ (some 35) _ = _
          simp only [Act.put, List.setIfInBounds_toArray, List.set_cons_zero, List.set_cons_succ, i64_w, i32_w]
          rfl
        refine pure_ (i := 8) (N := (some 36)) (v := ?_) (a' := ?_) #[true, true, true, true, true, true, true, true, true, false, false] rfl rfl (any_of HT_.out (by kernel_rfl)) (fun _ _ _ h => h) (Or.inl ⟨by rfl, ?_⟩) ?_ ?_
        rotate_left
        · intro w'
          go_simp
          with_reducible rfl
        rotate_left
        · simp only [Act.put, List.setIfInBounds_toArray, List.set_cons_zero, List.set_cons_succ, i64_w, i32_w]
          rfl
        refine pure_ (i := 9) (N := (some 37)) (v := ?_) (a' := ?_) #[true, true, true, true, true, true, true, true, true, true, false] rfl rfl (any_of HT_.out (by kernel_rfl)) (fun _ _ _ h => h) (Or.inl ⟨by rfl, ?_⟩) ?_ ?_
        rotate_left
        · intro w'
          go_simp
          with_reducible rfl
        rotate_left
        · simp only [Act.put, List.setIfInBounds_toArray, List.set_cons_zero, List.set_cons_succ, i64_w, i32_w]
          rfl
        refine last_ (i := 10) (N := none) #[true, true, true, true, true, true, true, true, true, true, true] rfl rfl (one_of HT_.out (by kernel_rfl)) (by decide) (fun K hK => ?_)
        obtain ⟨v0_, hk_⟩ := HP.out.1.blk
        have f0 := (blk_cell hk_ 4).trans rfl
        have f1 := blk_frozen hk_ 4
        refine skip_ (by rfl) rfl (w1 := w8.setCell ⟨b, 4, none⟩ vN) ?hrun ?_; (case hrun => obtain ⟨An, cn, en⟩ : ∃ An cn, vN = .slice An (rs ++ [(⟨x, acc⟩ : Ru)]).length cn := HSL.out; subst en; first | (go_simp; done) | (go_simp; rfl))
        have n1_ := Aside0.mk (blk_far (p := ⟨b, 4, none⟩) BK.out hxb vN)
        clear f0 f1 hk_ BK HSL
        have BK := n1_
        have HSX := Aside0.mk HP.out.2.1
        have HR4 := Aside0.mk HP.out.2.2
        clear HP n1_
        refine hK.out _ _ ?_
        clear hK K
        refine done_ (done_of HT_.out (by kernel_rfl)) ?_
        go_wp2
        have n1_ := Aside0.mk (blk_drew BK.out)
        have n2_ := Aside0.mk (HSX.out.later (below_drew (Below.refl _ _)))
        have n3_ := Aside0.mk (Kd.R_drew HR4.out)
        clear BK HSX HR4
        have BK := n1_
        have HSX := n2_
        have HR4 := n3_
        clear n1_ n2_ n3_
        refine start_ (n := 10) (S := fun w' => w'.cell? ⟨b, 5, none⟩ = some (.map (some m)) ∧ w'.cell? ⟨xB, 1, none⟩ = some (.string x.s) ∧ (Instr.lookup 85 (.map (some m)) (.string x.s) false).run Tryd.prog w' = .ok (.int .i64 q) w') (ds := [9]) #[false, false, false, false, false, false, false, false, false, false] (by kernel_rfl) rfl rfl ⟨HSX.out.rl.cell5, (blk_cell BK.out 1).trans rfl, HQ.out ▸ msi_look HSX.out.mp x.s HXS.out 85 Tryd.underlying85⟩ (fun hHeld => ?_)
        refine with_tabW ru8Tab ru8Bits (fun HT_ HW_ => ?_)
        generalize World.drew _ = w5 at HSX HR4 hHeld ⊢
        refine pure_ (i := 0) (N := (some 38)) (v := ?_) (a' := ?_) #[true, false, false, false, false, false, false, false, false, false] rfl rfl (any_of HT_.out (by kernel_rfl)) (fun _ _ _ h => h) (Or.inl ⟨by rfl, ?_⟩) ?_ ?_
        rotate_left
        · intro w'
          go_simp
          with_reducible rfl
        rotate_left
        · simp only [Act.put, List.setIfInBounds_toArray, List.set_cons_zero, List.set_cons_succ, i64_w, i32_w]
          rfl
        refine pure_ (i := 1) (N := (some 39)) (v := ?_) (a' := ?_) #[true, true, false, false, false, false, false, false, false, false] rfl rfl (any_of HT_.out (by kernel_rfl)) (fun _ _ _ h => h) (Or.inl ⟨by rfl, ?_⟩) ?_ ?_
        rotate_left
        · intro w'
          go_simp
          with_reducible rfl
        rotate_left
        · simp only [Act.put, List.setIfInBounds_toArray, List.set_cons_zero, List.set_cons_succ, i64_w, i32_w]
          rfl
        refine pure_ (i := 2) (N := (some 40)) (v := ?_) (a' := ?_) #[true, true, true, false, false, false, false, false, false, false] rfl rfl (any_of HT_.out (by kernel_rfl)) (fun _ _ _ h => h) (Or.inl ⟨by rfl, ?_⟩) ?_ ?_
        rotate_left
        · intro w'
          go_simp
          with_reducible rfl
        rotate_left
        · simp only [Act.put, List.setIfInBounds_toArray, List.set_cons_zero, List.set_cons_succ, i64_w, i32_w]
          rfl
        refine take_ (i := 3) (N := (some 41)) (v := ?_) (a' := ?_) #[true, true, true, true, false, false, false, false, false, false] rfl rfl (take_ofW HT_.out HW_.out (by kernel_rfl)) (fun _ _ _ h => h) (Or.inl ⟨by rfl, ?_⟩) hHeld ?_ ?_
        rotate_left
        · rintro w' ⟨s0, s1, s2⟩
          go_simp
          with_reducible rfl
        rotate_left
        · simp only [Act.put, List.setIfInBounds_toArray, List.set_cons_zero, List.set_cons_succ, i64_w, i32_w]
          rfl
        refine pure_ (i := 4) (N := (some 42)) (v := ?_) (a' := ?_) #[true, true, true, true, true, false, false, false, false, false] rfl rfl (any_of HT_.out (by kernel_rfl)) (fun _ _ _ h => h) (Or.inl ⟨by rfl, ?_⟩) ?_ ?_
        rotate_left
        · intro w'
          go_simp
          with_reducible rfl
        rotate_left
        · simp only [Act.put, List.setIfInBounds_toArray, List.set_cons_zero, List.set_cons_succ, i64_w, i32_w]
          rfl
        refine pure_ (i := 5) (N := (some 43)) (v := ?_) (a' := ?_) #[true, true, true, true, true, true, false, false, false, false] rfl rfl (any_of HT_.out (by kernel_rfl)) (fun _ _ _ h => h) (Or.inl ⟨by rfl, ?_⟩) ?_ ?_
        rotate_left
        · intro w'
          go_simp
          with_reducible rfl
        rotate_left
        · simp only [Act.put, List.setIfInBounds_toArray, List.set_cons_zero, List.set_cons_succ, i64_w, i32_w]
          rfl
        refine take_ (i := 6) (N := (some 44)) (v := ?_) (a' := ?_) #[true, true, true, true, true, true, true, false, false, false] rfl rfl (take_ofW HT_.out HW_.out (by kernel_rfl)) (fun _ _ _ h => h) (Or.inl ⟨by rfl, ?_⟩) hHeld ?_ ?_
        rotate_left
        · rintro w' ⟨s0, s1, s2⟩
          go_simp
          with_reducible rfl
        rotate_left
        · simp only [Act.put, List.setIfInBounds_toArray, List.set_cons_zero, List.set_cons_succ, i64_w, i32_w]
          rfl
        refine take_ (i := 7) (N := (some 45)) (v := ?_) (a' := ?_) #[true, true, true, true, true, true, true, true, false, false] rfl rfl (take_ofW HT_.out HW_.out (by kernel_rfl)) (fun _ _ _ h => h) (Or.inl ⟨by rfl, ?_⟩) hHeld ?_ ?_
        rotate_left
        · rintro w' ⟨s0, s1, s2⟩
          go_simp
          with_reducible rfl
        rotate_left
        · simp only [Act.put, List.setIfInBounds_toArray, List.set_cons_zero, List.set_cons_succ, i64_w, i32_w]
          rfl
        refine pure_ (i := 8) (N := (some 46)) (v := ?_) (a' := ?_) #[true, true, true, true, true, true, true, true, true, false] rfl rfl (any_of HT_.out (by kernel_rfl)) (fun _ _ _ h => h) (Or.inl ⟨by rfl, ?_⟩) ?_ ?_
        rotate_left
        · intro w'
          go_simp
          with_reducible rfl
        rotate_left
        · simp only [Act.put, List.setIfInBounds_toArray, List.set_cons_zero, List.set_cons_succ, i64_w, i32_w]
          rfl
        refine last_ (i := 9) (N := none) #[true, true, true, true, true, true, true, true, true, true] rfl rfl (one_of HT_.out (by kernel_rfl)) (by decide) (fun K hK => ?_)
        obtain ⟨w6, hrun_, hm6, hg6⟩ := msi_upd HSX.out.mp hnn x.s HXS.out (q + 1) hqw 85 Tryd.underlying85
        refine skip_ (by rfl) rfl (w1 := w6) ?hrun ?_; (case hrun => have hwr := HWR.out; first | (go_simp; done) | (go_simp; rfl))
        have n2_ := Aside0.mk (HSX.out.putM hm6 hg6)
        obtain ⟨es_, clock_, hes_⟩ := HSX.out.mp.map_
        have n3_ := Aside0.mk (R_map HR4.out hes_ hg6)
        clear HSX HR4 hm6 hg6 hrun_ hes_
        have HSX := n2_
        have HR4 := n3_
        clear n2_ n3_
        refine hK.out _ _ ?_
        clear hK K
        refine done_ (done_of HT_.out (by kernel_rfl)) ?_
        go_wp2
        (first | go_end0 | refine bodyPost_ret (results_none rfl _ _ _) rfl ?_)
        rw [HRv.out]
        refine ⟨rfl, _, ⟨⟨_, _, _, HSX.out, fun u => ?_, by rw [List.length_append]; exact Nat.succ_le_succ hnr⟩, HR4.out⟩⟩
        rw [leftsN_snoc]
        by_cases e : u = x.s
        · subst e
          rw [if_pos rfl, if_pos rfl, HQV.out]
          rfl
        · rw [if_neg e, if_neg (fun h => e h.symm), HFF.out]
          rfl
      · have HK5 := Aside0.mk hk5
        have HRv : Aside0 (R = .error (badS l2)) := ⟨by rw [← HR.out]; unfold contS; rw [if_neg hk4, if_neg hk5]⟩
        clear hk4 hk5 HR
        go_wp2_with (first | (go_at_call 55; ((with_reducible refine (rd_isn HRL.out HK4.out).mono ?_); rintro e w' ⟨rfl, rfl⟩)) | (go_at_call 84; ((with_reducible refine (rd_want_no HRL.out HK5.out).mono ?_); rintro e w4 ⟨⟨older, rfl, ho⟩, hb4⟩)))
        refine ⟨rfl, ?_⟩
        rw [HRv.out]
        exact ⟨⟨older, rfl, ho⟩, HRL.out.below.trans (hb4.below HRL.out.hb HRL.out.below.size)⟩
end Go.Proofs.YtliofoikejdjeaaDoor
