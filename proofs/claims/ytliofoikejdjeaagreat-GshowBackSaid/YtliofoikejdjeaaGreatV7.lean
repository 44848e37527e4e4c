/- Texts laid one behind the other: R7, R8, BL, Q3, Q4, Q5. -/
import Derived.Test.YtliofoikejdjeaaGreatV6
import Derived.Test.YtliofoikejdjeaaGreatWTab
import Derived.Test.YtliofoikejdjeaaGreatV5
import Derived.Test.YtliofoikejdjeaaGreatV4
/- gread's reader: a rule. -/
namespace Go.Proofs.YtliofoikejdjeaaGreat
open Go.RowKit Go.Proofs.YtliofoikejdjeaaGreatW.PrintWords Go.Proofs.YtliofoikejdjeaaGreatW.PrintLast
set_option linter.unusedVariables false
set_option linter.unusedSimpArgs false
def ru2T : Bool × List (List Nat × List Nat) := (true, [([], []), ([0], [0]), ([], []), ([2], [2]), ([3], [3]), ([1, 4, 3], [1, 4]), ([0, 1, 2, 3, 4, 5], []), ([6, 5, 5, 0, 1, 2, 3, 4, 5], [5, 6])])
def ru2B : List Nat := [0, 1, 0, 4, 12, 31, 63, 127]
theorem ru2Tab : rtab .any (opsOf Tryz.f62 2) = ru2T := by kernel_rfl
theorem ru2Bits : waitsOk ru2T.2 ru2B = true := by kernel_rfl
def ru5T : Bool × List (List Nat × List Nat) := (true, [([], []), ([0], [0]), ([], []), ([2], [2]), ([3], [3]), ([1, 4, 3], [1, 4]), ([0, 1, 2, 3, 4, 5], []), ([6, 5, 5, 0, 1, 2, 3, 4, 5], [5, 6])])
def ru5B : List Nat := [0, 1, 0, 4, 12, 31, 63, 127]
theorem ru5Tab : rtab .any (opsOf Tryz.f62 5) = ru5T := by kernel_rfl
theorem ru5Bits : waitsOk ru5T.2 ru5B = true := by kernel_rfl
def ru7T : Bool × List (List Nat × List Nat) := (true, [([], []), ([], []), ([1], [1]), ([2], [2]), ([3], [3]), ([], []), ([5], [5]), ([4, 6], [4, 6]), ([0, 0, 1, 2, 3, 4, 5, 6, 7], [0]), ([8, 0, 1, 2, 3, 4, 5, 6, 7], [8]), ([9, 7, 7, 0, 1, 2, 3, 4, 5, 6, 7], [7, 9])])
def ru7B : List Nat := [0, 0, 2, 6, 14, 0, 32, 126, 255, 511, 1023]
theorem ru7Tab : rtab .any (opsOf Tryz.f62 7) = ru7T := by kernel_rfl
theorem ru7Bits : waitsOk ru7T.2 ru7B = true := by kernel_rfl
def ru8T : Bool × List (List Nat × List Nat) := (true, [([], []), ([0], [0]), ([1], [1]), ([2], [2]), ([], []), ([4], [4]), ([5], [5]), ([3, 6], [3, 6]), ([7], [7]), ([3, 6, 8, 0, 1, 2, 3, 4, 5, 6, 7, 8], [3, 6, 8])])
def ru8B : List Nat := [0, 1, 3, 7, 0, 16, 48, 127, 255, 511]
theorem ru8Tab : rtab .any (opsOf Tryz.f62 8) = ru8T := by kernel_rfl
theorem ru8Bits : waitsOk ru8T.2 ru8B = true := by kernel_rfl
/-- Behind a right side. -/
def contS (f : Nat) (l : List Tk) (acc : List Sd) : Except Ft (List Tk × List Sd) := if (hd l).k = 4 then sidesS f l.tail acc else if (hd l).k = 5 then .ok (l.tail, acc) else .error (badS l)
theorem sides_cont (f : Nat) (l : List Tk) (acc : List Sd) : sidesS (f + 1) l acc = contS f (l.dropWhile symB) (acc ++ [sideS l]) := rfl
theorem leftsN_snoc (rs : List Ru) (r : Ru) (u : ByteArray) : leftsN (rs ++ [r]) u = leftsN rs u + if r.left.s = u then 1 else 0 := by
  unfold leftsN
  rw [List.countP_append]
  by_cases h : r.left.s = u <;> simp [h]
theorem leftsN_le (rs : List Ru) (u : ByteArray) : leftsN rs u ≤ rs.length := List.countP_le_length
def RuleEnd (W0 : World) (b : Nat) (v1 v2 v3 : Value) (m : Nat) (D : List Tk) (M : List Int) (S : List Tk) (rs : List Ru) (R : Except Ft (List Tk × Ru)) (e : Ending) (w' : World) : Prop :=
  match R with
  | .error f => Panics f e ∧ Below W0.heap.size W0 w'
  | .ok (l', r) => e = .returned (.tuple #[]) ∧ ∃ v4', RS W0 w' b l' v1 v2 v3 v4' m D M S (rs ++ [r])
def ruleOf (x : Tk) (R : Except Ft (List Tk × List Sd)) : Except Ft (List Tk × Ru) :=
  match R with
  | .ok (l', sd) => .ok (l', ⟨x, sd⟩)
  | .error e => .error e
theorem drop_len (l : List Tk) : (l.dropWhile symB).length ≤ l.length := (List.dropWhile_suffix symB).length_le
set_option maxHeartbeats 16000000 in
set_option maxRecDepth 100000 in
theorem rd_rule3 {W0 w : World} {b : Nat} {v1 v2 v3 v4 : Value} {m : Nat} {D : List Tk} {M : List Int} {S : List Tk} {rs : List Ru} {x y : Tk} {l : List Tk} (h : RS W0 w b (x :: y :: l) v1 v2 v3 v4 m D M S rs) (hx1 : x.k = 1) (hy3 : y.k = 3) (hl : 0 < l.length) (ht : TEnd l) (hxs : x.s.size ≤ 10000) (hm : l.length + rs.length ≤ 100000)
    {f : Nat} (hf : l.length < f) {R : Except Ft (List Tk × List Sd)} (hR : sidesS f l [] = R) :
    Calls Tryz.prog 62 #[.pointer (some ⟨b, 0, none⟩)] w (RuleEnd W0 b v1 v2 v3 m D M S rs (ruleOf x R)) := by
  have HE := Aside0.mk h
  have HE4 := Aside0.mk h.r4
  have HX1 := Aside0.mk hx1
  have HY3 := Aside0.mk hy3
  have HT := Aside0.mk ht
  have HXS : Aside0 (x.s.size ≤ 140737488351232) := ⟨by omega⟩
  have HW : W0.heap.size ≤ w.heap.size := h.rl.below.size
  have hlt := h.rl.lt
  obtain ⟨f, rfl⟩ : ∃ g, f = g + 1 := ⟨f - 1, by omega⟩
  rw [sides_cont] at hR
  have HR := Aside0.mk hR
  clear h hx1 hy3 ht hR hxs
  go_enter Tryz.func62, Tryz.ntmps62
  go_wp2_with (go_at_call 95; ((with_reducible refine (rd_want HE.out.rl (Nat.succ_pos _) HX1.out).mono ?_); rintro e w1 ⟨rfl, h1, hb1⟩; have H1 := Aside0.mk h1; have HB1 := Aside0.mk hb1; clear h1 hb1; unfold tkV))
  have hb0 : b < w1.heap.size := H1.out.lt
  go_wp2_with (go_at_call 95; ((with_reducible refine (rd_want (H1.out.alloc _) hl HY3.out).mono ?_); rintro e w2 ⟨rfl, h2, hb2⟩))
  obtain ⟨xB, hxBe⟩ : ∃ y, y = w1.heap.size := ⟨_, rfl⟩
  rw [← hxBe]
  have hxb : xB ≠ b := by omega
  have hxw : w.heap.size ≤ xB := by rw [hxBe]; exact HB1.out.size
  have HNE : Aside0 (some xB ≠ v4.ownBlock) := ⟨fun e => by have := Kd.R_lt HE4.out _ e.symm; omega⟩
  have BK : Aside0 (w2.heap[xB]? = some (.cells #[.int .i64 x.k, .string x.s, .int .i64 x.at_, .slice none 0 0] 93 (0, 0))) := ⟨by
    rw [hb2.block xB (by rw [hxBe]; simp) hxb, hxBe]
    exact blk_new w1 _⟩
  have HB := Aside0.mk ((HB1.out.alloc (.cells #[.int .i64 x.k, .string x.s, .int .i64 x.at_, .slice none 0 0] 93)).trans hb2)
  have HRL := Aside0.mk h2
  clear hxBe h2 hb2 H1 HB1 hb0 HX1 HY3
  obtain ⟨acc, hacc⟩ : ∃ y : List Sd, y = [] := ⟨_, rfl⟩
  obtain ⟨vs, hvs⟩ : ∃ y : Value, y = .slice none 0 0 := ⟨_, rfl⟩
  obtain ⟨lx, hlxe⟩ : ∃ y : List Tk, y = l := ⟨_, rfl⟩
  have HO : Aside0 (Kd.R kSd 96 w2 w.heap.size (fun k => k ≠ b) vs acc) := ⟨by rw [hvs, hacc]; exact Kd.R_nil _ _ _ _ _⟩
  rw [← hvs] at BK
  rw [← hlxe] at HRL HT
  have HAC := Aside0.mk hacc
  have HLX := Aside0.mk hlxe
  have hlx : lx.length ≤ 100000 := by rw [hlxe]; omega
  have hac0 : acc.length ≤ 100000 := by rw [hacc]; simp
  clear hacc hvs hlxe
  have n1_ := Aside0.mk (blk_drew BK.out)
  have n3_ := Aside0.mk (Kd.R_drew HO.out)
  have n4_ := Aside0.mk HB.out.drew
  have n5_ := Aside0.mk (HRL.out.later (below_drew (Below.refl _ _)))
  clear BK HO HB HRL
  have BK := n1_
  have HO := n3_
  have HB := n4_
  have HRL := n5_
  clear n1_ n3_ n4_ n5_
  refine start_ (n := 8) (S := fun w' => w'.cell? ⟨xB, 3, none⟩ = some vs) (ds := [7]) #[false, false, false, false, false, false, false, false] (by kernel_rfl) rfl rfl ((blk_cell BK.out 3).trans rfl) (fun hHeld => ?_)
  refine with_tabW ru2Tab ru2Bits (fun HT_ HW_ => ?_)
  generalize World.drew _ = w5 at HRL BK HO HB hHeld ⊢
  refine pure_ (i := 0) (N := (some 8)) (v := ?_) (a' := ?_) #[true, false, false, false, false, false, false, false] rfl rfl (any_of HT_.out (by kernel_rfl)) (fun _ _ _ h => h) (Or.inl ⟨by rfl, ?_⟩) ?_ ?_
  rotate_left
  · intro w'
    go_simp
    with_reducible rfl
  rotate_left
  · simp only [Act.put, List.setIfInBounds_toArray, List.set_cons_zero, List.set_cons_succ, i64_w, i32_w]
    rfl
  refine take_ (i := 1) (N := (some 9)) (v := ?_) (a' := ?_) #[true, true, false, false, false, false, false, false] rfl rfl (take_ofW HT_.out HW_.out (by kernel_rfl)) (fun _ _ _ h => h) (Or.inl ⟨by rfl, ?_⟩) hHeld ?_ ?_
  rotate_left
  · rintro w' s0
    go_simp
    with_reducible rfl
  rotate_left
  · simp only [Act.put, List.setIfInBounds_toArray, List.set_cons_zero, List.set_cons_succ, i64_w, i32_w]
    rfl
  refine pure_ (i := 2) (N := (some 10)) (v := ?_) (a' := ?_) #[true, true, true, false, false, false, false, false] rfl rfl (any_of HT_.out (by kernel_rfl)) (fun _ _ _ h => h) (Or.inl ⟨by rfl, ?_⟩) ?_ ?_
  rotate_left
  · intro w'
    go_simp
    with_reducible rfl
  rotate_left
  · simp only [Act.put, List.setIfInBounds_toArray, List.set_cons_zero, List.set_cons_succ, i64_w, i32_w]
    rfl
  refine one_ (i := 3) (N := (some 11)) #[true, true, true, true, false, false, false, false] rfl rfl (one_of HT_.out (by kernel_rfl)) (by decide) (fun K hK => ?_)
  refine goes_ Tryz.func96 (by kernel_rfl) rfl #[.pointer (some ⟨b, 0, none⟩)] (by rfl) rfl rfl (by first | rfl | (simp [Act.eval]; done) | (simp [Act.eval]; rfl)) ?_
  refine (rd_side HRL.out HT.out hlx).mono ?_
  rintro e w6 ⟨At, ct, rfl, ho6, h6, hb6⟩
  refine ⟨_, rfl, ?_⟩
  have n1_ := Aside0.mk ((hb6.block xB (blk_lt BK.out) hxb).trans BK.out)
  have n6_ := Aside0.mk (Kd.R_lower (R_behind ho6 HO.out (Nat.le_refl _)) HB.out.size)
  have n3_ := Aside0.mk (Kd.R_step HO.out (fun k hk hlt => hb6.block k hlt hk))
  have n4_ := Aside0.mk (HB.out.trans hb6)
  have n5_ := Aside0.mk h6
  clear HRL BK HO HB h6 hb6 ho6
  have BK := n1_
  have HO := n3_
  have HB := n4_
  have HRL := n5_
  have HTK := n6_
  clear n1_ n3_ n4_ n5_ n6_
  refine hK.out _ _ ((blk_cell BK.out 3).trans rfl) (fun hHeld => ?_)
  clear hK K
  refine norm_ (a' := ?_) ?_ ?_
  rotate_left
  · show Act.put _ (some 11) _ = _
    simp only [Act.put, List.setIfInBounds_toArray, List.set_cons_zero, List.set_cons_succ, i64_w, i32_w]
    rfl
  refine one_ (i := 4) (N := (some 12)) #[true, true, true, true, true, false, false, false] rfl rfl (one_of HT_.out (by kernel_rfl)) (by decide) (fun K hK => ?_)
  refine Kd.R_lit_step kSd (w0 := w6) w.heap.size 96 ?hg (N := 12) ?hd (xs := [sideS lx]) (inner := [.slice At (lx.takeWhile symB).length ct, .int .i64 (hd lx).at_]) (ok := fun k => k ≠ b ∧ some k ≠ vs.ownBlock) (okp := fun k => k ≠ b ∧ some k ≠ vs.ownBlock) ?hr ?hp (fun _ hk => hk) ⟨fun he => by have := HRL.out.lt; omega, fun he => by have := Kd.R_lt HO.out _ he.symm; omega⟩ (Below.refl _ _) HB.out.size (by simp) ?_; (case hd => rfl); (case hg => rfl); (case hr => first | (go_simp; done) | (go_simp; rfl)); (case hp => exact (Reps.snoc (Reps.none _ _) (kSd_M (x := sideS lx) HTK.out) rfl))
  intro vL w7 ho hb hg hnew
  obtain ⟨A8, c8, e8, C8⟩ := lits_rows ho
  subst e8
  have hgn := grown_none hg
  have n1_ := Aside0.mk (blk_grown BK.out hg (by simp))
  have n3_ := Aside0.mk (Kd.R_grown HO.out hg (fun _ _ => by simp))
  have n4_ := Aside0.mk (HB.out.trans (.of hgn))
  have n5_ := Aside0.mk (HRL.out.later hgn)
  have HX := Aside0.mk C8
  clear HRL BK HO HB HTK ho hb hg hnew C8 hgn
  have BK := n1_
  have HO := n3_
  have HB := n4_
  have HRL := n5_
  clear n1_ n3_ n4_ n5_
  refine hK.out _ _ ((blk_cell BK.out 3).trans rfl) (fun hHeld => ?_)
  clear hK K
  refine norm_ (a' := ?_) ?_ ?_
  rotate_left
  · show Act.put _ (some 12) _ = _
    simp only [Act.put, List.setIfInBounds_toArray, List.set_cons_zero, List.set_cons_succ, i64_w, i32_w]
    rfl
  refine one_ (i := 5) (N := (some 13)) #[true, true, true, true, true, true, false, false] rfl rfl (one_of HT_.out (by kernel_rfl)) (by decide) (fun K hK => ?_)
  refine Kd.R_append_rows_step kSd (w0 := w7) w.heap.size (by rfl) (.tmp 9) (.tmp 12) 91 96 (.agg #[.slice none 0 0, .int .i64 0]) 32 rfl Tryz.underlying91 infoSide rfl (by decide) (by omega) vs acc [sideS lx] _ _ _ (fun k => k ≠ b) (fun k => k ≠ b ∧ some k ≠ vs.ownBlock) rfl rfl HO.out HX.out (fun p cs hp => kSd.M_mono (fun k hk => hk.1) hp) (fun _ h => h) (fun k hk he => by have := HRL.out.lt; omega) (Below.refl _ _) HB.out.size ?aL ?_
  case aL => simp only [List.length_cons, List.length_nil]; omega
  intro vN w8 ho hb hg hat
  have hr_ : ∀ k, vs.ownBlock = some k → w.heap.size ≤ k := fun k hk => Kd.R_base HO.out k hk
  have n1_ := Aside0.mk (blk_grown BK.out hg (Kd.R_ne HO.out BK.out (by decide)))
  have n4_ := Aside0.mk (HB.out.grown hg hr_)
  have n5_ := Aside0.mk (HRL.out.grown HO.out HW hg (by decide))
  have HSL := Aside0.mk (Kd.R_slice ho)
  clear HRL BK HO HB HX hb hg hat hr_
  have BK := n1_
  have HO := Aside0.mk ho
  have HB := n4_
  have HRL := n5_
  clear n1_ n4_ n5_ ho
  refine hK.out _ _ ((blk_cell BK.out 3).trans rfl) (fun hHeld => ?_)
  clear hK K
  refine norm_ (a' := ?_) ?_ ?_
  rotate_left
  · show Act.put _ (some 13) _ = _
    simp only [Act.put, List.setIfInBounds_toArray, List.set_cons_zero, List.set_cons_succ, i64_w, i32_w]
    rfl
  refine pure_ (i := 6) (N := (some 14)) (v := ?_) (a' := ?_) #[true, true, true, true, true, true, true, false] rfl rfl (any_of HT_.out (by kernel_rfl)) (fun _ _ _ h => h) (Or.inl ⟨by rfl, ?_⟩) ?_ ?_
  rotate_left
  · intro w'
    go_simp
    with_reducible rfl
  rotate_left
  · simp only [Act.put, List.setIfInBounds_toArray, List.set_cons_zero, List.set_cons_succ, i64_w, i32_w]
    rfl
  refine last_ (i := 7) (N := none) #[true, true, true, true, true, true, true, true] rfl rfl (one_of HT_.out (by kernel_rfl)) (by decide) (fun K hK => ?_)
  have f0 := (blk_cell BK.out 3).trans rfl
  have f1 := blk_frozen BK.out 3
  refine skip_ (by rfl) rfl (w1 := w8.setCell ⟨xB, 3, none⟩ vN) ?hrun ?_; (case hrun => obtain ⟨An, cn, en⟩ : ∃ An cn, vN = .slice An (acc ++ [sideS lx]).length cn := HSL.out; subst en; first | (go_simp; done) | (go_simp; rfl))
  have n1_ := Aside0.mk (blk_set BK.out 3 vN)
  have n2_ := Aside0.mk (Kd.R_set HO.out BK.out (by decide) 3 vN)
  have n3_ := Aside0.mk (HRL.out.setOther hxb (Nat.le_trans HW hxw) 3 vN)
  have n4_ := Aside0.mk (HB.out.setNew hxw 3 vN)
  clear f0 f1 HSL BK HO HRL HB
  have BK : Aside0 ((w8.setCell ⟨xB, 3, none⟩ vN).heap[xB]? = some (.cells #[.int .i64 x.k, .string x.s, .int .i64 x.at_, vN] 93 (0, 0))) := n1_
  have HO := n2_
  have HRL := n3_
  have HB := n4_
  clear n1_ n2_ n3_ n4_
  refine hK.out _ _ ?_
  clear hK K
  refine done_ (done_of HT_.out (by kernel_rfl)) ?_
  go_wp2
  rw [HAC.out, HLX.out] at HO
  rw [HLX.out] at HRL HT
  clear hlx hac0
  go_loopg [16] l.length (fun gg v16 wr => ∃ (f : Nat) (l2 : List Tk) (acc : List Sd) (vs : Value), acc.length + l2.length ≤ l.length + 1 ∧ l2.length ≤ gg ∧ l2.length ≤ f ∧ Aside0 (contS f l2 acc = R) ∧ Aside0 (TEnd l2) ∧ Aside0 (RL W0 wr b l2 v1 v2 v3 v4 (.map (some m))) ∧ Aside0 (wr.heap[xB]? = some (.cells #[.int .i64 x.k, .string x.s, .int .i64 x.at_, vs] 93 (0, 0))) ∧ Aside0 (Kd.R kSd 96 wr w.heap.size (fun k => k ≠ b) vs acc) ∧ Aside0 (BelowBut b w wr))
  case atStart =>
    have := drop_len l
    exact ⟨f, l.dropWhile symB, _, vN, by simp only [List.length_append, List.length_cons, List.length_nil]; omega, by omega, by omega, HR, ⟨HT.out.drop⟩, HRL, BK, HO, HB⟩
  case round =>
    clear HR HRL BK HO HB HT HAC HLX
    obtain ⟨f, l2, acc, vs, hlen, hgg, hff, HR, HT2, HRL, BK, HO, HB⟩ := hrel
    by_cases hk4 : (hd l2).k = 4
    · obtain ⟨z, lx, e2, hl3, ht3⟩ := HT2.out.hd (by rw [hk4]; decide)
      subst e2
      have HK4 := Aside0.mk hk4
      have HT := Aside0.mk ht3
      simp only [List.length_cons] at hlen hgg hff
      obtain ⟨g, rfl⟩ : ∃ g, f = g + 1 := ⟨f - 1, by omega⟩
      have HR2 : Aside0 (contS g (lx.dropWhile symB) (acc ++ [sideS lx]) = R) := ⟨by rw [← HR.out, ← sides_cont]; unfold contS; rw [if_pos hk4]; rfl⟩
      have hlx : lx.length ≤ 100000 := by omega
      have hac0 : acc.length ≤ 100000 := by omega
      clear hk4 ht3 HR
      go_wp2_with (first | (go_at_call 59; ((with_reducible refine (rd_isy HRL.out HK4.out).mono ?_); rintro e w' ⟨rfl, rfl⟩)) | (go_at_call 61; ((with_reducible refine (rd_take HRL.out hl3).mono ?_); rintro e w4 ⟨rfl, h4, hb4⟩; have n1_ := Aside0.mk ((hb4.block xB (blk_lt BK.out) hxb).trans BK.out); have n3_ := Aside0.mk (Kd.R_step HO.out (fun k hk hlt => hb4.block k hlt hk)); have n4_ := Aside0.mk (HB.out.trans hb4); have n5_ := Aside0.mk h4; clear HRL BK HO HB h4 hb4; have BK := n1_; have HO := n3_; have HB := n4_; have HRL := n5_; clear n1_ n3_ n4_ n5_; unfold tkV)))
      have n1_ := Aside0.mk (blk_drew BK.out)
      have n3_ := Aside0.mk (Kd.R_drew HO.out)
      have n4_ := Aside0.mk HB.out.drew
      have n5_ := Aside0.mk (HRL.out.later (below_drew (Below.refl _ _)))
      clear BK HO HB HRL
      have BK := n1_
      have HO := n3_
      have HB := n4_
      have HRL := n5_
      clear n1_ n3_ n4_ n5_
      refine start_ (n := 8) (S := fun w' => w'.cell? ⟨xB, 3, none⟩ = some vs) (ds := [7]) #[false, false, false, false, false, false, false, false] (by kernel_rfl) rfl rfl ((blk_cell BK.out 3).trans rfl) (fun hHeld => ?_)
      refine with_tabW ru5Tab ru5Bits (fun HT_ HW_ => ?_)
      generalize World.drew _ = w5 at HRL BK HO HB hHeld ⊢
      refine pure_ (i := 0) (N := (some 19)) (v := ?_) (a' := ?_) #[true, false, false, false, false, false, false, false] rfl rfl (any_of HT_.out (by kernel_rfl)) (fun _ _ _ h => h) (Or.inl ⟨by rfl, ?_⟩) ?_ ?_
      rotate_left
      · intro w'
        go_simp
        with_reducible rfl
      rotate_left
      · simp only [Act.put, List.setIfInBounds_toArray, List.set_cons_zero, List.set_cons_succ, i64_w, i32_w]
        rfl
      refine take_ (i := 1) (N := (some 20)) (v := ?_) (a' := ?_) #[true, true, false, false, false, false, false, false] rfl rfl (take_ofW HT_.out HW_.out (by kernel_rfl)) (fun _ _ _ h => h) (Or.inl ⟨by rfl, ?_⟩) hHeld ?_ ?_
      rotate_left
      · rintro w' s0
        go_simp
        with_reducible rfl
      rotate_left
      · simp only [Act.put, List.setIfInBounds_toArray, List.set_cons_zero, List.set_cons_succ, i64_w, i32_w]
        rfl
      refine pure_ (i := 2) (N := (some 21)) (v := ?_) (a' := ?_) #[true, true, true, false, false, false, false, false] rfl rfl (any_of HT_.out (by kernel_rfl)) (fun _ _ _ h => h) (Or.inl ⟨by rfl, ?_⟩) ?_ ?_
      rotate_left
      · intro w'
        go_simp
        with_reducible rfl
      rotate_left
      · simp only [Act.put, List.setIfInBounds_toArray, List.set_cons_zero, List.set_cons_succ, i64_w, i32_w]
        rfl
      refine one_ (i := 3) (N := (some 22)) #[true, true, true, true, false, false, false, false] rfl rfl (one_of HT_.out (by kernel_rfl)) (by decide) (fun K hK => ?_)
      refine goes_ Tryz.func96 (by kernel_rfl) rfl #[.pointer (some ⟨b, 0, none⟩)] (by rfl) rfl rfl (by first | rfl | (simp [Act.eval]; done) | (simp [Act.eval]; rfl)) ?_
      refine (rd_side HRL.out HT.out hlx).mono ?_
      rintro e w6 ⟨At, ct, rfl, ho6, h6, hb6⟩
      refine ⟨_, rfl, ?_⟩
      have n1_ := Aside0.mk ((hb6.block xB (blk_lt BK.out) hxb).trans BK.out)
      have n6_ := Aside0.mk (Kd.R_lower (R_behind ho6 HO.out (Nat.le_refl _)) HB.out.size)
      have n3_ := Aside0.mk (Kd.R_step HO.out (fun k hk hlt => hb6.block k hlt hk))
      have n4_ := Aside0.mk (HB.out.trans hb6)
      have n5_ := Aside0.mk h6
      clear HRL BK HO HB h6 hb6 ho6
      have BK := n1_
      have HO := n3_
      have HB := n4_
      have HRL := n5_
      have HTK := n6_
      clear n1_ n3_ n4_ n5_ n6_
      refine hK.out _ _ ((blk_cell BK.out 3).trans rfl) (fun hHeld => ?_)
      clear hK K
      refine norm_ (a' := ?_) ?_ ?_
      rotate_left
      · show Act.put _ (some 22) _ = _
        simp only [Act.put, List.setIfInBounds_toArray, List.set_cons_zero, List.set_cons_succ, i64_w, i32_w]
        rfl
      refine one_ (i := 4) (N := (some 23)) #[true, true, true, true, true, false, false, false] rfl rfl (one_of HT_.out (by kernel_rfl)) (by decide) (fun K hK => ?_)
      refine Kd.R_lit_step kSd (w0 := w6) w.heap.size 96 ?hg (N := 23) ?hd (xs := [sideS lx]) (inner := [.slice At (lx.takeWhile symB).length ct, .int .i64 (hd lx).at_]) (ok := fun k => k ≠ b ∧ some k ≠ vs.ownBlock) (okp := fun k => k ≠ b ∧ some k ≠ vs.ownBlock) ?hr ?hp (fun _ hk => hk) ⟨fun he => by have := HRL.out.lt; omega, fun he => by have := Kd.R_lt HO.out _ he.symm; omega⟩ (Below.refl _ _) HB.out.size (by simp) ?_; (case hd => rfl); (case hg => rfl); (case hr => first | (go_simp; done) | (go_simp; rfl)); (case hp => exact (Reps.snoc (Reps.none _ _) (kSd_M (x := sideS lx) HTK.out) rfl))
      intro vL w7 ho hb hg hnew
      obtain ⟨A8, c8, e8, C8⟩ := lits_rows ho
      subst e8
      have hgn := grown_none hg
      have n1_ := Aside0.mk (blk_grown BK.out hg (by simp))
      have n3_ := Aside0.mk (Kd.R_grown HO.out hg (fun _ _ => by simp))
      have n4_ := Aside0.mk (HB.out.trans (.of hgn))
      have n5_ := Aside0.mk (HRL.out.later hgn)
      have HX := Aside0.mk C8
      clear HRL BK HO HB HTK ho hb hg hnew C8 hgn
      have BK := n1_
      have HO := n3_
      have HB := n4_
      have HRL := n5_
      clear n1_ n3_ n4_ n5_
      refine hK.out _ _ ((blk_cell BK.out 3).trans rfl) (fun hHeld => ?_)
      clear hK K
      refine norm_ (a' := ?_) ?_ ?_
      rotate_left
      · show Act.put _ (some 23) _ = _
        simp only [Act.put, List.setIfInBounds_toArray, List.set_cons_zero, List.set_cons_succ, i64_w, i32_w]
        rfl
      refine one_ (i := 5) (N := (some 24)) #[true, true, true, true, true, true, false, false] rfl rfl (one_of HT_.out (by kernel_rfl)) (by decide) (fun K hK => ?_)
      refine Kd.R_append_rows_step kSd (w0 := w7) w.heap.size (by rfl) (.tmp 20) (.tmp 23) 91 96 (.agg #[.slice none 0 0, .int .i64 0]) 32 rfl Tryz.underlying91 infoSide rfl (by decide) (by omega) vs acc [sideS lx] _ _ _ (fun k => k ≠ b) (fun k => k ≠ b ∧ some k ≠ vs.ownBlock) rfl rfl HO.out HX.out (fun p cs hp => kSd.M_mono (fun k hk => hk.1) hp) (fun _ h => h) (fun k hk he => by have := HRL.out.lt; omega) (Below.refl _ _) HB.out.size ?aL ?_
      case aL => simp only [List.length_cons, List.length_nil]; omega
      intro vN w8 ho hb hg hat
      have hr_ : ∀ k, vs.ownBlock = some k → w.heap.size ≤ k := fun k hk => Kd.R_base HO.out k hk
      have n1_ := Aside0.mk (blk_grown BK.out hg (Kd.R_ne HO.out BK.out (by decide)))
      have n4_ := Aside0.mk (HB.out.grown hg hr_)
      have n5_ := Aside0.mk (HRL.out.grown HO.out HW hg (by decide))
      have HSL := Aside0.mk (Kd.R_slice ho)
      clear HRL BK HO HB HX hb hg hat hr_
      have BK := n1_
      have HO := Aside0.mk ho
      have HB := n4_
      have HRL := n5_
      clear n1_ n4_ n5_ ho
      refine hK.out _ _ ((blk_cell BK.out 3).trans rfl) (fun hHeld => ?_)
      clear hK K
      refine norm_ (a' := ?_) ?_ ?_
      rotate_left
      · show Act.put _ (some 24) _ = _
        simp only [Act.put, List.setIfInBounds_toArray, List.set_cons_zero, List.set_cons_succ, i64_w, i32_w]
        rfl
      refine pure_ (i := 6) (N := (some 25)) (v := ?_) (a' := ?_) #[true, true, true, true, true, true, true, false] rfl rfl (any_of HT_.out (by kernel_rfl)) (fun _ _ _ h => h) (Or.inl ⟨by rfl, ?_⟩) ?_ ?_
      rotate_left
      · intro w'
        go_simp
        with_reducible rfl
      rotate_left
      · simp only [Act.put, List.setIfInBounds_toArray, List.set_cons_zero, List.set_cons_succ, i64_w, i32_w]
        rfl
      refine last_ (i := 7) (N := none) #[true, true, true, true, true, true, true, true] rfl rfl (one_of HT_.out (by kernel_rfl)) (by decide) (fun K hK => ?_)
      have f0 := (blk_cell BK.out 3).trans rfl
      have f1 := blk_frozen BK.out 3
      refine skip_ (by rfl) rfl (w1 := w8.setCell ⟨xB, 3, none⟩ vN) ?hrun ?_; (case hrun => obtain ⟨An, cn, en⟩ : ∃ An cn, vN = .slice An (acc ++ [sideS lx]).length cn := HSL.out; subst en; first | (go_simp; done) | (go_simp; rfl))
      have n1_ := Aside0.mk (blk_set BK.out 3 vN)
      have n2_ := Aside0.mk (Kd.R_set HO.out BK.out (by decide) 3 vN)
      have n3_ := Aside0.mk (HRL.out.setOther hxb (Nat.le_trans HW hxw) 3 vN)
      have n4_ := Aside0.mk (HB.out.setNew hxw 3 vN)
      clear f0 f1 HSL BK HO HRL HB
      have BK : Aside0 ((w8.setCell ⟨xB, 3, none⟩ vN).heap[xB]? = some (.cells #[.int .i64 x.k, .string x.s, .int .i64 x.at_, vN] 93 (0, 0))) := n1_
      have HO := n2_
      have HRL := n3_
      have HB := n4_
      clear n1_ n2_ n3_ n4_
      refine hK.out _ _ ?_
      clear hK K
      refine done_ (done_of HT_.out (by kernel_rfl)) ?_
      go_wp2
      go_roundg lx.length
      case measure => omega
      case rel =>
        have := drop_len lx
        exact ⟨g, lx.dropWhile symB, acc ++ [sideS lx], vN, by simp only [List.length_append, List.length_cons, List.length_nil]; omega, by omega, by omega, HR2, ⟨HT.out.drop⟩, HRL, BK, HO, HB⟩
    · have HK4 := Aside0.mk hk4
      by_cases hk5 : (hd l2).k = 5
      · obtain ⟨z, l3, e2, hl3, ht3⟩ := HT2.out.hd (by rw [hk5]; decide)
        subst e2
        have HK5 := Aside0.mk (show z.k = 5 from hk5)
        have HRv : Aside0 (R = .ok (l3, acc)) := ⟨by rw [← HR.out]; unfold contS; rw [if_neg hk4, if_pos hk5]; rfl⟩
        simp only [List.length_cons] at hlen hgg hff
        clear hk4 hk5 ht3 HR
        go_wp2_with (first | (go_at_call 59; ((with_reducible refine (rd_isn HRL.out HK4.out).mono ?_); rintro e w' ⟨rfl, rfl⟩)) | (go_at_call 95; ((with_reducible refine (rd_want HRL.out hl3 HK5.out).mono ?_); rintro e w4 ⟨rfl, h4, hb4⟩; have n1_ := Aside0.mk ((hb4.block xB (blk_lt BK.out) hxb).trans BK.out); have n3_ := Aside0.mk (Kd.R_step HO.out (fun k hk hlt => hb4.block k hlt hk)); have n4_ := Aside0.mk (HE.out.but (HB.out.trans hb4) h4); clear HRL BK HO HB h4 hb4; have BK := n1_; have HO := n3_; have HRS := n4_; clear n1_ n3_ n4_; unfold tkV)))
        obtain ⟨n, ff, c, hsx, hff2, hnr⟩ := HRS.out.hs
        obtain ⟨An, cn, en⟩ := Kd.R_slice HO.out
        subst en
        have n1_ := Aside0.mk (blk_drew BK.out)
        have n3_ := Aside0.mk (Kd.R_drew HO.out)
        have HSX := Aside0.mk (hsx.later (below_drew (Below.refl _ _)))
        have HR4 := Aside0.mk (Kd.R_drew HRS.out.r4)
        have HFF := Aside0.mk hff2
        obtain ⟨q, hq⟩ : ∃ q, (ff x.s).getD 0 = q := ⟨_, rfl⟩
        have HQ := Aside0.mk hq
        have hqv : q = leftsN rs x.s := by rw [← hq, hff2]
        have hqw : (Lit.int .i64 (q + 1)).wf = true := by
          have e1 : IntKind.i64.min = -9223372036854775808 := rfl
          have e2 : IntKind.i64.max = 9223372036854775807 := rfl
          have := leftsN_le rs x.s
          simp [Lit.wf, e1, e2]
          omega
        have HQV := Aside0.mk hqv
        have HWR : Aside0 (wrap64 (q + 1) = q + 1) := ⟨by have := leftsN_le rs x.s; unfold wrap64; omega⟩
        have hnn : n ≤ 140737488351232 := by omega
        clear BK HO HRS hsx hff2 hq hqv
        have BK := n1_
        have HO := n3_
        clear n1_ n3_
        refine start_ (n := 11) (S := fun w' => w'.cell? ⟨b, 4, none⟩ = some v4 ∧ w'.cell? ⟨xB, 0, none⟩ = some (.int .i64 x.k) ∧ w'.cell? ⟨xB, 1, none⟩ = some (.string x.s) ∧ w'.cell? ⟨xB, 2, none⟩ = some (.int .i64 x.at_) ∧ w'.cell? ⟨xB, 3, none⟩ = some (.slice An acc.length cn)) (ds := [10]) #[false, false, false, false, false, false, false, false, false, false, false] (by kernel_rfl) rfl rfl ⟨HSX.out.rl.cell4, (blk_cell BK.out 0).trans rfl, (blk_cell BK.out 1).trans rfl, (blk_cell BK.out 2).trans rfl, (blk_cell BK.out 3).trans rfl⟩ (fun hHeld => ?_)
        refine with_tabW ru7Tab ru7Bits (fun HT_ HW_ => ?_)
        generalize World.drew _ = w5 at HSX HR4 BK HO hHeld ⊢
        refine pure_ (i := 0) (N := (some 28)) (v := ?_) (a' := ?_) #[true, false, false, false, false, false, false, false, false, false, false] rfl rfl (any_of HT_.out (by kernel_rfl)) (fun _ _ _ h => h) (Or.inl ⟨by rfl, ?_⟩) ?_ ?_
        rotate_left
        · intro w'
          go_simp
          with_reducible rfl
        rotate_left
        · simp only [Act.put, List.setIfInBounds_toArray, List.set_cons_zero, List.set_cons_succ, i64_w, i32_w]
          rfl
        refine pure_ (i := 1) (N := (some 29)) (v := ?_) (a' := ?_) #[true, true, false, false, false, false, false, false, false, false, false] rfl rfl (any_of HT_.out (by kernel_rfl)) (fun _ _ _ h => h) (Or.inl ⟨by rfl, ?_⟩) ?_ ?_
        rotate_left
        · intro w'
          go_simp
          with_reducible rfl
        rotate_left
        · simp only [Act.put, List.setIfInBounds_toArray, List.set_cons_zero, List.set_cons_succ, i64_w, i32_w]
          rfl
        refine pure_ (i := 2) (N := (some 30)) (v := ?_) (a' := ?_) #[true, true, true, false, false, false, false, false, false, false, false] rfl rfl (any_of HT_.out (by kernel_rfl)) (fun _ _ _ h => h) (Or.inl ⟨by rfl, ?_⟩) ?_ ?_
        rotate_left
        · intro w'
          go_simp
          with_reducible rfl
        rotate_left
        · simp only [Act.put, List.setIfInBounds_toArray, List.set_cons_zero, List.set_cons_succ, i64_w, i32_w]
          rfl
        refine pure_ (i := 3) (N := (some 31)) (v := ?_) (a' := ?_) #[true, true, true, true, false, false, false, false, false, false, false] rfl rfl (any_of HT_.out (by kernel_rfl)) (fun _ _ _ h => h) (Or.inl ⟨by rfl, ?_⟩) ?_ ?_
        rotate_left
        · intro w'
          go_simp
          with_reducible rfl
        rotate_left
        · simp only [Act.put, List.setIfInBounds_toArray, List.set_cons_zero, List.set_cons_succ, i64_w, i32_w]
          rfl
        refine take_ (i := 4) (N := (some 32)) (v := ?_) (a' := ?_) #[true, true, true, true, true, false, false, false, false, false, false] rfl rfl (take_ofW HT_.out HW_.out (by kernel_rfl)) (fun _ _ _ h => h) (Or.inl ⟨by rfl, ?_⟩) hHeld ?_ ?_
        rotate_left
        · rintro w' ⟨s0, s1, s2, s3, s4⟩
          go_simp
          with_reducible rfl
        rotate_left
        · simp only [Act.put, List.setIfInBounds_toArray, List.set_cons_zero, List.set_cons_succ, i64_w, i32_w]
          rfl
        refine take_ (i := 5) (N := (some 33)) (v := ?_) (a' := ?_) #[true, true, true, true, true, true, false, false, false, false, false] rfl rfl (take_ofW HT_.out HW_.out (by kernel_rfl)) (fun _ _ _ h => h) (Or.inl ⟨by rfl, ?_⟩) hHeld ?_ ?_
        rotate_left
        · rintro w' ⟨s0, s1, s2, s3, s4⟩
          go_simp
          with_reducible rfl
        rotate_left
        · simp only [Act.put, List.setIfInBounds_toArray, List.set_cons_zero, List.set_cons_succ, i64_w, i32_w]
          rfl
        refine one_ (i := 6) (N := (some 34)) #[true, true, true, true, true, true, true, false, false, false, false] rfl rfl (one_of HT_.out (by kernel_rfl)) (by decide) (fun K hK => ?_)
        have hM := kRu_M (x := ⟨x, acc⟩) (Kd.R_lower (R_behind HO.out HE4.out (Nat.le_refl _)) HW)
        refine Kd.R_lit_step kRu (w0 := w5) W0.heap.size 93 ?hg (N := 34) ?hd (xs := [(⟨x, acc⟩ : Ru)]) (inner := [.int .i64 x.k, .string x.s, .int .i64 x.at_, .slice An acc.length cn]) (ok := fun k => k ≠ b ∧ some k ≠ v4.ownBlock) (okp := fun k => k ≠ b ∧ some k ≠ v4.ownBlock) ?hr ?hp (fun _ hk => hk) ⟨fun he => by have := HSX.out.rl.lt; omega, fun he => by have := Kd.R_lt HR4.out _ he.symm; omega⟩ (Below.refl _ _) HSX.out.rl.below.size (by simp) ?_; (case hd => rfl); (case hg => rfl); (case hr => first | (go_simp; done) | (go_simp; rfl)); (case hp => exact (Reps.snoc (Reps.none _ _) hM rfl))
        intro vL w7 ho hb hg hnew
        clear hM
        obtain ⟨A8, c8, e8, C8⟩ := lits_rows ho
        subst e8
        have hgn := grown_none hg
        have n1_ := Aside0.mk (blk_grown BK.out hg (by simp))
        have n2_ := Aside0.mk (HSX.out.later hgn)
        have n3_ := Aside0.mk (Kd.R_grown HR4.out hg (fun _ _ => by simp))
        have HX := Aside0.mk C8
        clear HSX HR4 BK HO ho hb hg hnew C8 hgn
        have BK := n1_
        have HSX := n2_
        have HR4 := n3_
        clear n1_ n2_ n3_
        refine hK.out _ _ ⟨HSX.out.rl.cell4, (blk_cell BK.out 0).trans rfl, (blk_cell BK.out 1).trans rfl, (blk_cell BK.out 2).trans rfl, (blk_cell BK.out 3).trans rfl⟩ (fun hHeld => ?_)
        clear hK K
        refine norm_ (a' := ?_) ?_ ?_
        rotate_left
        · show Act.put _ (some 34) _ = _
          simp only [Act.put, List.setIfInBounds_toArray, List.set_cons_zero, List.set_cons_succ, i64_w, i32_w]
          rfl
        refine one_ (i := 7) (N := (some 35)) #[true, true, true, true, true, true, true, true, false, false, false] rfl rfl (one_of HT_.out (by kernel_rfl)) (by decide) (fun K hK => ?_)
        refine Kd.R_append_rows_step kRu (w0 := w7) W0.heap.size (by rfl) (.tmp 32) (.tmp 34) 60 93 (.agg #[.int .i64 0, .string ⟨#[]⟩, .int .i64 0, .slice none 0 0]) 56 rfl Tryz.underlying60 infoRu rfl (by decide) (by omega) v4 rs [(⟨x, acc⟩ : Ru)] _ _ _ (fun k => k ≠ b) (fun k => k ≠ b ∧ some k ≠ v4.ownBlock) rfl rfl HR4.out HX.out (fun p cs hp => kRu.M_mono (fun k hk => hk.1) hp) (fun _ h => h) (fun k hk he => by have := HSX.out.rl.lt; omega) (Below.refl _ _) HSX.out.rl.below.size ?aL ?_
        case aL => simp only [List.length_cons, List.length_nil]; omega
        intro vN w8 ho hb hg hat
        have n1_ := Aside0.mk (blk_grown BK.out hg HNE.out)
        have n2_ := Aside0.mk (RS.put4 HSX.out HR4.out ho hg)
        have HSL := Aside0.mk (Kd.R_slice ho)
        clear HSX HR4 BK HX ho hb hg hat
        have BK := n1_
        have HP := n2_
        clear n1_ n2_
        refine hK.out _ _ ⟨HP.out.1.cell4, (blk_cell BK.out 0).trans rfl, (blk_cell BK.out 1).trans rfl, (blk_cell BK.out 2).trans rfl, (blk_cell BK.out 3).trans rfl⟩ (fun hHeld => ?_)
        clear hK K
        refine norm_ (a' := ?_) ?_ ?_
        rotate_left
        · show Act.put _ (some 35) _ = _
          simp only [Act.put, List.setIfInBounds_toArray, List.set_cons_zero, List.set_cons_succ, i64_w, i32_w]
          rfl
        refine pure_ (i := 8) (N := (some 36)) (v := ?_) (a' := ?_) #[true, true, true, true, true, true, true, true, true, false, false] rfl rfl (any_of HT_.out (by kernel_rfl)) (fun _ _ _ h => h) (Or.inl ⟨by rfl, ?_⟩) ?_ ?_
        rotate_left
        · intro w'
          go_simp
          with_reducible rfl
        rotate_left
        · simp only [Act.put, List.setIfInBounds_toArray, List.set_cons_zero, List.set_cons_succ, i64_w, i32_w]
          rfl
        refine pure_ (i := 9) (N := (some 37)) (v := ?_) (a' := ?_) #[true, true, true, true, true, true, true, true, true, true, false] rfl rfl (any_of HT_.out (by kernel_rfl)) (fun _ _ _ h => h) (Or.inl ⟨by rfl, ?_⟩) ?_ ?_
        rotate_left
        · intro w'
          go_simp
          with_reducible rfl
        rotate_left
        · simp only [Act.put, List.setIfInBounds_toArray, List.set_cons_zero, List.set_cons_succ, i64_w, i32_w]
          rfl
        refine last_ (i := 10) (N := none) #[true, true, true, true, true, true, true, true, true, true, true] rfl rfl (one_of HT_.out (by kernel_rfl)) (by decide) (fun K hK => ?_)
        obtain ⟨v0_, hk_⟩ := HP.out.1.blk
        have f0 := (blk_cell hk_ 4).trans rfl
        have f1 := blk_frozen hk_ 4
        refine skip_ (by rfl) rfl (w1 := w8.setCell ⟨b, 4, none⟩ vN) ?hrun ?_; (case hrun => obtain ⟨An, cn, en⟩ : ∃ An cn, vN = .slice An (rs ++ [(⟨x, acc⟩ : Ru)]).length cn := HSL.out; subst en; first | (go_simp; done) | (go_simp; rfl))
        have n1_ := Aside0.mk (blk_far (p := ⟨b, 4, none⟩) BK.out hxb vN)
        clear f0 f1 hk_ BK HSL
        have BK := n1_
        have HSX := Aside0.mk HP.out.2.1
        have HR4 := Aside0.mk HP.out.2.2
        clear HP n1_
        refine hK.out _ _ ?_
        clear hK K
        refine done_ (done_of HT_.out (by kernel_rfl)) ?_
        go_wp2
        have n1_ := Aside0.mk (blk_drew BK.out)
        have n2_ := Aside0.mk (HSX.out.later (below_drew (Below.refl _ _)))
        have n3_ := Aside0.mk (Kd.R_drew HR4.out)
        clear BK HSX HR4
        have BK := n1_
        have HSX := n2_
        have HR4 := n3_
        clear n1_ n2_ n3_
        refine start_ (n := 10) (S := fun w' => w'.cell? ⟨b, 5, none⟩ = some (.map (some m)) ∧ w'.cell? ⟨xB, 1, none⟩ = some (.string x.s) ∧ (Instr.lookup 59 (.map (some m)) (.string x.s) false).run Tryz.prog w' = .ok (.int .i64 q) w') (ds := [9]) #[false, false, false, false, false, false, false, false, false, false] (by kernel_rfl) rfl rfl ⟨HSX.out.rl.cell5, (blk_cell BK.out 1).trans rfl, HQ.out ▸ msi_look HSX.out.mp x.s HXS.out 59 Tryz.underlying59⟩ (fun hHeld => ?_)
        refine with_tabW ru8Tab ru8Bits (fun HT_ HW_ => ?_)
        generalize World.drew _ = w5 at HSX HR4 hHeld ⊢
        refine pure_ (i := 0) (N := (some 38)) (v := ?_) (a' := ?_) #[true, false, false, false, false, false, false, false, false, false] rfl rfl (any_of HT_.out (by kernel_rfl)) (fun _ _ _ h => h) (Or.inl ⟨by rfl, ?_⟩) ?_ ?_
        rotate_left
        · intro w'
          go_simp
          with_reducible rfl
        rotate_left
        · simp only [Act.put, List.setIfInBounds_toArray, List.set_cons_zero, List.set_cons_succ, i64_w, i32_w]
          rfl
        refine pure_ (i := 1) (N := (some 39)) (v := ?_) (a' := ?_) #[true, true, false, false, false, false, false, false, false, false] rfl rfl (any_of HT_.out (by kernel_rfl)) (fun _ _ _ h => h) (Or.inl ⟨by rfl, ?_⟩) ?_ ?_
        rotate_left
        · intro w'
          go_simp
          with_reducible rfl
        rotate_left
        · simp only [Act.put, List.setIfInBounds_toArray, List.set_cons_zero, List.set_cons_succ, i64_w, i32_w]
          rfl
        refine pure_ (i := 2) (N := (some 40)) (v := ?_) (a' := ?_) #[true, true, true, false, false, false, false, false, false, false] rfl rfl (any_of HT_.out (by kernel_rfl)) (fun _ _ _ h => h) (Or.inl ⟨by rfl, ?_⟩) ?_ ?_
        rotate_left
        · intro w'
          go_simp
          with_reducible rfl
        rotate_left
        · simp only [Act.put, List.setIfInBounds_toArray, List.set_cons_zero, List.set_cons_succ, i64_w, i32_w]
          rfl
        refine take_ (i := 3) (N := (some 41)) (v := ?_) (a' := ?_) #[true, true, true, true, false, false, false, false, false, false] rfl rfl (take_ofW HT_.out HW_.out (by kernel_rfl)) (fun _ _ _ h => h) (Or.inl ⟨by rfl, ?_⟩) hHeld ?_ ?_
        rotate_left
        · rintro w' ⟨s0, s1, s2⟩
          go_simp
          with_reducible rfl
        rotate_left
        · simp only [Act.put, List.setIfInBounds_toArray, List.set_cons_zero, List.set_cons_succ, i64_w, i32_w]
          rfl
        refine pure_ (i := 4) (N := (some 42)) (v := ?_) (a' := ?_) #[true, true, true, true, true, false, false, false, false, false] rfl rfl (any_of HT_.out (by kernel_rfl)) (fun _ _ _ h => h) (Or.inl ⟨by rfl, ?_⟩) ?_ ?_
        rotate_left
        · intro w'
          go_simp
          with_reducible rfl
        rotate_left
        · simp only [Act.put, List.setIfInBounds_toArray, List.set_cons_zero, List.set_cons_succ, i64_w, i32_w]
          rfl
        refine pure_ (i := 5) (N := (some 43)) (v := ?_) (a' := ?_) #[true, true, true, true, true, true, false, false, false, false] rfl rfl (any_of HT_.out (by kernel_rfl)) (fun _ _ _ h => h) (Or.inl ⟨by rfl, ?_⟩) ?_ ?_
        rotate_left
        · intro w'
          go_simp
          with_reducible rfl
        rotate_left
        · simp only [Act.put, List.setIfInBounds_toArray, List.set_cons_zero, List.set_cons_succ, i64_w, i32_w]
          rfl
        refine take_ (i := 6) (N := (some 44)) (v := ?_) (a' := ?_) #[true, true, true, true, true, true, true, false, false, false] rfl rfl (take_ofW HT_.out HW_.out (by kernel_rfl)) (fun _ _ _ h => h) (Or.inl ⟨by rfl, ?_⟩) hHeld ?_ ?_
        rotate_left
        · rintro w' ⟨s0, s1, s2⟩
          go_simp
          with_reducible rfl
        rotate_left
        · simp only [Act.put, List.setIfInBounds_toArray, List.set_cons_zero, List.set_cons_succ, i64_w, i32_w]
          rfl
        refine take_ (i := 7) (N := (some 45)) (v := ?_) (a' := ?_) #[true, true, true, true, true, true, true, true, false, false] rfl rfl (take_ofW HT_.out HW_.out (by kernel_rfl)) (fun _ _ _ h => h) (Or.inl ⟨by rfl, ?_⟩) hHeld ?_ ?_
        rotate_left
        · rintro w' ⟨s0, s1, s2⟩
          go_simp
          with_reducible rfl
        rotate_left
        · simp only [Act.put, List.setIfInBounds_toArray, List.set_cons_zero, List.set_cons_succ, i64_w, i32_w]
          rfl
        refine pure_ (i := 8) (N := (some 46)) (v := ?_) (a' := ?_) #[true, true, true, true, true, true, true, true, true, false] rfl rfl (any_of HT_.out (by kernel_rfl)) (fun _ _ _ h => h) (Or.inl ⟨by rfl, ?_⟩) ?_ ?_
        rotate_left
        · intro w'
          go_simp
          with_reducible rfl
        rotate_left
        · simp only [Act.put, List.setIfInBounds_toArray, List.set_cons_zero, List.set_cons_succ, i64_w, i32_w]
          rfl
        refine last_ (i := 9) (N := none) #[true, true, true, true, true, true, true, true, true, true] rfl rfl (one_of HT_.out (by kernel_rfl)) (by decide) (fun K hK => ?_)
        obtain ⟨w6, hrun_, hm6, hg6⟩ := msi_upd HSX.out.mp hnn x.s HXS.out (q + 1) hqw 59 Tryz.underlying59
        refine skip_ (by rfl) rfl (w1 := w6) ?hrun ?_; (case hrun => have hwr := HWR.out; first | (go_simp; done) | (go_simp; rfl))
        have n2_ := Aside0.mk (HSX.out.putM hm6 hg6)
        obtain ⟨es_, clock_, hes_⟩ := HSX.out.mp.map_
        have n3_ := Aside0.mk (R_map HR4.out hes_ hg6)
        clear HSX HR4 hm6 hg6 hrun_ hes_
        have HSX := n2_
        have HR4 := n3_
        clear n2_ n3_
        refine hK.out _ _ ?_
        clear hK K
        refine done_ (done_of HT_.out (by kernel_rfl)) ?_
        go_wp2
        (first | go_end0 | refine bodyPost_ret (results_none rfl _ _ _) rfl ?_)
        rw [HRv.out]
        refine ⟨rfl, _, ⟨⟨_, _, _, HSX.out, fun u => ?_, by rw [List.length_append]; exact Nat.succ_le_succ hnr⟩, HR4.out⟩⟩
        rw [leftsN_snoc]
        by_cases e : u = x.s
        · subst e
          rw [if_pos rfl, if_pos rfl, HQV.out]
          rfl
        · rw [if_neg e, if_neg (fun h => e h.symm), HFF.out]
          rfl
      · have HK5 := Aside0.mk hk5
        have HRv : Aside0 (R = .error (badS l2)) := ⟨by rw [← HR.out]; unfold contS; rw [if_neg hk4, if_neg hk5]⟩
        clear hk4 hk5 HR
        go_wp2_with (first | (go_at_call 59; ((with_reducible refine (rd_isn HRL.out HK4.out).mono ?_); rintro e w' ⟨rfl, rfl⟩)) | (go_at_call 95; ((with_reducible refine (rd_want_no HRL.out HK5.out).mono ?_); rintro e w4 ⟨⟨older, rfl, ho⟩, hb4⟩)))
        refine ⟨rfl, ?_⟩
        rw [HRv.out]
        exact ⟨⟨older, rfl, ho⟩, HRL.out.below.trans (hb4.below HRL.out.hb HRL.out.below.size)⟩
end Go.Proofs.YtliofoikejdjeaaGreat
/- gread's reader: a rule, whole; the form. -/
namespace Go.Proofs.YtliofoikejdjeaaGreat
open Go.RowKit Go.Proofs.YtliofoikejdjeaaGreatW.PrintWords
set_option linter.unusedVariables false
set_option linter.unusedSimpArgs false
theorem ruleS_eq {x y : Tk} {l : List Tk} (hx : x.k = 1) (hy : y.k = 3) : ruleS (x :: y :: l) = ruleOf x (sidesS ((x :: y :: l).length + 1) l []) := by
  unfold ruleS
  rw [if_pos (show (hd (x :: y :: l)).k = 1 from hx), if_pos (show (hd (x :: y :: l).tail).k = 3 from hy)]
  rfl
set_option maxHeartbeats 1000000 in
theorem rd_rule {W0 w : World} {b : Nat} {v1 v2 v3 v4 : Value} {m : Nat} {D : List Tk} {M : List Int} {S : List Tk} {rs : List Ru} {l : List Tk} (h : RS W0 w b l v1 v2 v3 v4 m D M S rs) (ht : TEnd l) (hs : ∀ t ∈ l, t.s.size ≤ 10000) (hm : l.length + rs.length ≤ 100000) :
    Calls Tryz.prog 62 #[.pointer (some ⟨b, 0, none⟩)] w (RuleEnd W0 b v1 v2 v3 m D M S rs (ruleS l)) := by
  by_cases h1 : (hd l).k = 1
  · obtain ⟨x, l1, rfl, hl1, ht1⟩ := ht.hd (by rw [h1]; decide)
    by_cases h3 : (hd l1).k = 3
    · obtain ⟨y, l2, rfl, hl2, ht2⟩ := ht1.hd (by rw [h3]; decide)
      rw [ruleS_eq (x := x) (y := y) h1 h3]
      exact rd_rule3 h h1 h3 hl2 ht2 (hs x List.mem_cons_self) (by simp only [List.length_cons] at hm; omega) (by simp only [List.length_cons]; omega) rfl
    · have HE := Aside0.mk h
      have HX1 := Aside0.mk (show x.k = 1 from h1)
      have HY3 := Aside0.mk h3
      have HRv : Aside0 (ruleS (x :: l1) = .error (badS l1)) := ⟨by unfold ruleS; rw [if_pos h1, if_neg (show ¬ (hd (x :: l1).tail).k = 3 from h3)]; rfl⟩
      clear h h1 h3 ht1 hs
      go_enter Tryz.func62, Tryz.ntmps62
      go_wp2_with (go_at_call 95; ((with_reducible refine (rd_want HE.out.rl hl1 HX1.out).mono ?_); rintro e w1 ⟨rfl, h1, hb1⟩; have H1 := Aside0.mk h1; clear h1 hb1; unfold tkV))
      go_wp2_with (go_at_call 95; ((with_reducible refine (rd_want_no (H1.out.alloc _) HY3.out).mono ?_); rintro e w2 ⟨⟨older, rfl, ho⟩, hb2⟩))
      refine ⟨rfl, ?_⟩
      rw [HRv.out]
      exact ⟨⟨older, rfl, ho⟩, (H1.out.alloc _).below.trans (hb2.below H1.out.hb (H1.out.alloc _).below.size)⟩
  · have HE := Aside0.mk h
    have HX1 := Aside0.mk h1
    have HRv : Aside0 (ruleS l = .error (badS l)) := ⟨by unfold ruleS; rw [if_neg h1]⟩
    clear h h1 hs
    go_enter Tryz.func62, Tryz.ntmps62
    go_wp2_with (go_at_call 95; ((with_reducible refine (rd_want_no HE.out.rl HX1.out).mono ?_); rintro e w2 ⟨⟨older, rfl, ho⟩, hb2⟩))
    refine ⟨rfl, ?_⟩
    rw [HRv.out]
    exact ⟨⟨older, rfl, ho⟩, HE.out.rl.below.trans (hb2.below HE.out.rl.hb HE.out.rl.below.size)⟩
theorem sides_rest : ∀ (f : Nat) {l : List Tk} {acc : List Sd} {l' : List Tk} {sd : List Sd}, sidesS f l acc = .ok (l', sd) → TEnd l → TEnd l' ∧ l'.length < l.length ∧ ∀ t ∈ l', t ∈ l := by
  intro f
  induction f with
  | zero => intro l acc l' sd h; cases h
  | succ f ih =>
    intro l acc l' sd h ht
    rw [sides_cont] at h
    have hd2 := ht.drop
    have hlen := drop_len l
    have hmem : ∀ t ∈ l.dropWhile symB, t ∈ l := fun t h => (List.dropWhile_suffix symB).subset h
    generalize l.dropWhile symB = l2 at *
    unfold contS at h
    by_cases h4 : (hd l2).k = 4
    · rw [if_pos h4] at h
      obtain ⟨z, l3, rfl, hl3, ht3⟩ := hd2.hd (by rw [h4]; decide)
      obtain ⟨h1, h2, h3⟩ := ih h ht3
      exact ⟨h1, by simp only [List.length_cons, List.tail_cons] at *; omega, fun t h => hmem t (List.mem_cons_of_mem _ (h3 t h))⟩
    · rw [if_neg h4] at h
      by_cases h5 : (hd l2).k = 5
      · rw [if_pos h5] at h
        obtain ⟨z, l3, rfl, hl3, ht3⟩ := hd2.hd (by rw [h5]; decide)
        injection h with h
        injection h with h _
        subst h
        exact ⟨ht3, by simp only [List.length_cons, List.tail_cons] at *; omega, fun t h => hmem t (List.mem_cons_of_mem _ h)⟩
      · rw [if_neg h5] at h
        cases h
theorem rule_rest {l l' : List Tk} {r : Ru} (h : ruleS l = .ok (l', r)) (ht : TEnd l) : TEnd l' ∧ l'.length < l.length ∧ ∀ t ∈ l', t ∈ l := by
  unfold ruleS at h
  by_cases h1 : (hd l).k = 1
  · rw [if_pos h1] at h
    obtain ⟨x, l1, rfl, hl1, ht1⟩ := ht.hd (by rw [h1]; decide)
    by_cases h3 : (hd l1).k = 3
    · obtain ⟨y, l2, rfl, hl2, ht2⟩ := ht1.hd (by rw [h3]; decide)
      rw [if_pos (show (hd (x :: y :: l2).tail).k = 3 from h3)] at h
      cases hr : sidesS ((x :: y :: l2).length + 1) (x :: y :: l2).tail.tail [] with
      | error e => rw [hr] at h; cases h
      | ok p =>
        obtain ⟨l3, sd⟩ := p
        rw [hr] at h
        injection h with h
        injection h with h _
        subst h
        obtain ⟨h1, h2, h3⟩ := sides_rest _ hr ht2
        exact ⟨h1, by simp only [List.length_cons, List.tail_cons] at *; omega, fun t h => List.mem_cons_of_mem _ (List.mem_cons_of_mem _ (h3 t h))⟩
    · rw [if_neg (show ¬ (hd (x :: l1).tail).k = 3 from h3)] at h
      cases h
  · rw [if_neg h1] at h
    cases h
def formRest (n : Nat) (R : Except Ft (List Tk × Hd)) : Except Ft (Hd × List Ru) :=
  match R with
  | .error e => .error e
  | .ok (l', x) =>
    match ruleS l' with
    | .error e => .error e
    | .ok (l'', r) =>
      match rulesS n l'' [r] with
      | .error e => .error e
      | .ok rs => .ok (x, rs)
theorem form_rest (l : List Tk) : formS l = formRest (l.length + 1) (headsS (l.length + 1) l ⟨[], [], []⟩) := rfl
def formLast (x : Hd) (R : Except Ft (List Ru)) : Except Ft (Hd × List Ru) :=
  match R with
  | .error e => .error e
  | .ok rs => .ok (x, rs)
theorem form_last {n : Nat} {l3 l4 : List Tk} {x : Hd} {r4 : Ru} (h : ruleS l3 = .ok (l4, r4)) : formRest n (.ok (l3, x)) = formLast x (rulesS n l4 [r4]) := by
  unfold formRest formLast
  simp only [h]
theorem rules_step (f : Nat) (l : List Tk) (acc : List Ru) (h : (hd l).k ≠ 0) : rulesS (f + 1) l acc = match ruleS l with | .ok (l', r) => rulesS f l' (acc ++ [r]) | .error e => .error e := by
  rw [rulesS, if_neg h]
  cases ruleS l with
  | error e => rfl
  | ok p => rfl
def FormEnd (W0 : World) (b m : Nat) (R : Except Ft (Hd × List Ru)) (e : Ending) (w' : World) : Prop :=
  match R with
  | .error f => Panics f e ∧ Below W0.heap.size W0 w'
  | .ok (x, rs) => e = .returned (.tuple #[]) ∧ ∃ l' v1 v2 v3 v4, RS W0 w' b l' v1 v2 v3 v4 m x.declared x.marks x.starts rs
theorem heads_step (f : Nat) (l : List Tk) (x : Hd) (h : (hd l).k ≠ 6) : headsS (f + 1) l x = match headS l x with | .ok (l', x') => headsS f l' x' | .error e => .error e := by
  rw [headsS, if_neg h]
  cases headS l x with
  | error e => rfl
  | ok p => rfl
theorem while_len (l : List Tk) : (l.takeWhile symB).length + (l.dropWhile symB).length = l.length := by rw [← List.length_append, List.takeWhile_append_dropWhile]
set_option maxHeartbeats 16000000 in
set_option maxRecDepth 100000 in
theorem rd_form {W0 w : World} {b m : Nat} {l : List Tk} (h : HS W0 w b l (.slice none 0 0) (.slice none 0 0) (.slice none 0 0) (.slice none 0 0) m 0 (fun _ => none) 0 [] [] []) (ht : TEnd l) (hs : ∀ t ∈ l, t.s.size ≤ 10000) (hm : l.length ≤ 10000) :
    Calls Tryz.prog 29 #[.pointer (some ⟨b, 0, none⟩)] w (FormEnd W0 b m (formS l)) := by
  rw [form_rest]
  obtain ⟨R, hR⟩ : ∃ R, headsS (l.length + 1) l ⟨[], [], []⟩ = R := ⟨_, rfl⟩
  rw [hR]
  have HR := Aside0.mk hR
  have HE := Aside0.mk h
  have HT := Aside0.mk ht
  have HSZ := Aside0.mk hs
  clear h ht hR hs
  go_enter Tryz.func29, Tryz.ntmps29
  go_wp2_with fail
  go_loopg [3] l.length (fun gg u3 wr => ∃ (f : Nat) (l2 : List Tk) (x : Hd) (v1 v2 v3 : Value), l2.length ≤ l.length ∧ l2.length ≤ gg ∧ l2.length ≤ f ∧ x.declared.length + l2.length ≤ l.length ∧ x.marks.length + l2.length ≤ l.length ∧ x.starts.length + l2.length ≤ l.length ∧ Aside0 (headsS f l2 x = R) ∧ Aside0 (TEnd l2 ∧ ∀ t ∈ l2, t ∈ l) ∧ Aside0 (HS W0 wr b l2 v1 v2 v3 (.slice none 0 0) m 0 (fun _ => none) 0 x.declared x.marks x.starts))
  case atStart => exact ⟨l.length + 1, l, ⟨[], [], []⟩, _, _, _, Nat.le_refl _, Nat.le_refl _, by omega, by simp, by simp, by simp, HR, ⟨HT.out, fun t h => h⟩, HE⟩
  case round =>
    clear HR HE HT
    obtain ⟨f, l2, x, v1, v2, v3, hl2, hgg, hff, hD, hM, hS, HR, HT, HE⟩ := hrel
    by_cases h6 : (hd l2).k = 6
    · obtain ⟨t, l3, rfl, hl3, ht3⟩ := HT.out.1.hd (by rw [h6]; decide)
      have HK6 := Aside0.mk (show (hd (t :: l3)).k = 6 from h6)
      have HT3 := Aside0.mk (And.intro ht3 (fun u (h : u ∈ l3) => HT.out.2 u (List.mem_cons_of_mem _ h)))
      simp only [List.length_cons] at hl2 hgg hff hD hM hS
      obtain ⟨g, rfl⟩ : ∃ g, f = g + 1 := ⟨f - 1, by omega⟩
      have HR2 : Aside0 (R = .ok (l3, x)) := ⟨by
        have hst := HR.out
        rw [headsS, if_pos (show (hd (t :: l3)).k = 6 from h6)] at hst
        exact hst.symm⟩
      have hmm : l3.length + ([] : List Ru).length ≤ 100000 := by simp only [List.length_nil]; omega
      clear h6 ht3 HR HT
      have hrr := fun (W : World) (hw : RS W0 W b l3 v1 v2 v3 (.slice none 0 0) m x.declared x.marks x.starts []) => rd_rule hw HT3.out.1 (fun u hu => HSZ.out u (HT3.out.2 u hu)) hmm
      cases hre : ruleS l3 with
      | error ef =>
        rw [hre] at hrr
        have HRE := Aside0.mk hre
        clear hre
        go_wp2_with (first | (go_at_call 59; ((with_reducible refine (rd_isy HE.out.rl HK6.out).mono ?_); rintro e w' ⟨rfl, rfl⟩)) | (go_at_call 61; refine (rd_take HE.out.rl hl3).mono ?_; rintro e w2 ⟨rfl, h2, hb2⟩; have H2 := Aside0.mk (HE.out.but hb2 h2); clear h2 hb2; unfold tkV) | (go_at_call 62; refine (hrr _ ⟨⟨0, _, 0, H2.out, fun u => rfl, Nat.le_refl _⟩, Kd.R_nil _ _ _ _ _⟩).mono ?_; rintro e w3 ⟨⟨older, rfl, ho⟩, hb3⟩))
        refine ⟨rfl, ?_⟩
        rw [HR2.out]
        unfold formRest
        simp only [HRE.out]
        exact ⟨⟨older, rfl, ho⟩, hb3⟩
      | ok p =>
        obtain ⟨l4, r4⟩ := p
        rw [hre] at hrr
        have HRE := Aside0.mk hre
        have HT4 := Aside0.mk (rule_rest hre HT3.out.1)
        have hl4 := HT4.out.2.1
        clear hre
        go_wp2_with (first | (go_at_call 59; ((with_reducible refine (rd_isy HE.out.rl HK6.out).mono ?_); rintro e w' ⟨rfl, rfl⟩)) | (go_at_call 61; refine (rd_take HE.out.rl hl3).mono ?_; rintro e w2 ⟨rfl, h2, hb2⟩; have H2 := Aside0.mk (HE.out.but hb2 h2); clear h2 hb2; unfold tkV) | (go_at_call 62; refine (hrr _ ⟨⟨0, _, 0, H2.out, fun u => rfl, Nat.le_refl _⟩, Kd.R_nil _ _ _ _ _⟩).mono ?_; rintro e w3 ⟨rfl, v4', h3⟩; have H3 := Aside0.mk h3; clear h3))
        clear hrr
        obtain ⟨R2, hR2⟩ : ∃ R2, rulesS (l.length + 1) l4 [r4] = R2 := ⟨_, rfl⟩
        have HF : Aside0 (formRest (l.length + 1) R = formLast x R2) := ⟨by rw [HR2.out, form_last HRE.out, hR2]⟩
        have HRR := Aside0.mk hR2
        have HL4 : Aside0 (TEnd l4 ∧ ∀ t ∈ l4, t ∈ l) := ⟨HT4.out.1, fun u hu => HT3.out.2 u (HT4.out.2.2 u hu)⟩
        clear hR2 HR2 HRE HT3 HT4 HE HK6 hgg hff
        go_loopg [12] l.length (fun gg u12 wr => ∃ (f : Nat) (l5 : List Tk) (acc : List Ru) (v4 : Value), acc.length + l5.length ≤ l.length + 1 ∧ l5.length ≤ gg ∧ l5.length ≤ f ∧ Aside0 (rulesS f l5 acc = R2) ∧ Aside0 (TEnd l5 ∧ ∀ t ∈ l5, t ∈ l) ∧ Aside0 (RS W0 wr b l5 v1 v2 v3 v4 m x.declared x.marks x.starts acc))
        case atStart => exact ⟨l.length + 1, l4, [r4], v4', by simp only [List.length_cons, List.length_nil]; omega, by omega, by omega, HRR, HL4, H3⟩
        case round =>
          clear HRR HL4 H3
          obtain ⟨f, l5, acc, v4, hlen, hgg, hff, HRR, HT, HE⟩ := hrel
          by_cases h0 : (hd l5).k = 0
          · have HK0 := Aside0.mk h0
            have HRv : Aside0 (R2 = .ok acc) := ⟨by
              obtain ⟨l0, t, e, _⟩ := HT.out.1
              cases f with
              | zero => rw [e] at hff; simp at hff
              | succ f =>
                have hst := HRR.out
                rw [rulesS, if_pos h0] at hst
                exact hst.symm⟩
            clear h0 HRR
            go_wp2_with (go_at_call 59; ((with_reducible refine (rd_isy HE.out.rl HK0.out).mono ?_); rintro e w' ⟨rfl, rfl⟩))
            (first | go_end0 | refine bodyPost_ret (results_none rfl _ _ _) rfl ?_)
            rw [HF.out, HRv.out]
            exact ⟨rfl, _, _, _, _, _, HE.out⟩
          · have HK0 := Aside0.mk h0
            obtain ⟨t, l6, e5, hl6, ht6⟩ := HT.out.1.hd h0
            obtain ⟨g, rfl⟩ : ∃ g, f = g + 1 := ⟨f - 1, by rw [e5] at hff; simp only [List.length_cons] at hff; omega⟩
            have hst := HRR.out
            rw [rules_step g l5 acc h0] at hst
            have hrr := rd_rule HE.out HT.out.1 (fun u hu => HSZ.out u (HT.out.2 u hu)) (by omega)
            clear e5 hl6 ht6 HRR h0
            cases hre : ruleS l5 with
            | error ef =>
              rw [hre] at hrr hst
              have HRv : Aside0 (R2 = .error ef) := ⟨hst.symm⟩
              clear hre hst
              go_wp2_with (first | (go_at_call 59; ((with_reducible refine (rd_isn HE.out.rl HK0.out).mono ?_); rintro e w' ⟨rfl, rfl⟩)) | (go_at_call 62; refine hrr.mono ?_; rintro e w3 ⟨⟨older, rfl, ho⟩, hb3⟩))
              refine ⟨rfl, ?_⟩
              rw [HF.out, HRv.out]
              exact ⟨⟨older, rfl, ho⟩, hb3⟩
            | ok p =>
              obtain ⟨l7, r7⟩ := p
              rw [hre] at hrr hst
              have HR7 : Aside0 (rulesS g l7 (acc ++ [r7]) = R2) := ⟨hst⟩
              have HT7 := Aside0.mk (rule_rest hre HT.out.1)
              have hl7 := HT7.out.2.1
              clear hre hst
              go_wp2_with (first | (go_at_call 59; ((with_reducible refine (rd_isn HE.out.rl HK0.out).mono ?_); rintro e w' ⟨rfl, rfl⟩)) | (go_at_call 62; refine hrr.mono ?_; rintro e w3 ⟨rfl, v5', h3⟩; have H3 := Aside0.mk h3; clear h3))
              go_roundg l7.length
              case measure => omega
              case rel =>
                exact ⟨g, l7, acc ++ [r7], v5', by simp only [List.length_append, List.length_cons, List.length_nil]; omega, Nat.le_refl _, by omega, HR7, ⟨HT7.out.1, fun u hu => HT.out.2 u (HT7.out.2.2 u hu)⟩, H3⟩
    · have HK6 := Aside0.mk h6
      obtain ⟨t0, tt0, hpos⟩ : ∃ t r, l2 = t :: r := by
        obtain ⟨l0, t, e, _⟩ := HT.out.1
        cases l2 with
        | nil => simp at e
        | cons y r => exact ⟨y, r, rfl⟩
      obtain ⟨g, rfl⟩ : ∃ g, f = g + 1 := ⟨f - 1, by rw [hpos] at hff; simp only [List.length_cons] at hff; omega⟩
      clear hpos t0 tt0
      have hst := HR.out
      rw [heads_step g l2 x h6] at hst
      clear h6 HR
      by_cases h7 : (hd l2).k = 7
      · obtain ⟨t, l3, rfl, hl3, ht3⟩ := HT.out.1.hd (by rw [h7]; decide)
        have HT3 := Aside0.mk ht3
        have HK7 := Aside0.mk (show t.k = 7 from h7)
        simp only [List.length_cons] at hl2 hgg hff hD hM hS
        have hsum := while_len l3
        have hdl := drop_len l3
        cases hq : symB (hd l3) with
        | true =>
          have HQ := Aside0.mk hq
          have HR2 : Aside0 (headsS g (l3.dropWhile symB) { x with declared := x.declared ++ l3.takeWhile symB } = R) := ⟨by
            unfold headS at hst
            rw [if_pos h7, if_pos (show symB (hd (t :: l3).tail) = true from hq)] at hst
            exact hst⟩
          clear hst h7 ht3 hq
          go_wp2_with (first | (go_at_call 59; ((with_reducible refine (rd_isn HE.out.rl HK6.out).mono ?_); rintro e w' ⟨rfl, rfl⟩)) | (go_at_call 60; refine (rd_head7 HE.out HK7.out hl3 HT3.out HQ.out (by omega)).mono ?_; rintro e w2 ⟨rfl, v1', h2⟩; have H2 := Aside0.mk h2; clear h2))
          go_roundg (l3.dropWhile symB).length
          case measure => omega
          case rel =>
            exact ⟨g, l3.dropWhile symB, { x with declared := x.declared ++ l3.takeWhile symB }, v1', v2, v3, by omega, Nat.le_refl _, by omega, by rw [List.length_append]; omega, by show x.marks.length + _ ≤ _; omega, by show x.starts.length + _ ≤ _; omega, HR2, ⟨HT3.out.drop, fun t h => HT.out.2 t (List.mem_cons_of_mem _ ((List.dropWhile_suffix symB).subset h))⟩, H2⟩
        | false =>
          have HQ := Aside0.mk hq
          have HR2 : Aside0 (R = .error (badS l3)) := ⟨by
            unfold headS at hst
            rw [if_pos h7, if_neg (show ¬ symB (hd (t :: l3).tail) = true from by rw [show (t :: l3).tail = l3 from rfl, hq]; decide)] at hst
            exact hst.symm⟩
          clear hst h7 ht3 hq
          go_wp2_with (first | (go_at_call 59; ((with_reducible refine (rd_isn HE.out.rl HK6.out).mono ?_); rintro e w' ⟨rfl, rfl⟩)) | (go_at_call 60; refine (rd_head7_no HE.out HK7.out hl3 HQ.out).mono ?_; rintro e w2 ⟨⟨older, rfl, ho⟩, h2⟩))
          refine ⟨rfl, ?_⟩
          rw [HR2.out]
          exact ⟨⟨older, rfl, ho⟩, h2⟩
      · by_cases h8 : (hd l2).k = 8
        · obtain ⟨t, l3, rfl, hl3, ht3⟩ := HT.out.1.hd (by rw [h8]; decide)
          have HK8 := Aside0.mk (show t.k = 8 from h8)
          by_cases hy : (hd l3).k = 1
          · obtain ⟨y, l4, rfl, hl4, ht4⟩ := ht3.hd (by rw [hy]; decide)
            simp only [List.length_cons] at hl2 hgg hff hD hM hS
            have HT4 := Aside0.mk ht4
            have HY := Aside0.mk (show y.k = 1 from hy)
            have HR2 : Aside0 (headsS g l4 { x with marks := x.marks ++ [t.at_], starts := x.starts ++ [y] } = R) := ⟨by
              unfold headS at hst
              rw [if_neg h7, if_pos h8, if_pos (show (hd (t :: y :: l4).tail).k = 1 from hy)] at hst
              exact hst⟩
            clear hst h7 h8 ht3 ht4 hy
            go_wp2_with (first | (go_at_call 59; ((with_reducible refine (rd_isn HE.out.rl HK6.out).mono ?_); rintro e w' ⟨rfl, rfl⟩)) | (go_at_call 60; refine (rd_head8 HE.out HK8.out hl4 HY.out ⟨by omega, by omega⟩).mono ?_; rintro e w2 ⟨rfl, v2', v3', h2⟩; have H2 := Aside0.mk h2; clear h2))
            go_roundg l4.length
            case measure => omega
            case rel =>
              exact ⟨g, l4, { x with marks := x.marks ++ [t.at_], starts := x.starts ++ [y] }, v1, v2', v3', by omega, Nat.le_refl _, by omega, by show x.declared.length + _ ≤ _; omega, by simp only [List.length_append, List.length_cons, List.length_nil]; omega, by simp only [List.length_append, List.length_cons, List.length_nil]; omega, HR2, ⟨HT4.out, fun t h => HT.out.2 t (List.mem_cons_of_mem _ (List.mem_cons_of_mem _ h))⟩, H2⟩
          · have HY := Aside0.mk hy
            have HR2 : Aside0 (R = .error (badS l3)) := ⟨by
              unfold headS at hst
              rw [if_neg h7, if_pos h8, if_neg (show ¬ (hd (t :: l3).tail).k = 1 from hy)] at hst
              exact hst.symm⟩
            clear hst h7 h8 ht3 hy
            go_wp2_with (first | (go_at_call 59; ((with_reducible refine (rd_isn HE.out.rl HK6.out).mono ?_); rintro e w' ⟨rfl, rfl⟩)) | (go_at_call 60; refine (rd_head8_no HE.out HK8.out hl3 HY.out ⟨by omega, by omega⟩).mono ?_; rintro e w2 ⟨⟨older, rfl, ho⟩, h2⟩))
            refine ⟨rfl, ?_⟩
            rw [HR2.out]
            exact ⟨⟨older, rfl, ho⟩, h2⟩
        · have HK7 := Aside0.mk h7
          have HK8 := Aside0.mk h8
          have HR2 : Aside0 (R = .error (badS l2)) := ⟨by
            unfold headS at hst
            rw [if_neg h7, if_neg h8] at hst
            exact hst.symm⟩
          clear hst h7 h8
          go_wp2_with (first | (go_at_call 59; ((with_reducible refine (rd_isn HE.out.rl HK6.out).mono ?_); rintro e w' ⟨rfl, rfl⟩)) | (go_at_call 60; refine (rd_head_no HE.out HK7.out HK8.out).mono ?_; rintro e w2 ⟨⟨older, rfl, ho⟩, h2⟩))
          refine ⟨rfl, ?_⟩
          rw [HR2.out]
          exact ⟨⟨older, rfl, ho⟩, h2⟩
end Go.Proofs.YtliofoikejdjeaaGreat
/- What is read: how great it is (plain). -/
namespace Go.Proofs.YtliofoikejdjeaaGreat
open Go.RowKit Go.Proofs.YtliofoikejdjeaaGreatW.PrintWords
set_option linter.unusedVariables false
set_option linter.unusedSimpArgs false
theorem TEnd.cons {x : Tk} {l : List Tk} (h : TEnd l) : TEnd (x :: l) := by
  obtain ⟨l0, t, rfl, ht⟩ := h
  exact ⟨x :: l0, t, rfl, ht⟩
theorem cut_size (s : ByteArray) (a n : Nat) : (cutS s a n).size ≤ s.size := by
  unfold cutS
  rw [ByteArray.size_extract]
  omega
theorem toks_fine {s : ByteArray} : ∀ (f a : Nat), s.size < a + f → a ≤ s.size → (toksS s f a).2.1 = 0 → TEnd (toksS s f a).1 ∧ (∀ t ∈ (toksS s f a).1, t.s.size ≤ s.size) ∧ (toksS s f a).1.length ≤ s.size - a + 1 := by
  intro f
  induction f with
  | zero => intro a h1 h2; omega
  | succ f ih =>
    intro a h1 h2 h0
    by_cases hlt : a < s.size
    · by_cases hc : (oneS s a).2.2.1 = 0
      · obtain ⟨b1, b2⟩ := one_bounds hlt hc
        obtain ⟨m, hm⟩ : ∃ m : Nat, (oneS s a).2.1.toNat = m := ⟨_, rfl⟩
        have hi := ih (a + m) (by omega) (by omega)
        rw [toksS, if_neg (by omega)] at h0 ⊢
        dsimp only at h0 ⊢
        rw [if_neg (by rw [hc]; simp), hm] at h0 ⊢
        by_cases hr : (toksS s f (a + m)).2.1 = 0
        · rw [if_neg (by rw [hr]; simp)]
          obtain ⟨i1, i2, i3⟩ := hi hr
          dsimp only
          split
          · exact ⟨i1, i2, by omega⟩
          · refine ⟨i1.cons, fun t ht => ?_, by simp only [List.length_cons]; omega⟩
            rcases List.mem_cons.1 ht with rfl | ht
            · exact cut_size _ _ _
            · exact i2 t ht
        · rw [if_pos hr] at h0
          exact absurd h0 hr
      · rw [toks_bad hlt hc] at h0
        exact absurd h0 hc
    · rw [toks_end (by omega)]
      refine ⟨⟨[], _, rfl, rfl⟩, fun t ht => ?_, by simp⟩
      rcases List.mem_cons.1 ht with rfl | ht
      · exact Nat.zero_le _
      · cases ht
theorem all_fine {s : ByteArray} (h : (allS s).2.1 = 0) : TEnd (allS s).1 ∧ (∀ t ∈ (allS s).1, t.s.size ≤ 8192) ∧ (allS s).1.length ≤ 8193 := by
  unfold allS at h ⊢
  by_cases h1 : 8192 < s.size
  · rw [if_pos h1] at h
    exact absurd h (by simp)
  · rw [if_neg h1] at h ⊢
    obtain ⟨i1, i2, i3⟩ := toks_fine (s.size + 1) 0 (by omega) (Nat.zero_le _) h
    exact ⟨i1, fun t ht => by have := i2 t ht; omega, by omega⟩
theorem while_in {l : List Tk} : (∀ t ∈ l.takeWhile symB, t ∈ l) ∧ (l.takeWhile symB).length ≤ l.length := ⟨fun t h => (List.takeWhile_prefix symB).subset h, (List.takeWhile_prefix symB).length_le⟩
theorem sides_in : ∀ (f : Nat) {l : List Tk} {acc : List Sd} {l' : List Tk} {sd : List Sd}, sidesS f l acc = .ok (l', sd) → TEnd l → sd.length ≤ acc.length + l.length ∧ ∀ s ∈ sd, s ∈ acc ∨ (s.l.length ≤ l.length ∧ ∀ t ∈ s.l, t ∈ l) := by
  intro f
  induction f with
  | zero => intro l acc l' sd h; cases h
  | succ f ih =>
    intro l acc l' sd h ht
    rw [sides_cont] at h
    have hd2 := ht.drop
    have hlen := drop_len l
    have hmem : ∀ t ∈ l.dropWhile symB, t ∈ l := fun t h => (List.dropWhile_suffix symB).subset h
    have hS : (sideS l).l.length ≤ l.length ∧ ∀ t ∈ (sideS l).l, t ∈ l := ⟨while_in.2, while_in.1⟩
    generalize l.dropWhile symB = l2 at *
    unfold contS at h
    by_cases h4 : (hd l2).k = 4
    · rw [if_pos h4] at h
      obtain ⟨z, l3, rfl, hl3, ht3⟩ := hd2.hd (by rw [h4]; decide)
      obtain ⟨h1, h2⟩ := ih h ht3
      simp only [List.length_cons, List.tail_cons, List.length_append, List.length_nil] at *
      refine ⟨by omega, fun s hs => ?_⟩
      rcases h2 s hs with h | ⟨h, h'⟩
      · rcases List.mem_append.1 h with h | h
        · exact .inl h
        · obtain rfl := List.mem_singleton.1 h
          exact .inr hS
      · exact .inr ⟨by omega, fun t ht => hmem t (List.mem_cons_of_mem _ (h' t ht))⟩
    · rw [if_neg h4] at h
      by_cases h5 : (hd l2).k = 5
      · rw [if_pos h5] at h
        obtain ⟨z, l3, rfl, hl3, ht3⟩ := hd2.hd (by rw [h5]; decide)
        injection h with h
        injection h with _ h
        subst h
        simp only [List.length_cons, List.length_append, List.length_nil] at *
        refine ⟨by omega, fun s hs => ?_⟩
        rcases List.mem_append.1 hs with h | h
        · exact .inl h
        · obtain rfl := List.mem_singleton.1 h
          exact .inr hS
      · rw [if_neg h5] at h
        cases h
/-- A rule of these tokens. -/
def RuIn (L : List Tk) (r : Ru) : Prop := r.left ∈ L ∧ r.sides.length ≤ L.length ∧ ∀ s ∈ r.sides, s.l.length ≤ L.length ∧ ∀ t ∈ s.l, t ∈ L
theorem RuIn.up {L L' : List Tk} {r : Ru} (h : RuIn L r) (h1 : ∀ t ∈ L, t ∈ L') (h2 : L.length ≤ L'.length) : RuIn L' r :=
  ⟨h1 _ h.1, Nat.le_trans h.2.1 h2, fun s hs => ⟨Nat.le_trans (h.2.2 s hs).1 h2, fun t ht => h1 _ ((h.2.2 s hs).2 t ht)⟩⟩
theorem rule_in {l l' : List Tk} {r : Ru} (h : ruleS l = .ok (l', r)) (ht : TEnd l) : RuIn l r := by
  unfold ruleS at h
  by_cases h1 : (hd l).k = 1
  · rw [if_pos h1] at h
    obtain ⟨x, l1, rfl, hl1, ht1⟩ := ht.hd (by rw [h1]; decide)
    by_cases h3 : (hd l1).k = 3
    · obtain ⟨y, l2, rfl, hl2, ht2⟩ := ht1.hd (by rw [h3]; decide)
      rw [if_pos (show (hd (x :: y :: l2).tail).k = 3 from h3)] at h
      cases hr : sidesS ((x :: y :: l2).length + 1) (x :: y :: l2).tail.tail [] with
      | error e => rw [hr] at h; cases h
      | ok p =>
        obtain ⟨l3, sd⟩ := p
        rw [hr] at h
        injection h with h
        injection h with _ h
        subst h
        obtain ⟨h1, h2⟩ := sides_in _ hr ht2
        refine ⟨List.mem_cons_self .., by simp only [List.length_cons, List.length_nil, List.tail_cons] at *; omega, fun s hs => ?_⟩
        rcases h2 s hs with h | ⟨h, h'⟩
        · cases h
        · exact ⟨by simp only [List.length_cons, List.tail_cons] at *; omega, fun t ht => List.mem_cons_of_mem _ (List.mem_cons_of_mem _ (h' t ht))⟩
    · rw [if_neg (show ¬ (hd (x :: l1).tail).k = 3 from h3)] at h
      cases h
  · rw [if_neg h1] at h
    cases h
theorem rules_in : ∀ (f : Nat) {l : List Tk} {acc rs : List Ru}, rulesS f l acc = .ok rs → TEnd l → rs.length ≤ acc.length + l.length ∧ ∀ r ∈ rs, r ∈ acc ∨ RuIn l r := by
  intro f
  induction f with
  | zero => intro l acc rs h; cases h
  | succ f ih =>
    intro l acc rs h ht
    rw [rulesS] at h
    by_cases h0 : (hd l).k = 0
    · rw [if_pos h0] at h
      injection h with h
      subst h
      exact ⟨by omega, fun r hr => .inl hr⟩
    · rw [if_neg h0] at h
      cases hr : ruleS l with
      | error e => rw [hr] at h; cases h
      | ok p =>
        obtain ⟨l2, r2⟩ := p
        rw [hr] at h
        obtain ⟨t1, t2, t3⟩ := rule_rest hr ht
        have hri := rule_in hr ht
        obtain ⟨h1, h2⟩ := ih h t1
        simp only [List.length_append, List.length_cons, List.length_nil] at h1
        refine ⟨by omega, fun r hr2 => ?_⟩
        rcases h2 r hr2 with h | h
        · rcases List.mem_append.1 h with h | h
          · exact .inl h
          · obtain rfl := List.mem_singleton.1 h
            exact .inr hri
        · exact .inr (h.up t3 (by omega))
structure HdIn (l l' : List Tk) (x x' : Hd) : Prop where
  t : TEnd l'
  le : l'.length ≤ l.length
  mem : ∀ z ∈ l', z ∈ l
  len : x'.declared.length + l'.length ≤ x.declared.length + l.length
  dec : ∀ z ∈ x'.declared, z ∈ x.declared ∨ z ∈ l
  sta : ∀ z ∈ x'.starts, z ∈ x.starts ∨ z ∈ l
  par : x.starts.length = x.marks.length → x'.starts.length = x'.marks.length
theorem HdIn.trans {l l1 l2 : List Tk} {x x1 x2 : Hd} (h : HdIn l l1 x x1) (k : HdIn l1 l2 x1 x2) : HdIn l l2 x x2 :=
  ⟨k.t, Nat.le_trans k.le h.le, fun z hz => h.mem z (k.mem z hz), Nat.le_trans k.len h.len, fun z hz => (k.dec z hz).elim (h.dec z) (fun hh => .inr (h.mem z hh)), fun z hz => (k.sta z hz).elim (h.sta z) (fun hh => .inr (h.mem z hh)), fun hp => k.par (h.par hp)⟩
theorem head_in {l l' : List Tk} {x x' : Hd} (h : headS l x = .ok (l', x')) (ht : TEnd l) : HdIn l l' x x' := by
  unfold headS at h
  by_cases h7 : (hd l).k = 7
  · rw [if_pos h7] at h
    obtain ⟨t, l1, rfl, hl1, ht1⟩ := ht.hd (by rw [h7]; decide)
    by_cases hs : symB (hd (t :: l1).tail) = true
    · rw [if_pos hs] at h
      injection h with h
      injection h with h h'
      subst h h'
      have hw := while_len l1
      have hdl := drop_len l1
      refine ⟨ht1.drop, by simp only [List.length_cons, List.tail_cons]; omega, fun z hz => List.mem_cons_of_mem _ ((List.dropWhile_suffix symB).subset hz), ?_, fun z hz => ?_, fun z hz => .inl hz, fun hp => hp⟩
      · simp only [List.length_cons, List.tail_cons, List.length_append]
        omega
      · rcases List.mem_append.1 hz with h | h
        · exact .inl h
        · exact .inr (List.mem_cons_of_mem _ (while_in.1 z h))
    · rw [if_neg hs] at h
      cases h
  · rw [if_neg h7] at h
    by_cases h8 : (hd l).k = 8
    · rw [if_pos h8] at h
      obtain ⟨t, l1, rfl, hl1, ht1⟩ := ht.hd (by rw [h8]; decide)
      by_cases h1 : (hd l1).k = 1
      · obtain ⟨y, l2, rfl, hl2, ht2⟩ := ht1.hd (by rw [h1]; decide)
        rw [if_pos (show (hd (t :: y :: l2).tail).k = 1 from h1)] at h
        injection h with h
        injection h with h h'
        subst h h'
        refine ⟨ht2, by simp only [List.length_cons, List.tail_cons]; omega, fun z hz => List.mem_cons_of_mem _ (List.mem_cons_of_mem _ hz), by simp only [List.length_cons, List.tail_cons]; omega, fun z hz => .inl hz, fun z hz => ?_, fun hp => ?_⟩
        · rcases List.mem_append.1 hz with h | h
          · exact .inl h
          · obtain rfl := List.mem_singleton.1 h
            exact .inr (List.mem_cons_of_mem _ (List.mem_cons_self ..))
        · simp only [List.length_append, List.length_cons, List.length_nil]
          omega
      · rw [if_neg (show ¬ (hd (t :: l1).tail).k = 1 from h1)] at h
        cases h
    · rw [if_neg h8] at h
      cases h
theorem heads_in : ∀ (f : Nat) {l l' : List Tk} {x x' : Hd}, headsS f l x = .ok (l', x') → TEnd l → HdIn l l' x x' := by
  intro f
  induction f with
  | zero => intro l l' x x' h; cases h
  | succ f ih =>
    intro l l' x x' h ht
    by_cases h6 : (hd l).k = 6
    · rw [headsS, if_pos h6] at h
      injection h with h
      injection h with h h'
      subst h h'
      obtain ⟨t, l1, rfl, hl1, ht1⟩ := ht.hd (by rw [h6]; decide)
      exact ⟨ht1, by simp, fun z hz => List.mem_cons_of_mem _ hz, by simp only [List.length_cons, List.tail_cons]; omega, fun z hz => .inl hz, fun z hz => .inl hz, fun hp => hp⟩
    · rw [heads_step f l x h6] at h
      cases hr : headS l x with
      | error e => rw [hr] at h; cases h
      | ok p =>
        obtain ⟨l2, x2⟩ := p
        rw [hr] at h
        have h1 := head_in hr ht
        exact h1.trans (ih h h1.t)
structure FormFine (l : List Tk) (x : Hd) (rs : List Ru) : Prop where
  dlen : x.declared.length ≤ l.length
  dec : ∀ z ∈ x.declared, z ∈ l
  sta : ∀ z ∈ x.starts, z ∈ l
  par : x.starts.length = x.marks.length
  rlen : rs.length ≤ l.length + 1
  rin : ∀ r ∈ rs, RuIn l r
theorem form_fine {l : List Tk} {x : Hd} {rs : List Ru} (h : formS l = .ok (x, rs)) (ht : TEnd l) : FormFine l x rs := by
  unfold formS at h
  cases h1 : headsS (l.length + 1) l ⟨[], [], []⟩ with
  | error e => rw [h1] at h; cases h
  | ok p =>
    obtain ⟨l1, x1⟩ := p
    rw [h1] at h
    dsimp only at h
    have hi := heads_in _ h1 ht
    cases h2 : ruleS l1 with
    | error e => rw [h2] at h; cases h
    | ok p =>
      obtain ⟨l2, r1⟩ := p
      rw [h2] at h
      dsimp only at h
      have r1i := (rule_in h2 hi.t).up hi.mem hi.le
      obtain ⟨t1, t2, t3⟩ := rule_rest h2 hi.t
      cases h3 : rulesS (l.length + 1) l2 [r1] with
      | error e => rw [h3] at h; cases h
      | ok rs2 =>
        rw [h3] at h
        injection h with h
        injection h with h h'
        subst h h'
        obtain ⟨k1, k2⟩ := rules_in _ h3 t1
        have hl := hi.len
        have hle := hi.le
        refine ⟨by simp only [List.length_nil] at hl; omega, fun z hz => (hi.dec z hz).elim (fun h => by cases h) id, fun z hz => (hi.sta z hz).elim (fun h => by cases h) id, hi.par rfl, by simp only [List.length_cons, List.length_nil] at k1; omega, fun r hr => ?_⟩
        rcases k2 r hr with h | h
        · obtain rfl := List.mem_singleton.1 h
          exact r1i
        · exact h.up (fun t ht => hi.mem t (t3 t ht)) (by omega)
end Go.Proofs.YtliofoikejdjeaaGreat
/- A shown grammar's tokens, read: their form (plain). -/
namespace Go.Proofs.YtliofoikejdjeaaGreat
open Go.RowKit Go.Proofs.YtliofoikejdjeaaGreatW.PrintWords
set_option linter.unusedVariables false
set_option linter.unusedSimpArgs false
def ks (x : ByteArray) : Int × ByteArray := (kindS x, x)
theorem sig_cons {l : List Tk} {k : Int} {x : ByteArray} {r : List (Int × ByteArray)} (h : l.map sig = (k, x) :: r) : ∃ t l', l = t :: l' ∧ t.k = k ∧ t.s = x ∧ l'.map sig = r := by
  cases l with
  | nil => cases h
  | cons t l' =>
    rw [List.map_cons] at h
    injection h with h1 h2
    injection h1 with h3 h4
    exact ⟨t, l', rfl, h3, h4, h2⟩
theorem kind_sym (x : ByteArray) : kindS x = 1 ∨ kindS x = 2 := by
  unfold kindS
  split
  · exact .inr rfl
  · exact .inl rfl
/-- Tokens of names, ahead of something that is none. -/
theorem sig_names {l : List Tk} {ns : List ByteArray} {r : List (Int × ByteArray)} (h : l.map sig = ns.map ks ++ r) : ∃ lt l', l = lt ++ l' ∧ lt.map sig = ns.map ks ∧ l'.map sig = r ∧ ∀ t ∈ lt, symB t = true := by
  obtain ⟨lt, l', rfl, h1, h2⟩ := List.map_eq_append_iff.1 h
  refine ⟨lt, l', rfl, h1, h2, fun t ht => ?_⟩
  have hm : sig t ∈ ns.map ks := by rw [← h1]; exact List.mem_map_of_mem ht
  obtain ⟨x, _, hx⟩ := List.mem_map.1 hm
  have hk : t.k = kindS x := by have := congrArg Prod.fst hx; exact this.symm
  unfold symB
  rcases kind_sym x with h | h <;> rw [hk, h] <;> rfl
theorem names_while {lt l' : List Tk} (h : ∀ t ∈ lt, symB t = true) (h2 : symB (hd l') = false) : (lt ++ l').takeWhile symB = lt ∧ (lt ++ l').dropWhile symB = l' := by
  have h3 : l'.takeWhile symB = [] ∧ l'.dropWhile symB = l' := by
    cases l' with
    | nil => exact ⟨rfl, rfl⟩
    | cons t r =>
      have : symB t = false := h2
      exact ⟨by rw [List.takeWhile_cons, this]; rfl, by rw [List.dropWhile_cons, this]; rfl⟩
  exact ⟨by rw [List.takeWhile_append_of_pos h, h3.1, List.append_nil], by rw [List.dropWhile_append_of_pos h, h3.2]⟩
/-- What follows a sign behind which a rule may begin. -/
def toksNew (g : Gm) : Nat → Nat → List (Int × ByteArray)
  | 0, _ => [(0, ⟨#[]⟩)]
  | m + 1, k => (1, g.nameOf (g.leftOf k)) :: (3, ⟨#[58]⟩) :: ((g.rns k).map ks ++ toksOf g m (k + 1))
theorem toksOf_same {g : Gm} {m k : Nat} (h : g.sameL k = true) : toksOf g (m + 1) k = (4, ⟨#[124]⟩) :: ((g.rns k).map ks ++ toksOf g m (k + 1)) := by
  rw [toksOf, if_pos h]
  rfl
theorem toksOf_new {g : Gm} {m k : Nat} (h : g.sameL k = false) (hk : 0 < k) : toksOf g (m + 1) k = (5, ⟨#[59]⟩) :: toksNew g (m + 1) k := by
  rw [toksOf, if_neg (by rw [h]; decide), if_pos hk]
  rfl
theorem toksOf_first {g : Gm} {m : Nat} : toksOf g (m + 1) 0 = toksNew g (m + 1) 0 := by
  rw [toksOf, if_neg (by unfold Gm.sameL; simp), if_neg (Nat.lt_irrefl 0)]
  rfl
theorem toksOf_hd {g : Gm} {m k : Nat} (hk : 0 < k) {l : List Tk} (h : l.map sig = toksOf g m k) : symB (hd l) = false := by
  cases m with
  | zero =>
    obtain ⟨t, l', rfl, ht, _⟩ := sig_cons (k := 5) h
    unfold symB
    rw [show (hd (t :: l')).k = 5 from ht]
    rfl
  | succ m =>
    by_cases hs : g.sameL k = true
    · rw [toksOf_same hs] at h
      obtain ⟨t, l', rfl, ht, _⟩ := sig_cons h
      unfold symB
      rw [show (hd (t :: l')).k = 4 from ht]
      rfl
    · rw [toksOf_new (by simpa using hs) hk] at h
      obtain ⟨t, l', rfl, ht, _⟩ := sig_cons h
      unfold symB
      rw [show (hd (t :: l')).k = 5 from ht]
      rfl
def sdS (s : Sd) : List (Int × ByteArray) := s.l.map sig
/-- The right sides of one left side, from a sign on. -/
theorem read_sides {g : Gm} : ∀ (m k : Nat) {l : List Tk} {acc : List Sd} {f : Nat}, 0 < k → l.map sig = toksOf g m k → l.length ≤ f →
    ∃ l2 sd j, contS f l acc = .ok (l2, acc ++ sd) ∧ j ≤ m ∧ l2.map sig = toksNew g (m - j) (k + j) ∧ sd.map sdS = (List.range j).map (fun i => (g.rns (k + i)).map ks) ∧ ∀ i, i < j → g.leftOf (k + i) = g.leftOf (k - 1) := by
  intro m
  induction m with
  | zero =>
    intro k l acc f hk h hf
    obtain ⟨t, l', rfl, ht, _, h'⟩ := sig_cons (k := 5) h
    refine ⟨l', [], 0, ?_, Nat.le_refl _, h', rfl, fun i hi => absurd hi (Nat.not_lt_zero _)⟩
    unfold contS
    rw [show (hd (t :: l')).k = 5 from ht, List.append_nil]
    rfl
  | succ m ih =>
    intro k l acc f hk h hf
    by_cases hs : g.sameL k = true
    · rw [toksOf_same hs] at h
      obtain ⟨t, l1, rfl, ht, _, h1⟩ := sig_cons h
      obtain ⟨lt, l', rfl, e1, e2, hsym⟩ := sig_names h1
      obtain ⟨w1, w2⟩ := names_while hsym (toksOf_hd (Nat.succ_pos k) e2)
      simp only [List.length_cons, List.length_append] at hf
      obtain ⟨f, rfl⟩ : ∃ q, f = q + 1 := ⟨f - 1, by omega⟩
      obtain ⟨l2, sd, j, r1, r2, r3, r4, r5⟩ := ih (k + 1) (acc := acc ++ [sideS (lt ++ l')]) (f := f) (Nat.succ_pos k) e2 (by omega)
      have hsl : g.leftOf (k - 1) = g.leftOf k := by
        unfold Gm.sameL at hs
        exact (of_decide_eq_true hs).2
      refine ⟨l2, sideS (lt ++ l') :: sd, j + 1, ?_, by omega, ?_, ?_, fun i hi => ?_⟩
      · unfold contS
        rw [if_pos (show (hd (t :: (lt ++ l'))).k = 4 from ht), List.tail_cons, sides_cont, w2, r1, List.append_assoc]
        rfl
      · rw [r3]
        congr 1 <;> omega
      · rw [List.map_cons, r4, List.range_succ_eq_map, List.map_cons, List.map_map]
        have e : sdS (sideS (lt ++ l')) = (g.rns (k + 0)).map ks := by
          unfold sdS sideS
          rw [w1, e1]
          rfl
        rw [e]
        congr 1
        apply List.map_congr_left
        intro i _
        show _ = (g.rns (k + (i + 1))).map ks
        rw [show k + 1 + i = k + (i + 1) from by omega]
      · cases i with
        | zero => rw [Nat.add_zero]; exact hsl.symm
        | succ i =>
          have := r5 i (by omega)
          rw [show k + 1 + i = k + (i + 1) from by omega, show k + 1 - 1 = k from by omega] at this
          rw [this, hsl]
    · rw [toksOf_new (by simpa using hs) hk] at h
      obtain ⟨t, l1, rfl, ht, _, h1⟩ := sig_cons h
      refine ⟨l1, [], 0, ?_, Nat.zero_le _, h1, rfl, fun i hi => absurd hi (Nat.not_lt_zero _)⟩
      unfold contS
      rw [show (hd (t :: l1)).k = 5 from ht, List.append_nil]
      rfl
/-- A rule of several right sides. -/
theorem read_rule {g : Gm} {m k : Nat} {l : List Tk} (h : l.map sig = toksNew g (m + 1) k) :
    ∃ l2 r j, ruleS l = .ok (l2, r) ∧ j ≤ m ∧ l2.map sig = toksNew g (m - j) (k + 1 + j) ∧ r.left.s = g.nameOf (g.leftOf k) ∧ r.sides.map sdS = (List.range (j + 1)).map (fun i => (g.rns (k + i)).map ks) ∧ ∀ i, i < j + 1 → g.leftOf (k + i) = g.leftOf k := by
  obtain ⟨t, l1, rfl, ht, hts, h1⟩ := sig_cons h
  obtain ⟨t3, l3, rfl, ht3, _, h3⟩ := sig_cons h1
  obtain ⟨lt, l', rfl, e1, e2, hsym⟩ := sig_names h3
  obtain ⟨w1, w2⟩ := names_while hsym (toksOf_hd (Nat.succ_pos k) e2)
  obtain ⟨l2, sd, j, r1, r2, r3, r4, r5⟩ := read_sides m (k + 1) (acc := [sideS (lt ++ l')]) (f := (t :: t3 :: (lt ++ l')).length) (Nat.succ_pos k) e2 (by simp only [List.length_cons, List.length_append]; omega)
  refine ⟨l2, ⟨t, sideS (lt ++ l') :: sd⟩, j, ?_, r2, r3, hts, ?_, fun i hi => ?_⟩
  · rw [ruleS_eq ht ht3, sides_cont, w2, List.nil_append, r1]
    rfl
  · show sdS _ :: sd.map sdS = _
    rw [r4, List.range_succ_eq_map, List.map_cons, List.map_map]
    have e : sdS (sideS (lt ++ l')) = (g.rns (k + 0)).map ks := by
      unfold sdS sideS
      rw [w1, e1]
      rfl
    rw [e]
    congr 1
    apply List.map_congr_left
    intro i _
    show _ = (g.rns (k + (i + 1))).map ks
    rw [show k + 1 + i = k + (i + 1) from by omega]
  · cases i with
    | zero => rfl
    | succ i =>
      have := r5 i (by omega)
      rw [show k + 1 + i = k + (i + 1) from by omega, show k + 1 - 1 = k from by omega] at this
      exact this
/-- Rules, one right side each. -/
def flatR (rs : List Ru) : List (ByteArray × List (Int × ByteArray)) := rs.flatMap fun r => r.sides.map fun s => (r.left.s, sdS s)
def rowG (g : Gm) (k : Nat) : ByteArray × List (Int × ByteArray) := (g.nameOf (g.leftOf k), (g.rns k).map ks)
theorem flat_rule {g : Gm} {r : Ru} {k j : Nat} (h1 : r.left.s = g.nameOf (g.leftOf k)) (h2 : r.sides.map sdS = (List.range j).map (fun i => (g.rns (k + i)).map ks)) (h3 : ∀ i, i < j → g.leftOf (k + i) = g.leftOf k) : flatR [r] = (List.range j).map (fun i => rowG g (k + i)) := by
  unfold flatR
  rw [List.flatMap_cons, List.flatMap_nil, List.append_nil]
  have e : r.sides.map (fun s => (r.left.s, sdS s)) = (r.sides.map sdS).map (fun y => (r.left.s, y)) := by rw [List.map_map]; rfl
  rw [e, h2, List.map_map]
  apply List.map_congr_left
  intro i hi
  show (r.left.s, _) = rowG g (k + i)
  unfold rowG
  rw [h1, h3 i (List.mem_range.1 hi)]
theorem flat_app (a b : List Ru) : flatR (a ++ b) = flatR a ++ flatR b := by unfold flatR; rw [List.flatMap_append]
theorem range_split (m j k : Nat) (g : Gm) (h : j ≤ m) : (List.range j).map (fun i => rowG g (k + i)) ++ (List.range (m - j)).map (fun i => rowG g (k + j + i)) = (List.range m).map (fun i => rowG g (k + i)) := by
  obtain ⟨b, rfl⟩ : ∃ b, m = j + b := ⟨m - j, by omega⟩
  rw [show j + b - j = b from by omega, List.range_add, List.map_append, List.map_map]
  congr 1
  apply List.map_congr_left
  intro i _
  show rowG g (k + j + i) = rowG g (k + (j + i))
  rw [Nat.add_assoc]
theorem sides_full {sd : List Sd} {j : Nat} {f : Nat → List (Int × ByteArray)} (h : sd.map sdS = (List.range (j + 1)).map f) : sd ≠ [] := by
  intro e
  rw [e] at h
  have := congrArg List.length h
  simp at this
theorem read_rules {g : Gm} : ∀ (f m k : Nat) {l : List Tk} {acc : List Ru}, l.map sig = toksNew g m k → l.length ≤ f → TEnd l →
    ∃ rs, rulesS f l acc = .ok (acc ++ rs) ∧ flatR rs = (List.range m).map (fun i => rowG g (k + i)) ∧ ∀ r ∈ rs, r.sides ≠ [] := by
  intro f
  induction f with
  | zero =>
    intro m k l acc h hf ht
    obtain ⟨l0, t, rfl, _⟩ := ht
    simp at hf
  | succ f ih =>
    intro m k l acc h hf ht
    cases m with
    | zero =>
      obtain ⟨t, l1, rfl, hk, _, _⟩ := sig_cons (k := 0) h
      refine ⟨[], ?_, rfl, fun r hr => by cases hr⟩
      rw [rulesS, if_pos (show (hd (t :: l1)).k = 0 from hk), List.append_nil]
    | succ m =>
      obtain ⟨l2, r, j, r1, r2, r3, r4, r5, r6⟩ := read_rule h
      obtain ⟨t1, t2, t3⟩ := rule_rest r1 ht
      obtain ⟨rs, e1, e2, e3⟩ := ih (m - j) (k + 1 + j) (acc := acc ++ [r]) r3 (by omega) t1
      have hk : (hd l).k ≠ 0 := by
        obtain ⟨t, l1, rfl, hk, _, _⟩ := sig_cons h
        rw [show (hd (t :: l1)).k = 1 from hk]
        decide
      refine ⟨r :: rs, ?_, ?_, fun r' hr' => ?_⟩
      · rw [rulesS, if_neg hk, r1]
        show rulesS f l2 (acc ++ [r]) = _
        rw [e1, List.append_assoc]
        rfl
      · rw [show r :: rs = [r] ++ rs from rfl, flat_app, flat_rule r4 r5 r6, e2]
        have := range_split (m + 1) (j + 1) k g (by omega)
        rw [show m + 1 - (j + 1) = m - j from by omega, show k + (j + 1) = k + 1 + j from by omega] at this
        exact this
      · rcases List.mem_cons.1 hr' with rfl | h'
        · exact sides_full r5
        · exact e3 r' h'
theorem toks_end_of {s : ByteArray} {l : List Tk} (h : Toks s 0 l) : TEnd l := by
  have := toks_fine (s := s) (s.size + 1) 0 (by omega) (Nat.zero_le _) (by rw [h _ (by omega)])
  rw [h _ (by omega)] at this
  exact this.1
structure Formed (g : Gm) (x : Hd) (rs : List Ru) : Prop where
  dec : x.declared.map sig = g.terms.map ks
  sta : x.starts.map (·.s) = [g.nameOf g.start]
  marks : x.marks.length = 1
  flat : flatR rs = (List.range g.rules.length).map (rowG g)
  full : ∀ r ∈ rs, r.sides ≠ []
theorem show_form {g : Gm} {l : List Tk} (h : l.map sig = showT g) (ht : TEnd l) (hr : 0 < g.rules.length) : ∃ x rs, formS l = .ok (x, rs) ∧ Formed g x rs := by
  obtain ⟨m, hm⟩ : ∃ m, g.rules.length = m + 1 := ⟨g.rules.length - 1, by omega⟩
  -- behind the declarations
  have tail : ∀ (f : Nat) (l : List Tk) (x : Hd), l.map sig = [(8, ⟨#[37, 115, 116, 97, 114, 116]⟩), (1, g.nameOf g.start), (6, ⟨#[37, 37]⟩)] ++ toksOf g g.rules.length 0 → 2 ≤ f → x.starts = [] → x.marks = [] →
      ∃ l' t p, headsS f l x = .ok (l', { x with marks := [p], starts := [t] }) ∧ t.s = g.nameOf g.start ∧ l'.map sig = toksNew g (m + 1) 0 ∧ l'.length ≤ l.length ∧ (TEnd l → TEnd l') := by
    intro f l x h hf hs1 hs2
    obtain ⟨t8, l1, rfl, k8, _, h1⟩ := sig_cons h
    obtain ⟨t1, l2, rfl, k1, n1, h2⟩ := sig_cons h1
    obtain ⟨t6, l3, rfl, k6, _, h3⟩ := sig_cons h2
    obtain ⟨f, rfl⟩ : ∃ q, f = q + 2 := ⟨f - 2, by omega⟩
    refine ⟨l3, t1, t8.at_, ?_, n1, by rw [← toksOf_first, ← hm]; exact h3, by simp only [List.length_cons]; omega, fun ht => ?_⟩
    · rw [heads_step _ _ _ (by rw [show (hd (t8 :: t1 :: t6 :: l3)).k = 8 from k8]; decide)]
      unfold headS
      rw [if_neg (by rw [show (hd (t8 :: t1 :: t6 :: l3)).k = 8 from k8]; decide), if_pos (show (hd (t8 :: t1 :: t6 :: l3)).k = 8 from k8), if_pos (show (hd (t8 :: t1 :: t6 :: l3).tail).k = 1 from k1)]
      show headsS (f + 1) (t6 :: l3) _ = _
      rw [headsS, if_pos (show (hd (t6 :: l3)).k = 6 from k6), hs1, hs2]
      rfl
    · obtain ⟨x8, r8, e8, _, q8⟩ := ht.hd (by rw [show (hd (t8 :: t1 :: t6 :: l3)).k = 8 from k8]; decide)
      injection e8 with _ e8
      subst e8
      obtain ⟨x1, r1, e1, _, q1⟩ := q8.hd (by rw [show (hd (t1 :: t6 :: l3)).k = 1 from k1]; decide)
      injection e1 with _ e1
      subst e1
      obtain ⟨x6, r6, e6, _, q6⟩ := q1.hd (by rw [show (hd (t6 :: l3)).k = 6 from k6]; decide)
      injection e6 with _ e6
      subst e6
      exact q6
  have heads : ∃ l' x, headsS (l.length + 1) l ⟨[], [], []⟩ = .ok (l', x) ∧ x.declared.map sig = g.terms.map ks ∧ x.starts.map (·.s) = [g.nameOf g.start] ∧ x.marks.length = 1 ∧ l'.map sig = toksNew g (m + 1) 0 ∧ l'.length ≤ l.length ∧ TEnd l' := by
    unfold showT at h
    by_cases h0 : g.terms.length = 0
    · rw [if_pos h0, List.nil_append] at h
      have hlen : 2 ≤ l.length + 1 := by
        obtain ⟨t8, l1, rfl, _⟩ := sig_cons h
        simp only [List.length_cons]
        omega
      obtain ⟨l', t, p, e1, e2, e3, e4, e5⟩ := tail (l.length + 1) l ⟨[], [], []⟩ h hlen rfl rfl
      refine ⟨l', _, e1, ?_, by simp [e2], rfl, e3, e4, e5 ht⟩
      rw [List.eq_nil_of_length_eq_zero h0]
      rfl
    · rw [if_neg h0] at h
      obtain ⟨t7, l1, rfl, k7, _, h1⟩ := sig_cons h
      obtain ⟨lt, l2, rfl, e1, e2, hsym⟩ := sig_names (ns := g.terms) h1
      have hnb : symB (hd l2) = false := by
        obtain ⟨t8, r8, rfl, k8, _⟩ := sig_cons e2
        unfold symB
        rw [show (hd (t8 :: r8)).k = 8 from k8]
        rfl
      obtain ⟨w1, w2⟩ := names_while hsym hnb
      have hl1 : lt ≠ [] := by
        intro e
        rw [e] at e1
        have := congrArg List.length e1
        simp at this
        omega
      have hq : symB (hd (lt ++ l2)) = true := by
        cases lt with
        | nil => exact absurd rfl hl1
        | cons t r => exact hsym t (List.mem_cons_self ..)
      have hlen : 2 ≤ (t7 :: (lt ++ l2)).length := by
        cases lt with
        | nil => exact absurd rfl hl1
        | cons t r => simp only [List.length_cons, List.length_append]; omega
      obtain ⟨x7, r7, e7, _, q7⟩ := ht.hd (by rw [show (hd (t7 :: (lt ++ l2))).k = 7 from k7]; decide)
      injection e7 with _ e7
      subst e7
      have q2 := q7.drop
      rw [w2] at q2
      obtain ⟨l', t, p, r1, r2, r3, r4, r5⟩ := tail (t7 :: (lt ++ l2)).length l2 ⟨lt, [], []⟩ e2 hlen rfl rfl
      refine ⟨l', ⟨lt, [p], [t]⟩, ?_, e1, by simp [r2], rfl, r3, by simp only [List.length_cons, List.length_append]; omega, r5 q2⟩
      rw [heads_step _ _ _ (by rw [show (hd (t7 :: (lt ++ l2))).k = 7 from k7]; decide)]
      unfold headS
      rw [if_pos (show (hd (t7 :: (lt ++ l2))).k = 7 from k7), if_pos (show symB (hd (t7 :: (lt ++ l2)).tail) = true from hq)]
      show headsS _ ((lt ++ l2).dropWhile symB) ⟨[] ++ (lt ++ l2).takeWhile symB, [], []⟩ = _
      rw [w1, w2]
      exact r1
  obtain ⟨l', x, e1, e2, e3, e4, e5, e6, e7⟩ := heads
  obtain ⟨l2, r, j, r1, r2, r3, r4, r5, r6⟩ := read_rule e5
  obtain ⟨t1, t2, t3⟩ := rule_rest r1 e7
  obtain ⟨rs, q1, q2, q3⟩ := read_rules (l.length + 1) (m - j) (0 + 1 + j) (acc := [r]) r3 (by omega) t1
  refine ⟨x, r :: rs, ?_, e2, e3, e4, ?_, fun r' hr' => (List.mem_cons.1 hr').elim (fun e => e ▸ sides_full r5) (q3 r')⟩
  · unfold formS
    rw [e1]
    dsimp only
    rw [r1]
    dsimp only
    rw [q1]
    rfl
  · rw [show r :: rs = [r] ++ rs from rfl, flat_app, flat_rule r4 r5 r6, q2, hm]
    have := range_split (m + 1) (j + 1) 0 g (by omega)
    rw [show m + 1 - (j + 1) = m - j from by omega, show 0 + (j + 1) = 0 + 1 + j from by omega] at this
    rw [this]
    apply List.map_congr_left
    intro i _
    rw [Nat.zero_add]
end Go.Proofs.YtliofoikejdjeaaGreat
/- A shown grammar's form, built: the grammar (plain). -/
namespace Go.Proofs.YtliofoikejdjeaaGreat
open Go.RowKit Go.Proofs.YtliofoikejdjeaaGreatW.PrintWords
set_option linter.unusedVariables false
set_option linter.unusedSimpArgs false
/-- What a grammar that may be is. -/
structure Gm.Fine (g : Gm) : Prop where
  t : g.terms.length ≤ 120
  n : g.nons.length ≤ 120
  r : g.rules.length ≤ 300
  short : ∀ k, k < g.rules.length → (g.rules.getD k default).right.length ≤ 8
  terms : ∀ x ∈ g.terms, termOk x = true
  nons : ∀ x ∈ g.nons, plainOk x = true
  names : g.names.Nodup
  start : (g.terms.length : Int) < g.start ∧ g.start ≤ g.top
  left : ∀ k, k < g.rules.length → (g.terms.length : Int) < g.leftOf k ∧ g.leftOf k ≤ g.top
  right : ∀ k, k < g.rules.length → ∀ s ∈ (g.rules.getD k default).right, 1 ≤ s ∧ s ≤ g.top
  unlike : ∀ i, i < g.rules.length → ∀ j, j < i → g.rules.getD j default ≠ g.rules.getD i default
  has : ∀ i, i < g.nons.length → ∃ k, k < g.rules.length ∧ g.leftOf k = (g.terms.length : Int) + 1 + (i : Int)
theorem ite_zero {b : Bool} {k x : Int} (hk : k ≠ 0) (h : (if b = true then k else x) = 0) : b = false ∧ x = 0 := by
  cases b with
  | true => rw [if_pos rfl] at h; exact absurd h hk
  | false => rw [if_neg (by decide)] at h; exact ⟨rfl, h⟩
theorem non_iff {g : Gm} {s : Int} : g.isNon s = true ↔ (g.terms.length : Int) < s ∧ s ≤ g.top := by
  unfold Gm.isNon
  rw [Bool.and_eq_true, decide_eq_true_eq, decide_eq_true_eq]
theorem sym_iff {g : Gm} {s : Int} : g.sym s = true ↔ 1 ≤ s ∧ s ≤ g.top := by
  unfold Gm.sym Gm.isTerm Gm.isNon Gm.top
  simp only [Bool.or_eq_true, Bool.and_eq_true, decide_eq_true_eq]
  omega
theorem fine_of {g : Gm} (h : g.check = 0) : g.Fine := by
  rw [check_ref] at h
  obtain ⟨h1, h⟩ := ite_zero (by decide) h
  obtain ⟨h2, h⟩ := ite_zero (by decide) h
  obtain ⟨h3, h⟩ := ite_zero (by decide) h
  obtain ⟨h4, h⟩ := ite_zero (by decide) h
  obtain ⟨h5, h⟩ := ite_zero (by decide) h
  obtain ⟨h6, _⟩ := ite_zero (by decide) h
  unfold manyB at h1
  simp only [Bool.or_eq_false_iff, Bool.not_eq_false', decide_eq_false_iff_not] at h1
  simp only [Bool.not_eq_false', Bool.and_eq_true, List.all_eq_true] at h2
  simp only [Bool.not_eq_false', decide_eq_true_eq] at h3
  unfold Gm.knownB at h4
  simp only [Bool.not_eq_false', Bool.and_eq_true, List.all_eq_true] at h4
  unfold unlikeR at h5
  simp only [Bool.not_eq_false', decide_eq_true_eq] at h5
  unfold Gm.lacks at h6
  rw [decide_eq_false_iff_not] at h6
  obtain ⟨a1, ⟨a2, a3⟩, a4⟩ := h1
  have hr : ∀ k, k < g.rules.length → g.knownR (g.rules.getD k default) = true := fun k hk => h4.2 _ (getD_mem hk)
  refine ⟨by omega, by omega, by omega, fun k hk => ?_, h2.1, h2.2, h3, non_iff.1 h4.1, fun k hk => ?_, fun k hk s hs => ?_, h5, fun i hi => ?_⟩
  · have := List.all_eq_true.1 a1 _ (getD_mem hk)
    exact of_decide_eq_true this
  · have := hr k hk
    unfold Gm.knownR at this
    rw [Bool.and_eq_true] at this
    exact non_iff.1 this.1
  · have := hr k hk
    unfold Gm.knownR at this
    rw [Bool.and_eq_true, List.all_eq_true] at this
    exact sym_iff.1 (this.2 s hs)
  · have hne : g.ofS ((g.terms.length : Int) + 1 + (i : Int)) ≠ [] := fun e => h6 ⟨i, hi, by simpa using e⟩
    obtain ⟨x, hx⟩ := List.exists_mem_of_ne_nil _ hne
    unfold Gm.ofS ofN at hx
    obtain ⟨k, hk, _⟩ := List.mem_map.1 hx
    obtain ⟨hk1, hk2⟩ := List.mem_filter.1 hk
    exact ⟨k, List.mem_range.1 hk1, of_decide_eq_true hk2⟩
section
variable {g : Gm}
theorem names_at (i : Nat) (hi : i < g.names.length) : g.nameOf ((i : Int) + 1) = g.names.getD i default := by
  have hl : g.names.length = g.terms.length + g.nons.length := by unfold Gm.names; rw [List.length_append]
  unfold Gm.nameOf Gm.top
  rw [if_neg (by omega), if_pos ⟨by omega, by omega⟩, show ((i : Int) + 1).toNat - 1 = i from by omega]
theorem sym_nat {s : Int} (h : 1 ≤ s ∧ s ≤ g.top) : ∃ i : Nat, i < g.names.length ∧ s = (i : Int) + 1 := by
  have hl : g.names.length = g.terms.length + g.nons.length := by unfold Gm.names; rw [List.length_append]
  unfold Gm.top at h
  exact ⟨s.toNat - 1, by omega, by omega⟩
theorem nodup_inj {xs : List ByteArray} (h : xs.Nodup) {i j : Nat} (hi : i < xs.length) (hj : j < xs.length) (e : xs.getD i default = xs.getD j default) : i = j := by
  have hp := List.pairwise_iff_getElem.1 h
  rw [List.getD_eq_getElem?_getD, List.getD_eq_getElem?_getD, List.getElem?_eq_getElem hi, List.getElem?_eq_getElem hj] at e
  have e' : xs[i] = xs[j] := e
  rcases Nat.lt_trichotomy i j with h1 | h1 | h1
  · exact absurd e' (hp i j hi hj h1)
  · exact h1
  · exact absurd e'.symm (hp j i hj hi h1)
theorem Gm.Fine.inj (h : g.Fine) {s t : Int} (hs : 1 ≤ s ∧ s ≤ g.top) (ht : 1 ≤ t ∧ t ≤ g.top) (e : g.nameOf s = g.nameOf t) : s = t := by
  obtain ⟨i, hi, rfl⟩ := sym_nat hs
  obtain ⟨j, hj, rfl⟩ := sym_nat ht
  rw [names_at i hi, names_at j hj] at e
  rw [nodup_inj h.names hi hj e]
theorem term_at (i : Nat) (hi : i < g.terms.length) : g.nameOf ((i : Int) + 1) = g.terms.getD i default := by
  rw [names_at i (by unfold Gm.names; rw [List.length_append]; omega)]
  unfold Gm.names
  rw [List.getD_eq_getElem?_getD, List.getD_eq_getElem?_getD, List.getElem?_append_left hi]
theorem non_at (i : Nat) (hi : i < g.nons.length) : g.nameOf ((g.terms.length : Int) + 1 + (i : Int)) = g.nons.getD i default := by
  rw [show (g.terms.length : Int) + 1 + (i : Int) = ((g.terms.length + i : Nat) : Int) + 1 from by omega, names_at (g.terms.length + i) (by unfold Gm.names; rw [List.length_append]; omega)]
  unfold Gm.names
  rw [List.getD_eq_getElem?_getD, List.getD_eq_getElem?_getD, List.getElem?_append_right (by omega), show g.terms.length + i - g.terms.length = i from by omega]
theorem Gm.Fine.termsNd (h : g.Fine) : g.terms.Nodup := by
  have := h.names
  unfold Gm.names at this
  exact (List.nodup_append.1 this).1
theorem Gm.Fine.nonsNd (h : g.Fine) : g.nons.Nodup := by
  have := h.names
  unfold Gm.names at this
  exact (List.nodup_append.1 this).2.1
theorem place_at {xs : List ByteArray} (h : xs.Nodup) {i : Nat} (hi : i < xs.length) : placeS xs (xs.getD i default) = i := by
  unfold placeS
  refine idxF_hit hi (decide_eq_true rfl) (fun j hj => decide_eq_false (fun e => ?_))
  have := nodup_inj h (by omega) hi e
  omega
theorem place_out {xs : List ByteArray} {s : ByteArray} (h : s ∉ xs) : placeS xs s = -1 := by
  unfold placeS
  exact idxF_miss (fun j hj => decide_eq_false (fun e => h (e ▸ getD_mem hj)))
theorem mem_getD {xs : List ByteArray} {s : ByteArray} (h : s ∈ xs) : ∃ i, i < xs.length ∧ xs.getD i default = s := by
  obtain ⟨i, hi, e⟩ := List.mem_iff_getElem.1 h
  exact ⟨i, hi, by rw [List.getD_eq_getElem?_getD, List.getElem?_eq_getElem hi]; exact e⟩
/-- A symbol's name is a terminal's just where the symbol is one. -/
theorem Gm.Fine.memT (h : g.Fine) {s : Int} (hs : 1 ≤ s ∧ s ≤ g.top) : g.nameOf s ∈ g.terms ↔ s ≤ g.terms.length := by
  constructor
  · intro hm
    obtain ⟨i, hi, e⟩ := mem_getD hm
    rw [← term_at i hi] at e
    have := h.inj (s := (i : Int) + 1) (t := s) (by unfold Gm.top; omega) hs e
    omega
  · intro hle
    obtain ⟨i, hi, rfl⟩ := sym_nat hs
    rw [term_at i (by omega)]
    exact getD_mem (by omega)
theorem Gm.Fine.memN (h : g.Fine) {i c : Nat} (hi : i < g.nons.length) (hc : c ≤ g.nons.length) : g.nameOf ((g.terms.length : Int) + 1 + (i : Int)) ∈ g.nons.take c ↔ i < c := by
  constructor
  · intro hm
    obtain ⟨j, hj, e⟩ := mem_getD hm
    rw [List.length_take] at hj
    rw [List.getD_eq_getElem?_getD, List.getElem?_take_of_lt (by omega), ← List.getD_eq_getElem?_getD, non_at i hi] at e
    have := nodup_inj h.nonsNd (by omega) hi e
    omega
  · intro hlt
    rw [non_at i hi]
    have : (g.nons.take c).getD i default = g.nons.getD i default := by
      rw [List.getD_eq_getElem?_getD, List.getElem?_take_of_lt hlt, ← List.getD_eq_getElem?_getD]
    rw [← this]
    exact getD_mem (by rw [List.length_take]; omega)
theorem Gm.Fine.findT (h : g.Fine) {s : Int} (hs : 1 ≤ s ∧ s ≤ g.top) : findB g.terms g.nons (g.nameOf s) = s := by
  unfold findB
  by_cases hle : s ≤ g.terms.length
  · have hm := (h.memT hs).2 hle
    rw [if_pos ((place_mem _ _).2 hm)]
    obtain ⟨i, hi, rfl⟩ := sym_nat hs
    rw [term_at i (by omega), place_at h.termsNd (by omega)]
  · have hm : g.nameOf s ∉ g.terms := fun e => hle ((h.memT hs).1 e)
    rw [if_neg (by rw [place_out hm]; decide)]
    obtain ⟨i, hi, rfl⟩ : ∃ i : Nat, i < g.nons.length ∧ s = (g.terms.length : Int) + 1 + (i : Int) := by
      have := hs.2
      unfold Gm.top at this
      exact ⟨(s - g.terms.length - 1).toNat, by omega, by omega⟩
    rw [non_at i hi, place_at h.nonsNd hi, if_pos (by omega)]
    omega
end
end Go.Proofs.YtliofoikejdjeaaGreat
/- A shown grammar's form, built: the grammar (plain), continued. -/
namespace Go.Proofs.YtliofoikejdjeaaGreat
open Go.RowKit Go.Proofs.YtliofoikejdjeaaGreatW.PrintWords
set_option linter.unusedVariables false
set_option linter.unusedSimpArgs false
section
variable {g : Gm}
/-- The first rule of a nonterminal. -/
theorem Gm.Fine.first (h : g.Fine) {i : Nat} (hi : i < g.nons.length) : ∃ f : Nat, f < g.rules.length ∧ g.leftOf f = (g.terms.length : Int) + 1 + (i : Int) ∧ (∀ j, j < f → g.leftOf j ≠ (g.terms.length : Int) + 1 + (i : Int)) ∧ g.fAt i = f := by
  obtain ⟨k, hk, hl⟩ := h.has i hi
  unfold Gm.fAt Gm.firstAt idxF
  cases e : g.rules.findIdx? (fun r : Rl => decide (r.left = (g.terms.length : Int) + 1 + (i : Int))) with
  | none =>
    rw [List.findIdx?_eq_none_iff] at e
    have := e _ (getD_mem hk)
    rw [decide_eq_false_iff_not] at this
    exact absurd hl this
  | some f =>
    obtain ⟨h1, h2, h3⟩ := List.findIdx?_eq_some_iff_getElem.1 e
    refine ⟨f, h1, ?_, fun j hj => ?_, ?_⟩
    · unfold Gm.leftOf
      rw [List.getD_eq_getElem?_getD, List.getElem?_eq_getElem h1]
      exact of_decide_eq_true h2
    · unfold Gm.leftOf
      rw [List.getD_eq_getElem?_getD, List.getElem?_eq_getElem (by omega)]
      have := h3 j hj
      simpa using this
    · dsimp only
      rw [if_neg (by omega)]
theorem sorted_le (h : g.ordered = true) {i j : Nat} (hij : i ≤ j) (hj : j < g.nons.length) : g.fAt i ≤ g.fAt j := by
  induction j with
  | zero => obtain rfl : i = 0 := by omega
            exact Int.le_refl _
  | succ j ih =>
    by_cases e : i = j + 1
    · subst e
      exact Int.le_refl _
    · exact Int.le_trans (ih (by omega) (by omega)) ((ordered_iff g).1 h j hj)
/-- The nonterminals of the first rules are the first nonterminals. -/
def Cn (g : Gm) (k c : Nat) : Prop := c ≤ g.nons.length ∧ ∀ i, i < g.nons.length → (i < c ↔ ∃ j, j < k ∧ g.leftOf j = (g.terms.length : Int) + 1 + (i : Int))
theorem Cn.zero : Cn g 0 0 := ⟨Nat.zero_le _, fun i _ => ⟨fun h => absurd h (Nat.not_lt_zero _), fun ⟨j, hj, _⟩ => absurd hj (Nat.not_lt_zero _)⟩⟩
theorem Cn.old {k c i : Nat} (h : Cn g k c) (hl : g.leftOf k = (g.terms.length : Int) + 1 + (i : Int)) (hi : i < c) : Cn g (k + 1) c := by
  refine ⟨h.1, fun i' hi' => ⟨fun hc => ?_, fun ⟨j, hj, e⟩ => ?_⟩⟩
  · obtain ⟨j, hj, e⟩ := (h.2 i' hi').1 hc
    exact ⟨j, by omega, e⟩
  · by_cases hjk : j < k
    · exact (h.2 i' hi').2 ⟨j, hjk, e⟩
    · obtain rfl : j = k := by omega
      rw [hl] at e
      omega
theorem Cn.new {k c i : Nat} (hf : g.Fine) (ho : g.ordered = true) (h : Cn g k c) (hk : k < g.rules.length) (hl : g.leftOf k = (g.terms.length : Int) + 1 + (i : Int)) (hi : i < g.nons.length) (hic : ¬ i < c) : i = c ∧ Cn g (k + 1) (c + 1) := by
  have he : i = c := by
    rcases Nat.lt_or_ge c i with hlt | hge
    · obtain ⟨f1, a1, a2, a3, a4⟩ := hf.first (i := c) (by omega)
      obtain ⟨f2, b1, b2, b3, b4⟩ := hf.first (i := i) hi
      have hm := sorted_le ho (i := c) (j := i) (by omega) hi
      rw [a4, b4] at hm
      have c1 : k ≤ f1 := by
        rcases Nat.lt_or_ge f1 k with hx | hx
        · exact absurd ((h.2 c (by omega)).2 ⟨f1, hx, a2⟩) (Nat.lt_irrefl _)
        · exact hx
      have c2 : f2 ≤ k := by
        rcases Nat.lt_or_ge k f2 with hx | hx
        · exact absurd hl (b3 k hx)
        · exact hx
      obtain rfl : f1 = k := by omega
      rw [hl] at a2
      omega
    · omega
  subst he
  refine ⟨rfl, by omega, fun i' hi' => ⟨fun hc => ?_, fun ⟨j, hj, e⟩ => ?_⟩⟩
  · by_cases hx : i' < i
    · obtain ⟨j, hj, e⟩ := (h.2 i' hi').1 hx
      exact ⟨j, by omega, e⟩
    · obtain rfl : i' = i := by omega
      exact ⟨k, by omega, hl⟩
  · by_cases hjk : j < k
    · have := (h.2 i' hi').2 ⟨j, hjk, e⟩
      omega
    · obtain rfl : j = k := by omega
      rw [hl] at e
      omega
theorem Cn.full (hf : g.Fine) {c : Nat} (h : Cn g g.rules.length c) : c = g.nons.length := by
  rcases Nat.lt_or_ge c g.nons.length with hlt | hge
  · obtain ⟨k, hk, e⟩ := hf.has c hlt
    exact absurd ((h.2 c hlt).2 ⟨k, hk, e⟩) (Nat.lt_irrefl _)
  · exact Nat.le_antisymm h.1 hge
theorem left_nat (hf : g.Fine) {k : Nat} (hk : k < g.rules.length) : ∃ i : Nat, i < g.nons.length ∧ g.leftOf k = (g.terms.length : Int) + 1 + (i : Int) := by
  obtain ⟨h1, h2⟩ := hf.left k hk
  unfold Gm.top at h2
  exact ⟨(g.leftOf k - g.terms.length - 1).toNat, by omega, by omega⟩
theorem left_sym (hf : g.Fine) {k : Nat} (hk : k < g.rules.length) : 1 ≤ g.leftOf k ∧ g.leftOf k ≤ g.top := by
  obtain ⟨h1, h2⟩ := hf.left k hk
  exact ⟨by omega, h2⟩
/-- A row by names. -/
def rowN (g : Gm) (k : Nat) : List ByteArray := g.nameOf (g.leftOf k) :: g.rns k
def rowsN (g : Gm) (k : Nat) : List (List ByteArray) := (List.range k).map (rowN g)
theorem rowsN_succ (k : Nat) : rowsN g (k + 1) = rowsN g k ++ [rowN g k] := by unfold rowsN; rw [List.range_succ, List.map_append]; rfl
theorem map_name_inj (hf : g.Fine) : ∀ (a b : List Int), (∀ s ∈ a, 1 ≤ s ∧ s ≤ g.top) → (∀ s ∈ b, 1 ≤ s ∧ s ≤ g.top) → a.map g.nameOf = b.map g.nameOf → a = b
  | [], [], _, _, _ => rfl
  | [], _ :: _, _, _, h => by cases h
  | _ :: _, [], _, _, h => by cases h
  | x :: a, y :: b, ha, hb, h => by
    rw [List.map_cons, List.map_cons] at h
    injection h with h1 h2
    rw [hf.inj (ha x (List.mem_cons_self ..)) (hb y (List.mem_cons_self ..)) h1, map_name_inj hf a b (fun s hs => ha s (List.mem_cons_of_mem _ hs)) (fun s hs => hb s (List.mem_cons_of_mem _ hs)) h2]
theorem row_ne (hf : g.Fine) {j k : Nat} (hk : k < g.rules.length) (hj : j < k) : rowN g k ≠ rowN g j := by
  intro e
  unfold rowN at e
  injection e with e1 e2
  have h1 := hf.inj (left_sym hf hk) (left_sym hf (by omega)) e1
  have h2 := map_name_inj hf _ _ (hf.right k hk) (hf.right j (by omega)) e2
  refine hf.unlike k hk j hj ?_
  unfold Gm.leftOf at h1
  cases e3 : g.rules.getD k default with
  | mk l r =>
    cases e4 : g.rules.getD j default with
    | mk l' r' =>
      rw [e3, e4] at h1 h2
      have h1' : l = l' := h1
      have h2' : r = r' := h2
      rw [h1', h2']
/-- A symbol of a right side passes. -/
structure SymOk (g : Gm) (rs : List Ru) (t : Tk) : Prop where
  ex : t.s ∈ g.terms ∨ (t.k ≠ 2 ∧ leftsN rs t.s ≠ 0)
theorem symbols_ok {rs : List Ru} : ∀ (l : List Tk) (k : Nat), k + l.length ≤ 8 → (∀ t ∈ l, SymOk g rs t) → symbolsB rs l k g.terms = .ok g.terms
  | [], _, _, _ => rfl
  | t :: l, k, hk, h => by
    simp only [List.length_cons] at hk
    have ht : symbolB rs t k g.terms = .ok g.terms := by
      unfold symbolB
      rw [if_neg (by omega)]
      by_cases hm : t.s ∈ g.terms
      · rw [if_pos ((place_mem _ _).2 hm)]
      · rw [if_neg (by rw [place_out hm]; decide)]
        rcases (h t (List.mem_cons_self ..)).ex with hx | ⟨hx, hy⟩
        · exact absurd hx hm
        · rw [if_neg hx, if_neg hy]
    rw [symbolsB, ht]
    exact symbols_ok l (k + 1) (by omega) (fun t' ht' => h t' (List.mem_cons_of_mem _ ht'))
end
end Go.Proofs.YtliofoikejdjeaaGreat
