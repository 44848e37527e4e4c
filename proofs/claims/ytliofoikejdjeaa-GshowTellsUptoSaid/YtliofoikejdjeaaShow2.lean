/- right sides, rules: the program's and the document's. -/
import Derived.Test.YtliofoikejdjeaaShow1
namespace Go.Proofs.Ytliofoikejdjeaa
open Go.RowKit Go.Proofs.YtliofoikejdjeaaW.PrintWords
set_option linter.unusedVariables false
set_option linter.unusedSimpArgs false
def Gm.rightB (g : Gm) (r : Rl) : ByteArray := blanksB (r.right.map g.nameOf)
def Gm.ruleB (g : Gm) (r : Rl) : ByteArray := g.nameOf r.left ++ ⟨#[32, 58]⟩ ++ g.rightB r
theorem rnames_le {g : Gm} (hns : ∀ s, (g.nameOf s).size ≤ 2000000) (xs : List Int) : szs (xs.map g.nameOf) ≤ xs.length * 2000001 := by
  have := szs_le (l := xs.map g.nameOf) (m := 2000000) (fun x hx => by obtain ⟨s, _, rfl⟩ := List.mem_map.1 hx; exact hns s)
  rwa [List.length_map] at this
theorem map_getD {g : Gm} {xs : List Int} {k : Nat} (hk : k < xs.length) : (xs.map g.nameOf).getD k default = g.nameOf (xs.getD k default) := by
  rw [List.getD_eq_getElem?_getD, List.getD_eq_getElem?_getD, List.getElem?_map, List.getElem?_eq_getElem hk]
  rfl
section
variable {w : World} {A0 A1 A2 A : Option Addr} {c0 c1 c2 c : Nat} {g : Gm} {r : Rl}
set_option maxHeartbeats 2000000 in
theorem gshow_right (h : GmAt w A0 A1 A2 c0 c1 c2 g) (hr : Kd.C (Kd.int .i64) w A r.right.length r.right) (hm : r.right.length ≤ 10000) (hns : ∀ s, (g.nameOf s).size ≤ 2000000) :
    Calls Try.prog 14 #[.agg (gv A0 A1 A2 c0 c1 c2 g), .agg #[.int .i64 r.left, .slice A r.right.length c]] w fun e w' => e = .returned (.string (g.rightB r)) ∧ Below w.heap.size w w' := by
  obtain ⟨W0, hW0⟩ : ∃ W0, W0 = (w.alloc (.cells (gv A0 A1 A2 c0 c1 c2 g) 25)).alloc (.cells #[.int .i64 r.left, .slice A r.right.length c] 28) := ⟨_, rfl⟩
  have hb0 := below_alloc (below_alloc (Below.refl _ w) (.cells (gv A0 A1 A2 c0 c1 c2 g) 25)) (.cells #[.int .i64 r.left, .slice A r.right.length c] 28)
  have hk0 := blk_alloc (blk_new w (.cells (gv A0 A1 A2 c0 c1 c2 g) 25)) (.cells #[.int .i64 r.left, .slice A r.right.length c] 28)
  rw [← hW0] at hb0 hk0
  have KN : Aside0 (∀ W (s : Int), Below w.heap.size w W → Calls Try.prog 20 #[.agg #[.slice A0 g.terms.length c0, .slice A1 g.nons.length c1, .slice A2 g.rules.length c2, .int .i64 g.start], .int .i64 s] W fun e w' => e = .returned (.string (g.nameOf s)) ∧ Below W.heap.size W w') := ⟨fun W s hb => gram_Name (h.below hb) s⟩
  have HR := Aside0.mk hr
  have HB0 := Aside0.mk hb0
  have HK0 := Aside0.mk hk0
  have HW := Aside0.mk hW0
  have HS := Aside0.mk (rnames_le hns r.right)
  clear h hr hb0 hk0 hW0 hns
  unfold gv at *
  have HO0 : Aside0 (Kd.R Kd.string 9 W0 w.heap.size (fun _ => True) (.slice none 0 0) ((r.right.map g.nameOf).take 0)) := ⟨Kd.R_nil _ _ _ _ _⟩
  have hlen : (r.right.map g.nameOf).length = r.right.length := List.length_map ..
  go_enter Try.func14, Try.ntmps14
  go_wp2
  rw [← HW.out]
  go_loopw [5, 7, 11] (fun v5 _ i wr => ∃ k : Nat, k ≤ r.right.length ∧ i = .int .i64 k ∧ Aside0 (Below w.heap.size w wr) ∧ Aside0 (wr.heap[w.heap.size]? = some (.cells #[.slice A0 g.terms.length c0, .slice A1 g.nons.length c1, .slice A2 g.rules.length c2, .int .i64 g.start] 25 (0, 0))) ∧ Aside0 (Kd.R Kd.string 9 wr w.heap.size (fun _ => True) v5 ((r.right.map g.nameOf).take k))) (fun _ _ i _ => r.right.length - (intOf i).toNat)
  case atStart => exact ⟨0, Nat.zero_le _, rfl, HB0, HK0, HO0⟩
  case round =>
    clear HB0 HK0 HO0
    obtain ⟨k, hk, rfl, HB, HK, HO⟩ := hrel
    obtain ⟨f0, f1, f2, f3⟩ := gcells HK.out
    by_cases hkl : k < r.right.length
    · have hkz : (k : Int) < (r.right.length : Int) := by omega
      obtain ⟨ad, rfl, l2⟩ := at_int (Kd.C_below HR.out HB.out) k hkl
      have HT := Aside0.mk (take_snoc (l := r.right.map g.nameOf) (k := k) (by omega))
      rw [map_getD hkl] at HT
      have hln : ((r.right.map g.nameOf).take k).length = k := by rw [List.length_take]; omega
      obtain ⟨y, hy⟩ : ∃ y, r.right.getD k default = y := ⟨_, rfl⟩
      rw [hy] at l2 HT
      clear hy
      have kn := Aside0.mk (KN.out wr y HB.out)
      generalize g.nameOf y = nm at *
      go_wp2_with (first | (go_at_call 20; refine kn.out.mono ?_; rintro e w2 ⟨rfl, hb2⟩; have HB2 := Aside0.mk (HB.out.trans (hb2.mono HB.out.size)); have HK2 := Aside0.mk (blk_below HK.out hb2); have HO2 := Aside0.mk (Kd.R_below HO.out hb2); clear hb2) | (at_builtin; go_loud (refine Kd.R_append Kd.string (w0 := w) w.heap.size rfl (.tmp 15) (.tmp 19) 22 9 (.string ⟨#[]⟩) 16 rfl Try.underlying22 info9 rfl (by decide) (by omega) _ ((r.right.map g.nameOf).take k) nm [.string nm] (fun _ => True) (fun _ => False) rfl rfl rfl (fun _ hk => hk.elim) (fun _ _ => trivial) HO2.out HB2.out HB2.out.size (by rw [hln]; omega) ?_); intro v1 w3 ho hb hg hat))
      go_roundw
      case rel =>
        refine ⟨k + 1, by omega, by go_num, ⟨hb⟩, ⟨blk_grown HK2.out hg (Kd.R_ne HO2.out HK2.out (by decide))⟩, ⟨?_⟩⟩
        rw [HT.out]
        exact ho
      case measure => simp [intOf]; omega
    · have hkz : ¬ (k : Int) < (r.right.length : Int) := by omega
      obtain rfl : k = r.right.length := by omega
      rw [← hlen, List.take_length] at HO
      obtain ⟨A9, cap, rfl, hle, hC⟩ := Kd.R_reads HO.out
      have hs := gshow_blanks (c := cap) hC (Nat.le_trans HS.out (Nat.le_trans (Nat.mul_le_mul_right _ hm) (by decide)))
      rw [hlen] at hs
      have HS2 := Aside0.mk hs
      clear hs hC HO
      go_wp2_with (go_at_call 39; refine HS2.out.mono ?_; rintro e w2 ⟨rfl, hb2⟩)
      go_ret
      exact ⟨rfl, HB.out.trans (hb2.mono HB.out.size)⟩
set_option maxHeartbeats 2000000 in
theorem gshow_Rule (h : GmAt w A0 A1 A2 c0 c1 c2 g) (hr : Kd.C (Kd.int .i64) w A r.right.length r.right) (hm : r.right.length ≤ 10000) (hns : ∀ s, (g.nameOf s).size ≤ 2000000) :
    Calls Try.prog 8 #[.agg (gv A0 A1 A2 c0 c1 c2 g), .agg #[.int .i64 r.left, .slice A r.right.length c]] w fun e w' => e = .returned (.string (g.ruleB r)) ∧ Below w.heap.size w w' := by
  obtain ⟨W0, hW0⟩ : ∃ W0, W0 = (w.alloc (.cells (gv A0 A1 A2 c0 c1 c2 g) 25)).alloc (.cells #[.int .i64 r.left, .slice A r.right.length c] 28) := ⟨_, rfl⟩
  have hb0 := below_alloc (below_alloc (Below.refl _ w) (.cells (gv A0 A1 A2 c0 c1 c2 g) 25)) (.cells #[.int .i64 r.left, .slice A r.right.length c] 28)
  have hk0 := blk_alloc (blk_new w (.cells (gv A0 A1 A2 c0 c1 c2 g) 25)) (.cells #[.int .i64 r.left, .slice A r.right.length c] 28)
  have hk1 : ((w.alloc (.cells (gv A0 A1 A2 c0 c1 c2 g) 25)).alloc (.cells #[.int .i64 r.left, .slice A r.right.length c] 28)).heap[w.heap.size + 1]? = some (.cells #[.int .i64 r.left, .slice A r.right.length c] 28) := by
    have := blk_new (w.alloc (.cells (gv A0 A1 A2 c0 c1 c2 g) 25)) (.cells #[.int .i64 r.left, .slice A r.right.length c] 28)
    simpa using this
  rw [← hW0] at hb0 hk0 hk1
  have KN : Aside0 (∀ W, Below W0.heap.size W0 W → Calls Try.prog 20 #[.agg #[.slice A0 g.terms.length c0, .slice A1 g.nons.length c1, .slice A2 g.rules.length c2, .int .i64 g.start], .int .i64 r.left] W fun e w' => e = .returned (.string (g.nameOf r.left)) ∧ Below W.heap.size W w') := ⟨fun W hb => gram_Name (h.below (hb0.trans (hb.mono hb0.size))) _⟩
  have KR : Aside0 (∀ W, Below W0.heap.size W0 W → Calls Try.prog 14 #[.agg #[.slice A0 g.terms.length c0, .slice A1 g.nons.length c1, .slice A2 g.rules.length c2, .int .i64 g.start], .agg #[.int .i64 r.left, .slice A r.right.length c]] W fun e w' => e = .returned (.string (g.rightB r)) ∧ Below W.heap.size W w') := ⟨fun W hb => gshow_right (h.below (hb0.trans (hb.mono hb0.size))) (Kd.C_below hr (hb0.trans (hb.mono hb0.size))) hm hns⟩
  have KEY : Aside0 (∀ W, Below W0.heap.size W0 W → (W.cell? ⟨w.heap.size, 0, none⟩ = some (.slice A0 g.terms.length c0) ∧ W.cell? ⟨w.heap.size, 1, none⟩ = some (.slice A1 g.nons.length c1) ∧ W.cell? ⟨w.heap.size, 2, none⟩ = some (.slice A2 g.rules.length c2) ∧ W.cell? ⟨w.heap.size, 3, none⟩ = some (.int .i64 g.start)) ∧ W.cell? ⟨w.heap.size + 1, 0, none⟩ = some (.int .i64 r.left) ∧ W.cell? ⟨w.heap.size + 1, 1, none⟩ = some (.slice A r.right.length c)) :=
    ⟨fun W hb => ⟨gcells (blk_below hk0 hb), blk_cell (blk_below hk1 hb) 0, blk_cell (blk_below hk1 hb) 1⟩⟩
  have HB0 := Aside0.mk hb0
  have HW := Aside0.mk hW0
  have HQ : Aside0 (g.ruleB r = g.nameOf r.left ++ ⟨#[32, 58]⟩ ++ g.rightB r) := ⟨rfl⟩
  have z1 : ¬ 9223372036854775807 < (g.nameOf r.left).size + 2 := by have := hns r.left; omega
  have z2 : ¬ 9223372036854775807 < (g.nameOf r.left).size + 2 + (g.rightB r).size := by
    have h1 := hns r.left
    have h2 : (g.rightB r).size ≤ 10000 * 2000001 := by
      unfold Gm.rightB
      rw [blanks_size]
      exact Nat.le_trans (rnames_le hns r.right) (Nat.mul_le_mul_right _ hm)
    omega
  clear h hr hb0 hk0 hk1 hW0 hns
  generalize g.ruleB r = ru at *
  generalize g.nameOf r.left = nm at *
  generalize g.rightB r = rb at *
  unfold gv at *
  go_enter Try.func8, Try.ntmps8
  go_wp2
  rw [← HW.out]
  refine wp_region_det (vs := [?d1xv0, ?d1xv1, ?d1xv2, ?d1xv3, ?d1xv4, ?d1xv5, ?d1xv6, ?d1xv7, ?d1xv8, ?d1xv9]) (fun w' => Below W0.heap.size W0 w') rfl (by kernel_rfl) (putAll_put (by simp only [Act.put, List.setIfInBounds_toArray, List.set_cons_zero, List.set_cons_succ]; rfl) (putAll_put (by simp only [Act.put, List.setIfInBounds_toArray, List.set_cons_zero, List.set_cons_succ]; rfl) (putAll_put (by simp only [Act.put, List.setIfInBounds_toArray, List.set_cons_zero, List.set_cons_succ]; rfl) (putAll_put (by simp only [Act.put, List.setIfInBounds_toArray, List.set_cons_zero, List.set_cons_succ]; rfl) (putAll_put (by simp only [Act.put, List.setIfInBounds_toArray, List.set_cons_zero, List.set_cons_succ]; rfl) (putAll_put (by simp only [Act.put, List.setIfInBounds_toArray, List.set_cons_zero, List.set_cons_succ]; rfl) (putAll_put (by simp only [Act.put, List.setIfInBounds_toArray, List.set_cons_zero, List.set_cons_succ]; rfl) (putAll_put (by simp only [Act.put, List.setIfInBounds_toArray, List.set_cons_zero, List.set_cons_succ]; rfl) (putAll_put (by simp only [Act.put, List.setIfInBounds_toArray, List.set_cons_zero, List.set_cons_succ]; rfl) (putAll_put (by simp only [Act.put, List.setIfInBounds_toArray, List.set_cons_zero, List.set_cons_succ]; rfl) (putAll_nil _))))))))))) (below_drew (Below.refl _ _)) ?d1xOps ?d1xFin
  case d1xOps =>
    refine ⟨fun w' hw => ?d1xo0, fun w' hw => ?d1xo1, fun w' hw => ?d1xo2, fun w' hw => ?d1xo3, fun w' hw => ?d1xo4, fun w' hw => ?d1xo5, fun w' hw => ?d1xo6, fun w' hw => ?d1xo7, fun w' hw => ?d1xo8, fun w' hw => ?d1xo9, trivial⟩
    case d1xo0 => obtain ⟨⟨f0, f1, f2, f3⟩, f4, f5⟩ := KEY.out w' hw; go_simp; rfl
    case d1xo1 => obtain ⟨⟨f0, f1, f2, f3⟩, f4, f5⟩ := KEY.out w' hw; go_simp; rfl
    case d1xo2 => obtain ⟨⟨f0, f1, f2, f3⟩, f4, f5⟩ := KEY.out w' hw; go_simp; rfl
    case d1xo3 => obtain ⟨⟨f0, f1, f2, f3⟩, f4, f5⟩ := KEY.out w' hw; (go_simp; refine (KN.out w' hw).mono ?_; rintro e w2 ⟨rfl, hb2⟩; exact ⟨by rfl, hw.trans (hb2.mono hw.size)⟩)
    case d1xo4 => obtain ⟨⟨f0, f1, f2, f3⟩, f4, f5⟩ := KEY.out w' hw; go_simp; rfl
    case d1xo5 => obtain ⟨⟨f0, f1, f2, f3⟩, f4, f5⟩ := KEY.out w' hw; go_simp; rfl
    case d1xo6 => obtain ⟨⟨f0, f1, f2, f3⟩, f4, f5⟩ := KEY.out w' hw; go_simp; rfl
    case d1xo7 => obtain ⟨⟨f0, f1, f2, f3⟩, f4, f5⟩ := KEY.out w' hw; (go_simp; refine (KR.out w' hw).mono ?_; rintro e w2 ⟨rfl, hb2⟩; exact ⟨by rfl, hw.trans (hb2.mono hw.size)⟩)
    case d1xo8 => obtain ⟨⟨f0, f1, f2, f3⟩, f4, f5⟩ := KEY.out w' hw; go_simp; rfl
    case d1xo9 => obtain ⟨⟨f0, f1, f2, f3⟩, f4, f5⟩ := KEY.out w' hw; go_simp; rfl
  case d1xFin =>
    intro w1 hw1
    go_wp2
    go_ret
    exact ⟨by rw [HQ.out]; rfl, HB0.out.trans (hw1.mono HB0.out.size)⟩
end
end Go.Proofs.Ytliofoikejdjeaa
