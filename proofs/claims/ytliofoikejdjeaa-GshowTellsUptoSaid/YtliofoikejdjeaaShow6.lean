/- Show: the document's. -/
import Derived.Test.YtliofoikejdjeaaShow5
namespace Go.Proofs.Ytliofoikejdjeaa
open Go.RowKit Go.Proofs.YtliofoikejdjeaaW.PrintWords
set_option linter.unusedVariables false
set_option linter.unusedSimpArgs false
section
variable {w : World} {A0 A1 A2 : Option Addr} {c0 c1 c2 : Nat} {g : Gm}
set_option maxHeartbeats 8000000 in
theorem ref08_Show (h : GmAt w A0 A1 A2 c0 c1 c2 g) (hs : g.Small) :
    Calls Try.prog 7 #[.agg (gv A0 A1 A2 c0 c1 c2 g)] w fun e w' => e = .returned (.string g.showS) ∧ Below w.heap.size w w' := by
  obtain ⟨W0, hW0⟩ : ∃ W0, W0 = w.alloc (.cells (gv A0 A1 A2 c0 c1 c2 g) 25) := ⟨_, rfl⟩
  have hb0 := below_alloc (Below.refl _ w) (.cells (gv A0 A1 A2 c0 c1 c2 g) 25)
  have hk0 := blk_new w (.cells (gv A0 A1 A2 c0 c1 c2 g) 25)
  rw [← hW0] at hb0 hk0
  have hnz : ∀ s ∈ g.names, s.size ≤ 140737488351232 := fun s hx => Nat.le_trans (hs.term s hx) (by decide)
  have ms : g.terms.length + g.nons.length ≤ 8796093022208 := by have := hs.terms; have := hs.nons; omega
  have K1 : Aside0 (∀ W, Below W0.heap.size W0 W → Calls Try.prog 16 #[.agg #[.slice A0 g.terms.length c0, .slice A1 g.nons.length c1, .slice A2 g.rules.length c2, .int .i64 g.start]] W fun e w' => e = .returned (.int .i64 g.check) ∧ Below W.heap.size W w') := ⟨fun W hb => ref06_Check (h.below (hb0.trans (hb.mono hb0.size))) hnz ms⟩
  have K2 : Aside0 (∀ W, Below W0.heap.size W0 W → Calls Try.prog 17 #[.agg #[.slice A0 g.terms.length c0, .slice A1 g.nons.length c1, .slice A2 g.rules.length c2, .int .i64 g.start]] W fun e w' => e = .returned (.bool g.ordered) ∧ Below W.heap.size W w') := ⟨fun W hb => ref06_Ordered (h.below (hb0.trans (hb.mono hb0.size)))⟩
  have K3 : Aside0 (∀ W, Below W0.heap.size W0 W → Calls Try.prog 18 #[.agg #[.slice A0 g.terms.length c0, .slice A1 g.nons.length c1, .slice A2 g.rules.length c2, .int .i64 g.start], .int .i64 g.start] W fun e w' => e = .returned (.string (g.nameOf g.start)) ∧ Below W.heap.size W w') := ⟨fun W hb => ref06_Name (h.below (hb0.trans (hb.mono hb0.size))) ms _⟩
  have K4 : Aside0 (∀ W (A : Option Addr) (c : Nat) (r : Rl), Below W0.heap.size W0 W → Kd.C (Kd.int .i64) w A r.right.length r.right → r.right.length ≤ 10000 → Calls Try.prog 19 #[.agg #[.slice A0 g.terms.length c0, .slice A1 g.nons.length c1, .slice A2 g.rules.length c2, .int .i64 g.start], .agg #[.int .i64 r.left, .slice A r.right.length c]] W fun e w' => e = .returned (.string (g.rightB r)) ∧ Below W.heap.size W w') := ⟨fun W A c r hb hr hm => ref08_right (h.below (hb0.trans (hb.mono hb0.size))) ms (Kd.C_below hr (hb0.trans (hb.mono hb0.size))) hm hs.name⟩
  have K5 : Aside0 (∀ W (A : Option Addr) (c : Nat) (r : Rl), Below W0.heap.size W0 W → Kd.C (Kd.int .i64) w A r.right.length r.right → r.right.length ≤ 10000 → Calls Try.prog 9 #[.agg #[.slice A0 g.terms.length c0, .slice A1 g.nons.length c1, .slice A2 g.rules.length c2, .int .i64 g.start], .agg #[.int .i64 r.left, .slice A r.right.length c]] W fun e w' => e = .returned (.string (g.ruleB r)) ∧ Below W.heap.size W w') := ⟨fun W A c r hb hr hm => ref08_Rule (h.below (hb0.trans (hb.mono hb0.size))) ms (Kd.C_below hr (hb0.trans (hb.mono hb0.size))) hm hs.name⟩
  have GC : Aside0 (∀ W, Below W0.heap.size W0 W → W.cell? ⟨w.heap.size, 0, none⟩ = some (.slice A0 g.terms.length c0) ∧ W.cell? ⟨w.heap.size, 1, none⟩ = some (.slice A1 g.nons.length c1) ∧ W.cell? ⟨w.heap.size, 2, none⟩ = some (.slice A2 g.rules.length c2) ∧ W.cell? ⟨w.heap.size, 3, none⟩ = some (.int .i64 g.start)) := ⟨fun W hb => gcells (blk_below hk0 hb)⟩
  have hgc := GC.out W0 (Below.refl _ _)
  have HR := Aside0.mk h.rules
  have HT := Aside0.mk h.terms
  have HS := Aside0.mk hs
  have HB0 := Aside0.mk hb0
  have HW := Aside0.mk hW0
  have HSS : Aside0 (g.showS = if g.check = 0 ∧ g.ordered = true then g.showB else (⟨#[]⟩ : ByteArray)) := ⟨rfl⟩
  have hhd := hs.head
  have hrl := hs.rules
  have htl := hs.terms
  have hnm := hs.name g.start
  have hts : ∀ k, (blanksB (g.terms.take k)).size ≤ 2000001000 := fun k => by
    have h1 := szs_le (l := g.terms) (m := 2000000) (fun x hx => hs.term x (List.mem_append_left _ hx))
    have h4 : g.terms.length * (2000000 + 1) ≤ 1000 * (2000000 + 1) := Nat.mul_le_mul_right _ hs.terms
    have h5 := szs_take g.terms k
    rw [blanks_size]
    omega
  have HTS := Aside0.mk hts
  have htk : g.tokB.size ≤ 2000001007 := by
    unfold Gm.tokB
    have e1 : (⟨#[37, 116, 111, 107, 101, 110]⟩ : ByteArray).size = 6 := rfl
    have e2 : (⟨#[10]⟩ : ByteArray).size = 1 := rfl
    have e5 : (⟨#[]⟩ : ByteArray).size = 0 := rfl
    split
    · omega
    · have := hts g.terms.length
      rw [List.take_length] at this
      simp only [ByteArray.size_append]
      omega
  have HTZ : Aside0 (∀ k, k < g.terms.length → (g.terms.getD k default).size ≤ 2000000) := ⟨fun k hk => hs.term _ (List.mem_append_left _ (getD_mem hk))⟩
  clear h hb0 hk0 hW0 hs hnz ms hts
  generalize g.showS = SS at *
  generalize g.check = ch at *
  generalize g.ordered = od at *
  unfold gv at *
  by_cases hc : ch = 0
  rotate_left
  · have hcc : (ch != 0) = true := by simpa using hc
    have HC := Aside0.mk hc
    clear hc
    go_enter Try.func7, Try.ntmps7
    go_wp2_with fail
    rw [← HW.out]
    obtain ⟨f0, f1, f2, f3⟩ := hgc
    go_wp2_with (go_at_call 16; refine (K1.out _ (Below.refl _ _)).mono ?_; rintro e w2 ⟨rfl, hb2⟩)
    all_goals
      go_ret
      exact ⟨by rw [HSS.out, if_neg (fun hx => HC.out hx.1)]; rfl, HB0.out.trans (hb2.mono HB0.out.size)⟩
  subst hc
  cases od with
  | false =>
    go_enter Try.func7, Try.ntmps7
    go_wp2_with fail
    rw [← HW.out]
    obtain ⟨f0, f1, f2, f3⟩ := hgc
    go_wp2_with (first | (go_at_call 16; refine (K1.out _ (Below.refl _ _)).mono ?_; rintro e w2 ⟨rfl, hb2⟩; clear f0 f1 f2 f3; obtain ⟨f0, f1, f2, f3⟩ := GC.out _ hb2) | (go_at_call 17; refine (K2.out _ hb2).mono ?_; rintro e w3 ⟨rfl, hb3⟩))
    go_ret
    have h5 := hb2.trans (hb3.mono hb2.size)
    exact ⟨by rw [HSS.out, if_neg (fun hx => Bool.noConfusion hx.2)]; rfl, HB0.out.trans (h5.mono HB0.out.size)⟩
  | true =>
  go_enter Try.func7, Try.ntmps7
  go_wp2_with fail
  rw [← HW.out]
  obtain ⟨f0, f1, f2, f3⟩ := hgc
  refine (K1.out _ (Below.refl _ _)).mono ?_
  rintro e w2 ⟨rfl, hb2⟩
  clear f0 f1 f2 f3
  obtain ⟨f0, f1, f2, f3⟩ := GC.out _ hb2
  go_wp2_with fail
  refine (K2.out _ hb2).mono ?_
  rintro e wt ⟨rfl, hb3⟩
  clear f0 f1 f2 f3
  have HBT := Aside0.mk (hb2.trans (hb3.mono hb2.size))
  obtain ⟨f0, f1, f2, f3⟩ := GC.out _ HBT.out
  clear hb2 hb3 K1 K2 HW
  have hz1 : ¬ 9223372036854775807 < g.tokB.size + 7 := by omega
  have hz2 : ¬ 9223372036854775807 < g.tokB.size + 7 + (g.nameOf g.start).size := by omega
  have hz3 : ¬ 9223372036854775807 < g.tokB.size + 7 + (g.nameOf g.start).size + 4 := by omega
  have HHD : Aside0 (g.tokB ++ ⟨#[37, 115, 116, 97, 114, 116, 32]⟩ ++ g.nameOf g.start ++ ⟨#[10, 37, 37, 10]⟩ = g.headB ++ g.bodyB 0) := ⟨by
    unfold Gm.bodyB Gm.headB
    rw [ByteArray.append_assoc (a := g.tokB), ByteArray.append_assoc (a := g.tokB)]
    exact ByteArray.append_empty.symm⟩
  have HTK : Aside0 (g.tokB = if g.terms.length = 0 then (⟨#[]⟩ : ByteArray) else ⟨#[37, 116, 111, 107, 101, 110]⟩ ++ blanksB g.terms ++ ⟨#[10]⟩) := ⟨rfl⟩
  generalize g.nameOf g.start = nm at *
  obtain ⟨tk, htk⟩ : ∃ tk, g.tokB = tk := ⟨_, rfl⟩
  rw [htk] at HTK HHD hz1 hz2 hz3
  clear htk
  by_cases hz : g.terms.length = 0
  · have hzz : ¬ (0 : Int) < (g.terms.length : Int) := by omega
    rw [if_pos hz] at HTK
    obtain rfl := HTK.out
    have hz4 : ¬ 9223372036854775807 < 7 + nm.size := by omega
    have hz5 : ¬ 9223372036854775807 < 7 + nm.size + 4 := by omega
    clear hz HTK
    go_wp2_with fail
    refine (K3.out _ HBT.out).mono ?_
    rintro e w4 ⟨rfl, hb4⟩
    have HB4 := Aside0.mk (HBT.out.trans (hb4.mono HBT.out.size))
    clear hb4 f0 f1 f2 f3 HBT
    go_wp2
    go_loopw [3, 5] (fun s i wr => ∃ k : Nat, k ≤ g.rules.length ∧ i = .int .i64 k ∧ Aside0 (Below W0.heap.size W0 wr) ∧ s = .string (g.headB ++ g.bodyB k)) (fun _ i _ => g.rules.length - (intOf i).toNat)
    case atStart => exact ⟨0, Nat.zero_le _, rfl, HB4, congrArg Value.string HHD.out⟩
    case round =>
      clear HB4
      obtain ⟨k, hk, rfl, HB, rfl⟩ := hrel
      by_cases hkl : k < g.rules.length
      · have hkz : (k : Int) < (g.rules.length : Int) := by omega
        have hbd := HS.out.body k
        have hbk : k * 20003000000 ≤ 1000 * 20003000000 := Nat.mul_le_mul_right _ (by omega)
        have hrr := getD_rule HS.out k
        have hri := HS.out.rightB hrr
        have hru := HS.out.ruleB hrr
        have HPC := Aside0.mk (show g.headB ++ g.bodyB (k + 1) = (g.headB ++ g.bodyB k) ++ g.pieceB k from by
          show g.headB ++ (g.bodyB k ++ g.pieceB k) = _
          rw [ByteArray.append_assoc])
        have HPD : Aside0 (g.pieceB k = if 0 < k ∧ g.leftOf (k - 1) = g.leftOf k then ⟨#[10, 9, 124]⟩ ++ g.rightB (g.rules.getD k default) else (if 0 < k then (⟨#[10, 9, 59, 10]⟩ : ByteArray) else ⟨#[]⟩) ++ g.ruleB (g.rules.getD k default)) := ⟨rfl⟩
        have hsz : (g.headB ++ g.bodyB k).size ≤ 30000000000000 := by rw [ByteArray.size_append]; omega
        have hk1000 : k ≤ 1000 := by omega
        clear hbd hbk
        have HRW := Aside0.mk (Kd.C_below HR.out (HB0.out.trans (HB.out.mono HB0.out.size)))
        obtain ⟨ad, Ar, cr, hA, _, _, q3, q4⟩ := at_rl HR.out k hkl
        have hla := World.block_lt_of_cell? _ _ (by assumption : w.cell? (ad.add (k * 2)) = _)
        have k1 := (‹w.cell? (ad.add (k * 2)) = _›)
        have k2 := (‹w.cell? ⟨(ad.add (k * 2)).block, (ad.add (k * 2)).off + 1, none⟩ = _›)
        have hbw : ∀ W, Below wr.heap.size wr W → Below w.heap.size w W := fun W hb => (HB0.out.trans (HB.out.mono HB0.out.size)).trans (hb.mono (HB0.out.trans (HB.out.mono HB0.out.size)).size)
        have hb0W : ∀ W, Below wr.heap.size wr W → Below W0.heap.size W0 W := fun W hb => HB.out.trans (hb.mono HB.out.size)
        have hrt : (g.rules.getD k default).left = g.leftOf k := rfl
        obtain ⟨x, hx⟩ : ∃ x, g.rules.getD k default = x := ⟨_, rfl⟩
        rw [hx] at k1 k2 q4 hrr hri hru HPD hrt
        have KEY : Aside0 (∀ W, Below wr.heap.size wr W → (W.cell? ⟨w.heap.size, 0, none⟩ = some (.slice A0 g.terms.length c0) ∧ W.cell? ⟨w.heap.size, 1, none⟩ = some (.slice A1 g.nons.length c1) ∧ W.cell? ⟨w.heap.size, 2, none⟩ = some (.slice A2 g.rules.length c2) ∧ W.cell? ⟨w.heap.size, 3, none⟩ = some (.int .i64 g.start)) ∧ W.cell? (ad.add (k * 2)) = some (.int .i64 x.left) ∧ W.cell? ⟨(ad.add (k * 2)).block, (ad.add (k * 2)).off + 1, none⟩ = some (.slice Ar x.right.length cr)) :=
          ⟨fun W hb => ⟨GC.out W (hb0W W hb), ((hbw W hb).cell (p := ad.add (k * 2)) hla).trans k1, ((hbw W hb).cell (p := ⟨(ad.add (k * 2)).block, (ad.add (k * 2)).off + 1, none⟩) hla).trans k2⟩⟩
        have HX := Aside0.mk hx
        have HBW := Aside0.mk hbw
        have HB0W := Aside0.mk hb0W
        have Q4 := Aside0.mk q4
        have HRT := Aside0.mk hrt
        subst hA
        clear hx hbw hb0W q4 hrt q3 k1 k2 hla
        generalize g.headB ++ g.bodyB k = s at *
        rcases Nat.eq_zero_or_pos k with hk0 | hk0
        · have hkn : ¬ (0 : Int) < (k : Int) := by omega
          have hkn2 : ¬ 0 < k := by omega
          rw [if_neg (by omega), if_neg (by omega)] at HPD
          have K5x := Aside0.mk (fun W hb => K5.out W Ar cr x hb Q4.out hrr)
          generalize g.ruleB x = rb at *
          have z1 : ¬ 9223372036854775807 < s.size + rb.size := by omega
          obtain ⟨⟨f0, f1, f2, f3⟩, f4, f5⟩ := KEY.out wr (Below.refl _ _)
          clear hk0 hk
          go_wp2
          clear f0 f1 f2 f3 f4 f5
          refine wp_region_det (vs := [?d1xv0, ?d1xv1, ?d1xv2, ?d1xv3, ?d1xv4, ?d1xv5, ?d1xv6, ?d1xv7, ?d1xv8, ?d1xv9, ?d1xv10, ?d1xv11, ?d1xv12, ?d1xv13, ?d1xv14, ?d1xv15, ?d1xv16, ?d1xv17]) (fun w' => Below wr.heap.size wr w') rfl (by kernel_rfl) (putAll_put (by simp only [Act.put, List.setIfInBounds_toArray, List.set_cons_zero, List.set_cons_succ]; rfl) (putAll_put (by simp only [Act.put, List.setIfInBounds_toArray, List.set_cons_zero, List.set_cons_succ]; rfl) (putAll_put (by simp only [Act.put, List.setIfInBounds_toArray, List.set_cons_zero, List.set_cons_succ]; rfl) (putAll_put (by simp only [Act.put, List.setIfInBounds_toArray, List.set_cons_zero, List.set_cons_succ]; rfl) (putAll_put (by simp only [Act.put, List.setIfInBounds_toArray, List.set_cons_zero, List.set_cons_succ]; rfl) (putAll_put (by simp only [Act.put, List.setIfInBounds_toArray, List.set_cons_zero, List.set_cons_succ]; rfl) (putAll_put (by simp only [Act.put, List.setIfInBounds_toArray, List.set_cons_zero, List.set_cons_succ]; rfl) (putAll_put (by simp only [Act.put, List.setIfInBounds_toArray, List.set_cons_zero, List.set_cons_succ]; rfl) (putAll_put (by simp only [Act.put, List.setIfInBounds_toArray, List.set_cons_zero, List.set_cons_succ]; rfl) (putAll_put (by simp only [Act.put, List.setIfInBounds_toArray, List.set_cons_zero, List.set_cons_succ]; rfl) (putAll_put (by simp only [Act.put, List.setIfInBounds_toArray, List.set_cons_zero, List.set_cons_succ]; rfl) (putAll_put (by simp only [Act.put, List.setIfInBounds_toArray, List.set_cons_zero, List.set_cons_succ]; rfl) (putAll_put (by simp only [Act.put, List.setIfInBounds_toArray, List.set_cons_zero, List.set_cons_succ]; rfl) (putAll_put (by simp only [Act.put, List.setIfInBounds_toArray, List.set_cons_zero, List.set_cons_succ]; rfl) (putAll_put (by simp only [Act.put, List.setIfInBounds_toArray, List.set_cons_zero, List.set_cons_succ]; rfl) (putAll_put (by simp only [Act.put, List.setIfInBounds_toArray, List.set_cons_zero, List.set_cons_succ]; rfl) (putAll_put (by simp only [Act.put, List.setIfInBounds_toArray, List.set_cons_zero, List.set_cons_succ]; rfl) (putAll_put (by simp only [Act.put, List.setIfInBounds_toArray, List.set_cons_zero, List.set_cons_succ]; rfl) (putAll_nil _))))))))))))))))))) (below_drew (Below.refl _ _)) ?d1xOps ?d1xFin
          case d1xOps =>
            refine ⟨fun w' hw => ?d1xo0, fun w' hw => ?d1xo1, fun w' hw => ?d1xo2, fun w' hw => ?d1xo3, fun w' hw => ?d1xo4, fun w' hw => ?d1xo5, fun w' hw => ?d1xo6, fun w' hw => ?d1xo7, fun w' hw => ?d1xo8, fun w' hw => ?d1xo9, fun w' hw => ?d1xo10, fun w' hw => ?d1xo11, fun w' hw => ?d1xo12, fun w' hw => ?d1xo13, fun w' hw => ?d1xo14, fun w' hw => ?d1xo15, fun w' hw => ?d1xo16, fun w' hw => ?d1xo17, trivial⟩
            case d1xo0 => obtain ⟨⟨f0, f1, f2, f3⟩, f4, f5⟩ := KEY.out w' hw; go_simp; rfl
            case d1xo1 => obtain ⟨⟨f0, f1, f2, f3⟩, f4, f5⟩ := KEY.out w' hw; go_simp; rfl
            case d1xo2 => obtain ⟨⟨f0, f1, f2, f3⟩, f4, f5⟩ := KEY.out w' hw; go_simp; rfl
            case d1xo3 => obtain ⟨⟨f0, f1, f2, f3⟩, f4, f5⟩ := KEY.out w' hw; go_simp; rfl
            case d1xo4 => obtain ⟨⟨f0, f1, f2, f3⟩, f4, f5⟩ := KEY.out w' hw; go_simp; rfl
            case d1xo5 => obtain ⟨⟨f0, f1, f2, f3⟩, f4, f5⟩ := KEY.out w' hw; go_simp; rfl
            case d1xo6 => obtain ⟨⟨f0, f1, f2, f3⟩, f4, f5⟩ := KEY.out w' hw; go_simp; rfl
            case d1xo7 => obtain ⟨⟨f0, f1, f2, f3⟩, f4, f5⟩ := KEY.out w' hw; go_simp; rfl
            case d1xo8 => obtain ⟨⟨f0, f1, f2, f3⟩, f4, f5⟩ := KEY.out w' hw; go_simp; rfl
            case d1xo9 => obtain ⟨⟨f0, f1, f2, f3⟩, f4, f5⟩ := KEY.out w' hw; go_simp; rfl
            case d1xo10 => obtain ⟨⟨f0, f1, f2, f3⟩, f4, f5⟩ := KEY.out w' hw; go_simp; rfl
            case d1xo11 => obtain ⟨⟨f0, f1, f2, f3⟩, f4, f5⟩ := KEY.out w' hw; go_simp; rfl
            case d1xo12 => obtain ⟨⟨f0, f1, f2, f3⟩, f4, f5⟩ := KEY.out w' hw; go_simp; rfl
            case d1xo13 => obtain ⟨⟨f0, f1, f2, f3⟩, f4, f5⟩ := KEY.out w' hw; go_simp; rfl
            case d1xo14 => obtain ⟨⟨f0, f1, f2, f3⟩, f4, f5⟩ := KEY.out w' hw; go_simp; rfl
            case d1xo15 => obtain ⟨⟨f0, f1, f2, f3⟩, f4, f5⟩ := KEY.out w' hw; go_simp; rfl
            case d1xo16 => obtain ⟨⟨f0, f1, f2, f3⟩, f4, f5⟩ := KEY.out w' hw; go_simp; rfl
            case d1xo17 => obtain ⟨⟨f0, f1, f2, f3⟩, f4, f5⟩ := KEY.out w' hw; go_simp; rfl
          case d1xFin =>
            intro w5 hw5
            go_wp2
            refine wp_region_det2 (vs := [?d2xv0, ?d2xv1, ?d2xv2, ?d2xv3, ?d2xv4, ?d2xv5, ?d2xv6, ?d2xv7, ?d2xv8]) (fun w' => Below wr.heap.size wr w') rfl (by kernel_rfl) rfl rfl rfl (putAll_put (by simp only [Act.put, List.setIfInBounds_toArray, List.set_cons_zero, List.set_cons_succ]; rfl) (putAll_put (by simp only [Act.put, List.setIfInBounds_toArray, List.set_cons_zero, List.set_cons_succ]; rfl) (putAll_put (by simp only [Act.put, List.setIfInBounds_toArray, List.set_cons_zero, List.set_cons_succ]; rfl) (putAll_put (by simp only [Act.put, List.setIfInBounds_toArray, List.set_cons_zero, List.set_cons_succ]; rfl) (putAll_put (by simp only [Act.put, List.setIfInBounds_toArray, List.set_cons_zero, List.set_cons_succ]; rfl) (putAll_put (by simp only [Act.put, List.setIfInBounds_toArray, List.set_cons_zero, List.set_cons_succ]; rfl) (putAll_put (by simp only [Act.put, List.setIfInBounds_toArray, List.set_cons_zero, List.set_cons_succ]; rfl) (putAll_put (by simp only [Act.put, List.setIfInBounds_toArray, List.set_cons_zero, List.set_cons_succ]; rfl) (putAll_put (by simp only [Act.put, List.setIfInBounds_toArray, List.set_cons_zero, List.set_cons_succ]; rfl) (putAll_nil _)))))))))) (by go_simp; rfl) (below_drew1 hw5) ?d2xOps ?d2xFin
            case d2xOps =>
              refine ⟨fun w' hw => ?d2xo0, fun w' hw => ?d2xo1, fun w' hw => ?d2xo2, fun w' hw => ?d2xo3, fun w' hw => ?d2xo4, fun w' hw => ?d2xo5, fun w' hw => ?d2xo6, fun w' hw => ?d2xo7, fun w' hw => ?d2xo8, trivial⟩
              case d2xo0 => obtain ⟨⟨f0, f1, f2, f3⟩, f4, f5⟩ := KEY.out w' hw; go_simp; rfl
              case d2xo1 => obtain ⟨⟨f0, f1, f2, f3⟩, f4, f5⟩ := KEY.out w' hw; go_simp; rfl
              case d2xo2 => obtain ⟨⟨f0, f1, f2, f3⟩, f4, f5⟩ := KEY.out w' hw; go_simp; rfl
              case d2xo3 => obtain ⟨⟨f0, f1, f2, f3⟩, f4, f5⟩ := KEY.out w' hw; go_simp; rfl
              case d2xo4 => obtain ⟨⟨f0, f1, f2, f3⟩, f4, f5⟩ := KEY.out w' hw; go_simp; rfl
              case d2xo5 => obtain ⟨⟨f0, f1, f2, f3⟩, f4, f5⟩ := KEY.out w' hw; go_simp; rfl
              case d2xo6 => obtain ⟨⟨f0, f1, f2, f3⟩, f4, f5⟩ := KEY.out w' hw; go_simp; rfl
              case d2xo7 => obtain ⟨⟨f0, f1, f2, f3⟩, f4, f5⟩ := KEY.out w' hw; (go_simp; refine (K5x.out w' (HB0W.out w' hw)).mono ?_; rintro e w2 ⟨rfl, hb2⟩; exact ⟨by rfl, hw.trans (hb2.mono hw.size)⟩)
              case d2xo8 => obtain ⟨⟨f0, f1, f2, f3⟩, f4, f5⟩ := KEY.out w' hw; go_simp; rfl
            case d2xFin =>
              intro w6 hw6
              go_wp2
              go_roundw
              case rel => exact ⟨k + 1, by omega, by go_num, ⟨HB0W.out _ hw6⟩, by rw [HPC.out, HPD.out]; rw [show (⟨#[]⟩ : ByteArray) ++ rb = rb from ByteArray.empty_append]⟩
              case measure => simp [intOf]; omega
        · obtain ⟨m, rfl⟩ : ∃ m, k = m + 1 := ⟨k - 1, by omega⟩
          obtain ⟨ad', Am, cm, hA', _, _, _, _⟩ := at_rl HR.out m (by omega)
          obtain rfl : ad = ad' := Option.some.inj hA'
          have p1 := (‹w.cell? (ad.add (m * 2)) = _›)
          have hml : (g.rules.getD m default).left = g.leftOf m := rfl
          rw [hml] at p1
          have hlm := World.block_lt_of_cell? _ _ p1
          have KEY2 : Aside0 (∀ W, Below wr.heap.size wr W → W.cell? (ad.add (m * 2)) = some (.int .i64 (g.leftOf m))) := ⟨fun W hb => ((HBW.out W hb).cell (p := ad.add (m * 2)) hlm).trans p1⟩
          have hmz : (m : Int) < (g.rules.length : Int) := by omega
          have hkp : (0 : Int) < (m : Int) + 1 := by omega
          have hkp2 : (0 : Int) ≤ (m : Int) + 1 := by omega
          have hwm : IntKind.i64.wrap (m : Int) = (m : Int) := IntWalk.i64_in _ (by omega)
          have hwm1 : IntKind.i64.wrap ((m : Int) + 1) = (m : Int) + 1 := IntWalk.i64_in _ (by omega)
          rw [show m + 1 - 1 = m from rfl] at HPD
          by_cases hcase : g.leftOf m = g.leftOf (m + 1)
          · rw [if_pos ⟨by omega, hcase⟩] at HPD
            have hq : (g.leftOf m == x.left) = true := by rw [hcase, ← HRT.out]; exact beq_self_eq_true _
            have K4x := Aside0.mk (fun W hb => K4.out W Ar cr x hb Q4.out hrr)
            generalize g.rightB x = rb at *
            have z1 : ¬ 9223372036854775807 < s.size + 3 := by omega
            have z2 : ¬ 9223372036854775807 < s.size + 3 + rb.size := by omega
            obtain ⟨⟨f0, f1, f2, f3⟩, f4, f5⟩ := KEY.out wr (Below.refl _ _)
            clear hk0 hk hcase hml p1 hlm
            go_wp2
            clear f0 f1 f2 f3 f4 f5
            refine wp_region_det (vs := [?d3xv0, ?d3xv1, ?d3xv2, ?d3xv3, ?d3xv4, ?d3xv5, ?d3xv6, ?d3xv7, ?d3xv8, ?d3xv9, ?d3xv10, ?d3xv11, ?d3xv12, ?d3xv13, ?d3xv14, ?d3xv15, ?d3xv16, ?d3xv17]) (fun w' => Below wr.heap.size wr w') rfl (by kernel_rfl) (putAll_put (by simp only [Act.put, List.setIfInBounds_toArray, List.set_cons_zero, List.set_cons_succ]; rfl) (putAll_put (by simp only [Act.put, List.setIfInBounds_toArray, List.set_cons_zero, List.set_cons_succ]; rfl) (putAll_put (by simp only [Act.put, List.setIfInBounds_toArray, List.set_cons_zero, List.set_cons_succ]; rfl) (putAll_put (by simp only [Act.put, List.setIfInBounds_toArray, List.set_cons_zero, List.set_cons_succ]; rfl) (putAll_put (by simp only [Act.put, List.setIfInBounds_toArray, List.set_cons_zero, List.set_cons_succ]; rfl) (putAll_put (by simp only [Act.put, List.setIfInBounds_toArray, List.set_cons_zero, List.set_cons_succ]; rfl) (putAll_put (by simp only [Act.put, List.setIfInBounds_toArray, List.set_cons_zero, List.set_cons_succ]; rfl) (putAll_put (by simp only [Act.put, List.setIfInBounds_toArray, List.set_cons_zero, List.set_cons_succ]; rfl) (putAll_put (by simp only [Act.put, List.setIfInBounds_toArray, List.set_cons_zero, List.set_cons_succ]; rfl) (putAll_put (by simp only [Act.put, List.setIfInBounds_toArray, List.set_cons_zero, List.set_cons_succ]; rfl) (putAll_put (by simp only [Act.put, List.setIfInBounds_toArray, List.set_cons_zero, List.set_cons_succ]; rfl) (putAll_put (by simp only [Act.put, List.setIfInBounds_toArray, List.set_cons_zero, List.set_cons_succ]; rfl) (putAll_put (by simp only [Act.put, List.setIfInBounds_toArray, List.set_cons_zero, List.set_cons_succ]; rfl) (putAll_put (by simp only [Act.put, List.setIfInBounds_toArray, List.set_cons_zero, List.set_cons_succ]; rfl) (putAll_put (by simp only [Act.put, List.setIfInBounds_toArray, List.set_cons_zero, List.set_cons_succ]; rfl) (putAll_put (by simp only [Act.put, List.setIfInBounds_toArray, List.set_cons_zero, List.set_cons_succ]; rfl) (putAll_put (by simp only [Act.put, List.setIfInBounds_toArray, List.set_cons_zero, List.set_cons_succ]; rfl) (putAll_put (by simp only [Act.put, List.setIfInBounds_toArray, List.set_cons_zero, List.set_cons_succ]; rfl) (putAll_nil _))))))))))))))))))) (below_drew (Below.refl _ _)) ?d3xOps ?d3xFin
            case d3xOps =>
              refine ⟨fun w' hw => ?d3xo0, fun w' hw => ?d3xo1, fun w' hw => ?d3xo2, fun w' hw => ?d3xo3, fun w' hw => ?d3xo4, fun w' hw => ?d3xo5, fun w' hw => ?d3xo6, fun w' hw => ?d3xo7, fun w' hw => ?d3xo8, fun w' hw => ?d3xo9, fun w' hw => ?d3xo10, fun w' hw => ?d3xo11, fun w' hw => ?d3xo12, fun w' hw => ?d3xo13, fun w' hw => ?d3xo14, fun w' hw => ?d3xo15, fun w' hw => ?d3xo16, fun w' hw => ?d3xo17, trivial⟩
              case d3xo0 => (obtain ⟨⟨f0, f1, f2, f3⟩, f4, f5⟩ := KEY.out w' hw; have f6 := KEY2.out w' hw); go_simp; rfl
              case d3xo1 => (obtain ⟨⟨f0, f1, f2, f3⟩, f4, f5⟩ := KEY.out w' hw; have f6 := KEY2.out w' hw); go_simp; rfl
              case d3xo2 => (obtain ⟨⟨f0, f1, f2, f3⟩, f4, f5⟩ := KEY.out w' hw; have f6 := KEY2.out w' hw); go_simp; rfl
              case d3xo3 => (obtain ⟨⟨f0, f1, f2, f3⟩, f4, f5⟩ := KEY.out w' hw; have f6 := KEY2.out w' hw); go_simp; rfl
              case d3xo4 => (obtain ⟨⟨f0, f1, f2, f3⟩, f4, f5⟩ := KEY.out w' hw; have f6 := KEY2.out w' hw); go_simp; rfl
              case d3xo5 => (obtain ⟨⟨f0, f1, f2, f3⟩, f4, f5⟩ := KEY.out w' hw; have f6 := KEY2.out w' hw); go_simp; rfl
              case d3xo6 => (obtain ⟨⟨f0, f1, f2, f3⟩, f4, f5⟩ := KEY.out w' hw; have f6 := KEY2.out w' hw); go_simp; rfl
              case d3xo7 => (obtain ⟨⟨f0, f1, f2, f3⟩, f4, f5⟩ := KEY.out w' hw; have f6 := KEY2.out w' hw); go_simp; rfl
              case d3xo8 => (obtain ⟨⟨f0, f1, f2, f3⟩, f4, f5⟩ := KEY.out w' hw; have f6 := KEY2.out w' hw); go_simp; rfl
              case d3xo9 => (obtain ⟨⟨f0, f1, f2, f3⟩, f4, f5⟩ := KEY.out w' hw; have f6 := KEY2.out w' hw); go_simp; rfl
              case d3xo10 => (obtain ⟨⟨f0, f1, f2, f3⟩, f4, f5⟩ := KEY.out w' hw; have f6 := KEY2.out w' hw); go_simp; rfl
              case d3xo11 => (obtain ⟨⟨f0, f1, f2, f3⟩, f4, f5⟩ := KEY.out w' hw; have f6 := KEY2.out w' hw); go_simp; rfl
              case d3xo12 => (obtain ⟨⟨f0, f1, f2, f3⟩, f4, f5⟩ := KEY.out w' hw; have f6 := KEY2.out w' hw); go_simp; rfl
              case d3xo13 => (obtain ⟨⟨f0, f1, f2, f3⟩, f4, f5⟩ := KEY.out w' hw; have f6 := KEY2.out w' hw); go_simp; rfl
              case d3xo14 => (obtain ⟨⟨f0, f1, f2, f3⟩, f4, f5⟩ := KEY.out w' hw; have f6 := KEY2.out w' hw); go_simp; rfl
              case d3xo15 => (obtain ⟨⟨f0, f1, f2, f3⟩, f4, f5⟩ := KEY.out w' hw; have f6 := KEY2.out w' hw); go_simp; rfl
              case d3xo16 => (obtain ⟨⟨f0, f1, f2, f3⟩, f4, f5⟩ := KEY.out w' hw; have f6 := KEY2.out w' hw); go_simp; rfl
              case d3xo17 => (obtain ⟨⟨f0, f1, f2, f3⟩, f4, f5⟩ := KEY.out w' hw; have f6 := KEY2.out w' hw); go_simp; rfl
            case d3xFin =>
              intro w5 hw5
              go_wp2
              refine wp_region_det2 (vs := [?d4xv0, ?d4xv1, ?d4xv2, ?d4xv3, ?d4xv4, ?d4xv5, ?d4xv6, ?d4xv7, ?d4xv8, ?d4xv9]) (fun w' => Below wr.heap.size wr w') rfl (by kernel_rfl) rfl rfl rfl (putAll_put (by simp only [Act.put, List.setIfInBounds_toArray, List.set_cons_zero, List.set_cons_succ]; rfl) (putAll_put (by simp only [Act.put, List.setIfInBounds_toArray, List.set_cons_zero, List.set_cons_succ]; rfl) (putAll_put (by simp only [Act.put, List.setIfInBounds_toArray, List.set_cons_zero, List.set_cons_succ]; rfl) (putAll_put (by simp only [Act.put, List.setIfInBounds_toArray, List.set_cons_zero, List.set_cons_succ]; rfl) (putAll_put (by simp only [Act.put, List.setIfInBounds_toArray, List.set_cons_zero, List.set_cons_succ]; rfl) (putAll_put (by simp only [Act.put, List.setIfInBounds_toArray, List.set_cons_zero, List.set_cons_succ]; rfl) (putAll_put (by simp only [Act.put, List.setIfInBounds_toArray, List.set_cons_zero, List.set_cons_succ]; rfl) (putAll_put (by simp only [Act.put, List.setIfInBounds_toArray, List.set_cons_zero, List.set_cons_succ]; rfl) (putAll_put (by simp only [Act.put, List.setIfInBounds_toArray, List.set_cons_zero, List.set_cons_succ]; rfl) (putAll_put (by simp only [Act.put, List.setIfInBounds_toArray, List.set_cons_zero, List.set_cons_succ]; rfl) (putAll_nil _))))))))))) (by go_simp; rfl) (below_drew1 hw5) ?d4xOps ?d4xFin
              case d4xOps =>
                refine ⟨fun w' hw => ?d4xo0, fun w' hw => ?d4xo1, fun w' hw => ?d4xo2, fun w' hw => ?d4xo3, fun w' hw => ?d4xo4, fun w' hw => ?d4xo5, fun w' hw => ?d4xo6, fun w' hw => ?d4xo7, fun w' hw => ?d4xo8, fun w' hw => ?d4xo9, trivial⟩
                case d4xo0 => obtain ⟨⟨f0, f1, f2, f3⟩, f4, f5⟩ := KEY.out w' hw; go_simp; rfl
                case d4xo1 => obtain ⟨⟨f0, f1, f2, f3⟩, f4, f5⟩ := KEY.out w' hw; go_simp; rfl
                case d4xo2 => obtain ⟨⟨f0, f1, f2, f3⟩, f4, f5⟩ := KEY.out w' hw; go_simp; rfl
                case d4xo3 => obtain ⟨⟨f0, f1, f2, f3⟩, f4, f5⟩ := KEY.out w' hw; go_simp; rfl
                case d4xo4 => obtain ⟨⟨f0, f1, f2, f3⟩, f4, f5⟩ := KEY.out w' hw; go_simp; rfl
                case d4xo5 => obtain ⟨⟨f0, f1, f2, f3⟩, f4, f5⟩ := KEY.out w' hw; go_simp; rfl
                case d4xo6 => obtain ⟨⟨f0, f1, f2, f3⟩, f4, f5⟩ := KEY.out w' hw; go_simp; rfl
                case d4xo7 => obtain ⟨⟨f0, f1, f2, f3⟩, f4, f5⟩ := KEY.out w' hw; go_simp; rfl
                case d4xo8 => obtain ⟨⟨f0, f1, f2, f3⟩, f4, f5⟩ := KEY.out w' hw; (go_simp; refine (K4x.out w' (HB0W.out w' hw)).mono ?_; rintro e w2 ⟨rfl, hb2⟩; exact ⟨by rfl, hw.trans (hb2.mono hw.size)⟩)
                case d4xo9 => obtain ⟨⟨f0, f1, f2, f3⟩, f4, f5⟩ := KEY.out w' hw; go_simp; rfl
              case d4xFin =>
                intro w6 hw6
                go_wp2
                go_roundw
                case rel => exact ⟨m + 1 + 1, by omega, by go_num, ⟨HB0W.out _ hw6⟩, by rw [HPC.out, HPD.out, ← ByteArray.append_assoc]⟩
                case measure => simp [intOf]; omega
          · rw [if_neg (fun h => hcase h.2), if_pos (by omega)] at HPD
            have hq : (g.leftOf m == x.left) = false := beq_false_of_ne (by rw [HRT.out]; exact hcase)
            have K5x := Aside0.mk (fun W hb => K5.out W Ar cr x hb Q4.out hrr)
            generalize g.ruleB x = rb at *
            have z1 : ¬ 9223372036854775807 < s.size + 4 := by omega
            have z2 : ¬ 9223372036854775807 < s.size + 4 + rb.size := by omega
            obtain ⟨⟨f0, f1, f2, f3⟩, f4, f5⟩ := KEY.out wr (Below.refl _ _)
            clear hk0 hk hcase hml p1 hlm
            go_wp2
            clear f0 f1 f2 f3 f4 f5
            refine wp_region_det (vs := [?d5xv0, ?d5xv1, ?d5xv2, ?d5xv3, ?d5xv4, ?d5xv5, ?d5xv6, ?d5xv7, ?d5xv8, ?d5xv9, ?d5xv10, ?d5xv11, ?d5xv12, ?d5xv13, ?d5xv14, ?d5xv15, ?d5xv16, ?d5xv17]) (fun w' => Below wr.heap.size wr w') rfl (by kernel_rfl) (putAll_put (by simp only [Act.put, List.setIfInBounds_toArray, List.set_cons_zero, List.set_cons_succ]; rfl) (putAll_put (by simp only [Act.put, List.setIfInBounds_toArray, List.set_cons_zero, List.set_cons_succ]; rfl) (putAll_put (by simp only [Act.put, List.setIfInBounds_toArray, List.set_cons_zero, List.set_cons_succ]; rfl) (putAll_put (by simp only [Act.put, List.setIfInBounds_toArray, List.set_cons_zero, List.set_cons_succ]; rfl) (putAll_put (by simp only [Act.put, List.setIfInBounds_toArray, List.set_cons_zero, List.set_cons_succ]; rfl) (putAll_put (by simp only [Act.put, List.setIfInBounds_toArray, List.set_cons_zero, List.set_cons_succ]; rfl) (putAll_put (by simp only [Act.put, List.setIfInBounds_toArray, List.set_cons_zero, List.set_cons_succ]; rfl) (putAll_put (by simp only [Act.put, List.setIfInBounds_toArray, List.set_cons_zero, List.set_cons_succ]; rfl) (putAll_put (by simp only [Act.put, List.setIfInBounds_toArray, List.set_cons_zero, List.set_cons_succ]; rfl) (putAll_put (by simp only [Act.put, List.setIfInBounds_toArray, List.set_cons_zero, List.set_cons_succ]; rfl) (putAll_put (by simp only [Act.put, List.setIfInBounds_toArray, List.set_cons_zero, List.set_cons_succ]; rfl) (putAll_put (by simp only [Act.put, List.setIfInBounds_toArray, List.set_cons_zero, List.set_cons_succ]; rfl) (putAll_put (by simp only [Act.put, List.setIfInBounds_toArray, List.set_cons_zero, List.set_cons_succ]; rfl) (putAll_put (by simp only [Act.put, List.setIfInBounds_toArray, List.set_cons_zero, List.set_cons_succ]; rfl) (putAll_put (by simp only [Act.put, List.setIfInBounds_toArray, List.set_cons_zero, List.set_cons_succ]; rfl) (putAll_put (by simp only [Act.put, List.setIfInBounds_toArray, List.set_cons_zero, List.set_cons_succ]; rfl) (putAll_put (by simp only [Act.put, List.setIfInBounds_toArray, List.set_cons_zero, List.set_cons_succ]; rfl) (putAll_put (by simp only [Act.put, List.setIfInBounds_toArray, List.set_cons_zero, List.set_cons_succ]; rfl) (putAll_nil _))))))))))))))))))) (below_drew (Below.refl _ _)) ?d5xOps ?d5xFin
            case d5xOps =>
              refine ⟨fun w' hw => ?d5xo0, fun w' hw => ?d5xo1, fun w' hw => ?d5xo2, fun w' hw => ?d5xo3, fun w' hw => ?d5xo4, fun w' hw => ?d5xo5, fun w' hw => ?d5xo6, fun w' hw => ?d5xo7, fun w' hw => ?d5xo8, fun w' hw => ?d5xo9, fun w' hw => ?d5xo10, fun w' hw => ?d5xo11, fun w' hw => ?d5xo12, fun w' hw => ?d5xo13, fun w' hw => ?d5xo14, fun w' hw => ?d5xo15, fun w' hw => ?d5xo16, fun w' hw => ?d5xo17, trivial⟩
              case d5xo0 => (obtain ⟨⟨f0, f1, f2, f3⟩, f4, f5⟩ := KEY.out w' hw; have f6 := KEY2.out w' hw); go_simp; rfl
              case d5xo1 => (obtain ⟨⟨f0, f1, f2, f3⟩, f4, f5⟩ := KEY.out w' hw; have f6 := KEY2.out w' hw); go_simp; rfl
              case d5xo2 => (obtain ⟨⟨f0, f1, f2, f3⟩, f4, f5⟩ := KEY.out w' hw; have f6 := KEY2.out w' hw); go_simp; rfl
              case d5xo3 => (obtain ⟨⟨f0, f1, f2, f3⟩, f4, f5⟩ := KEY.out w' hw; have f6 := KEY2.out w' hw); go_simp; rfl
              case d5xo4 => (obtain ⟨⟨f0, f1, f2, f3⟩, f4, f5⟩ := KEY.out w' hw; have f6 := KEY2.out w' hw); go_simp; rfl
              case d5xo5 => (obtain ⟨⟨f0, f1, f2, f3⟩, f4, f5⟩ := KEY.out w' hw; have f6 := KEY2.out w' hw); go_simp; rfl
              case d5xo6 => (obtain ⟨⟨f0, f1, f2, f3⟩, f4, f5⟩ := KEY.out w' hw; have f6 := KEY2.out w' hw); go_simp; rfl
              case d5xo7 => (obtain ⟨⟨f0, f1, f2, f3⟩, f4, f5⟩ := KEY.out w' hw; have f6 := KEY2.out w' hw); go_simp; rfl
              case d5xo8 => (obtain ⟨⟨f0, f1, f2, f3⟩, f4, f5⟩ := KEY.out w' hw; have f6 := KEY2.out w' hw); go_simp; rfl
              case d5xo9 => (obtain ⟨⟨f0, f1, f2, f3⟩, f4, f5⟩ := KEY.out w' hw; have f6 := KEY2.out w' hw); go_simp; rfl
              case d5xo10 => (obtain ⟨⟨f0, f1, f2, f3⟩, f4, f5⟩ := KEY.out w' hw; have f6 := KEY2.out w' hw); go_simp; rfl
              case d5xo11 => (obtain ⟨⟨f0, f1, f2, f3⟩, f4, f5⟩ := KEY.out w' hw; have f6 := KEY2.out w' hw); go_simp; rfl
              case d5xo12 => (obtain ⟨⟨f0, f1, f2, f3⟩, f4, f5⟩ := KEY.out w' hw; have f6 := KEY2.out w' hw); go_simp; rfl
              case d5xo13 => (obtain ⟨⟨f0, f1, f2, f3⟩, f4, f5⟩ := KEY.out w' hw; have f6 := KEY2.out w' hw); go_simp; rfl
              case d5xo14 => (obtain ⟨⟨f0, f1, f2, f3⟩, f4, f5⟩ := KEY.out w' hw; have f6 := KEY2.out w' hw); go_simp; rfl
              case d5xo15 => (obtain ⟨⟨f0, f1, f2, f3⟩, f4, f5⟩ := KEY.out w' hw; have f6 := KEY2.out w' hw); go_simp; rfl
              case d5xo16 => (obtain ⟨⟨f0, f1, f2, f3⟩, f4, f5⟩ := KEY.out w' hw; have f6 := KEY2.out w' hw); go_simp; rfl
              case d5xo17 => (obtain ⟨⟨f0, f1, f2, f3⟩, f4, f5⟩ := KEY.out w' hw; have f6 := KEY2.out w' hw); go_simp; rfl
            case d5xFin =>
              intro w5 hw5
              go_wp2
              refine wp_region_det2 (vs := [?d6xv0, ?d6xv1, ?d6xv2, ?d6xv3, ?d6xv4, ?d6xv5, ?d6xv6, ?d6xv7, ?d6xv8]) (fun w' => Below wr.heap.size wr w') rfl (by kernel_rfl) rfl rfl rfl (putAll_put (by simp only [Act.put, List.setIfInBounds_toArray, List.set_cons_zero, List.set_cons_succ]; rfl) (putAll_put (by simp only [Act.put, List.setIfInBounds_toArray, List.set_cons_zero, List.set_cons_succ]; rfl) (putAll_put (by simp only [Act.put, List.setIfInBounds_toArray, List.set_cons_zero, List.set_cons_succ]; rfl) (putAll_put (by simp only [Act.put, List.setIfInBounds_toArray, List.set_cons_zero, List.set_cons_succ]; rfl) (putAll_put (by simp only [Act.put, List.setIfInBounds_toArray, List.set_cons_zero, List.set_cons_succ]; rfl) (putAll_put (by simp only [Act.put, List.setIfInBounds_toArray, List.set_cons_zero, List.set_cons_succ]; rfl) (putAll_put (by simp only [Act.put, List.setIfInBounds_toArray, List.set_cons_zero, List.set_cons_succ]; rfl) (putAll_put (by simp only [Act.put, List.setIfInBounds_toArray, List.set_cons_zero, List.set_cons_succ]; rfl) (putAll_put (by simp only [Act.put, List.setIfInBounds_toArray, List.set_cons_zero, List.set_cons_succ]; rfl) (putAll_nil _)))))))))) (by go_simp; rfl) (below_drew1 hw5) ?d6xOps ?d6xFin
              case d6xOps =>
                refine ⟨fun w' hw => ?d6xo0, fun w' hw => ?d6xo1, fun w' hw => ?d6xo2, fun w' hw => ?d6xo3, fun w' hw => ?d6xo4, fun w' hw => ?d6xo5, fun w' hw => ?d6xo6, fun w' hw => ?d6xo7, fun w' hw => ?d6xo8, trivial⟩
                case d6xo0 => obtain ⟨⟨f0, f1, f2, f3⟩, f4, f5⟩ := KEY.out w' hw; go_simp; rfl
                case d6xo1 => obtain ⟨⟨f0, f1, f2, f3⟩, f4, f5⟩ := KEY.out w' hw; go_simp; rfl
                case d6xo2 => obtain ⟨⟨f0, f1, f2, f3⟩, f4, f5⟩ := KEY.out w' hw; go_simp; rfl
                case d6xo3 => obtain ⟨⟨f0, f1, f2, f3⟩, f4, f5⟩ := KEY.out w' hw; go_simp; rfl
                case d6xo4 => obtain ⟨⟨f0, f1, f2, f3⟩, f4, f5⟩ := KEY.out w' hw; go_simp; rfl
                case d6xo5 => obtain ⟨⟨f0, f1, f2, f3⟩, f4, f5⟩ := KEY.out w' hw; go_simp; rfl
                case d6xo6 => obtain ⟨⟨f0, f1, f2, f3⟩, f4, f5⟩ := KEY.out w' hw; go_simp; rfl
                case d6xo7 => obtain ⟨⟨f0, f1, f2, f3⟩, f4, f5⟩ := KEY.out w' hw; (go_simp; refine (K5x.out w' (HB0W.out w' hw)).mono ?_; rintro e w2 ⟨rfl, hb2⟩; exact ⟨by rfl, hw.trans (hb2.mono hw.size)⟩)
                case d6xo8 => obtain ⟨⟨f0, f1, f2, f3⟩, f4, f5⟩ := KEY.out w' hw; go_simp; rfl
              case d6xFin =>
                intro w6 hw6
                go_wp2
                go_roundw
                case rel => exact ⟨m + 1 + 1, by omega, by go_num, ⟨HB0W.out _ hw6⟩, by rw [HPC.out, HPD.out, ← ByteArray.append_assoc]⟩
                case measure => simp [intOf]; omega
      · have hkz : ¬ (k : Int) < (g.rules.length : Int) := by omega
        obtain rfl : k = g.rules.length := by omega
        obtain ⟨f0, f1, f2, f3⟩ := GC.out _ HB.out
        have hbd := HS.out.body g.rules.length
        have hbk : g.rules.length * 20003000000 ≤ 1000 * 20003000000 := Nat.mul_le_mul_right _ (by omega)
        have hsz : ¬ 9223372036854775807 < g.headB.size + (g.bodyB g.rules.length).size + 4 := by omega
        go_wp2
        go_ret
        exact ⟨by rw [HSS.out, if_pos (by simp)]; rfl, HB0.out.trans (HB.out.mono HB0.out.size)⟩
  · have hzz : (0 : Int) < (g.terms.length : Int) := by omega
    rw [if_neg hz] at HTK
    have htt := HTK.out
    clear hz HTK
    go_wp2_with fail
    go_loop [3, 4] (fun s i => ∃ k : Nat, k ≤ g.terms.length ∧ i = .int .i64 k ∧ s = .string (⟨#[37, 116, 111, 107, 101, 110]⟩ ++ blanksB (g.terms.take k))) (fun _ i => g.terms.length - (intOf i).toNat)
    case atStart => exact ⟨0, Nat.zero_le _, rfl, by rw [show (⟨#[37, 116, 111, 107, 101, 110]⟩ : ByteArray) ++ blanksB (g.terms.take 0) = ⟨#[37, 116, 111, 107, 101, 110]⟩ from ByteArray.append_empty]⟩
    case round =>
      obtain ⟨k, hk, rfl, rfl⟩ := hrel
      by_cases hkl : k < g.terms.length
      · have hkz : (k : Int) < (g.terms.length : Int) := by omega
        obtain ⟨ad, rfl, l2⟩ := at_str (Kd.C_below HT.out (HB0.out.trans (HBT.out.mono HB0.out.size))) k hkl
        have hys := HTZ.out k hkl
        have hbs := HTS.out k
        have HBT2 := Aside0.mk (blanks_take hkl)
        obtain ⟨y, hy⟩ : ∃ y, g.terms.getD k default = y := ⟨_, rfl⟩
        rw [hy] at l2 hys HBT2
        clear hy
        generalize blanksB (g.terms.take k) = s at *
        have z1 : ¬ 9223372036854775807 < 6 + s.size + 1 := by omega
        have z2 : ¬ 9223372036854775807 < 6 + s.size + 1 + y.size := by omega
        go_wp2
        go_round
        case rel => exact ⟨k + 1, by omega, by go_num, by rw [HBT2.out, ← ByteArray.append_assoc, ← ByteArray.append_assoc]⟩
        case measure => simp [intOf]; omega
      · have hkz : ¬ (k : Int) < (g.terms.length : Int) := by omega
        obtain rfl : k = g.terms.length := by omega
        rw [List.take_length] at *
        have hbs := HTS.out g.terms.length
        rw [List.take_length] at hbs
        have z1 : ¬ 9223372036854775807 < 6 + (blanksB g.terms).size + 1 := by omega
        have HTT := Aside0.mk htt
        clear htt
        go_wp2_with fail
        rw [← HTT.out]
        refine (K3.out _ HBT.out).mono ?_
        rintro e w4 ⟨rfl, hb4⟩
        have HB4 := Aside0.mk (HBT.out.trans (hb4.mono HBT.out.size))
        clear hb4 f0 f1 f2 f3 HBT
        go_wp2
        go_loopw [3, 5] (fun s i wr => ∃ k : Nat, k ≤ g.rules.length ∧ i = .int .i64 k ∧ Aside0 (Below W0.heap.size W0 wr) ∧ s = .string (g.headB ++ g.bodyB k)) (fun _ i _ => g.rules.length - (intOf i).toNat)
        case atStart => exact ⟨0, Nat.zero_le _, rfl, HB4, congrArg Value.string HHD.out⟩
        case round =>
          clear HB4
          obtain ⟨k, hk, rfl, HB, rfl⟩ := hrel
          by_cases hkl : k < g.rules.length
          · have hkz : (k : Int) < (g.rules.length : Int) := by omega
            have hbd := HS.out.body k
            have hbk : k * 20003000000 ≤ 1000 * 20003000000 := Nat.mul_le_mul_right _ (by omega)
            have hrr := getD_rule HS.out k
            have hri := HS.out.rightB hrr
            have hru := HS.out.ruleB hrr
            have HPC := Aside0.mk (show g.headB ++ g.bodyB (k + 1) = (g.headB ++ g.bodyB k) ++ g.pieceB k from by
              show g.headB ++ (g.bodyB k ++ g.pieceB k) = _
              rw [ByteArray.append_assoc])
            have HPD : Aside0 (g.pieceB k = if 0 < k ∧ g.leftOf (k - 1) = g.leftOf k then ⟨#[10, 9, 124]⟩ ++ g.rightB (g.rules.getD k default) else (if 0 < k then (⟨#[10, 9, 59, 10]⟩ : ByteArray) else ⟨#[]⟩) ++ g.ruleB (g.rules.getD k default)) := ⟨rfl⟩
            have hsz : (g.headB ++ g.bodyB k).size ≤ 30000000000000 := by rw [ByteArray.size_append]; omega
            have hk1000 : k ≤ 1000 := by omega
            clear hbd hbk
            have HRW := Aside0.mk (Kd.C_below HR.out (HB0.out.trans (HB.out.mono HB0.out.size)))
            obtain ⟨ad, Ar, cr, hA, _, _, q3, q4⟩ := at_rl HR.out k hkl
            have hla := World.block_lt_of_cell? _ _ (by assumption : w.cell? (ad.add (k * 2)) = _)
            have k1 := (‹w.cell? (ad.add (k * 2)) = _›)
            have k2 := (‹w.cell? ⟨(ad.add (k * 2)).block, (ad.add (k * 2)).off + 1, none⟩ = _›)
            have hbw : ∀ W, Below wr.heap.size wr W → Below w.heap.size w W := fun W hb => (HB0.out.trans (HB.out.mono HB0.out.size)).trans (hb.mono (HB0.out.trans (HB.out.mono HB0.out.size)).size)
            have hb0W : ∀ W, Below wr.heap.size wr W → Below W0.heap.size W0 W := fun W hb => HB.out.trans (hb.mono HB.out.size)
            have hrt : (g.rules.getD k default).left = g.leftOf k := rfl
            obtain ⟨x, hx⟩ : ∃ x, g.rules.getD k default = x := ⟨_, rfl⟩
            rw [hx] at k1 k2 q4 hrr hri hru HPD hrt
            have KEY : Aside0 (∀ W, Below wr.heap.size wr W → (W.cell? ⟨w.heap.size, 0, none⟩ = some (.slice A0 g.terms.length c0) ∧ W.cell? ⟨w.heap.size, 1, none⟩ = some (.slice A1 g.nons.length c1) ∧ W.cell? ⟨w.heap.size, 2, none⟩ = some (.slice A2 g.rules.length c2) ∧ W.cell? ⟨w.heap.size, 3, none⟩ = some (.int .i64 g.start)) ∧ W.cell? (ad.add (k * 2)) = some (.int .i64 x.left) ∧ W.cell? ⟨(ad.add (k * 2)).block, (ad.add (k * 2)).off + 1, none⟩ = some (.slice Ar x.right.length cr)) :=
              ⟨fun W hb => ⟨GC.out W (hb0W W hb), ((hbw W hb).cell (p := ad.add (k * 2)) hla).trans k1, ((hbw W hb).cell (p := ⟨(ad.add (k * 2)).block, (ad.add (k * 2)).off + 1, none⟩) hla).trans k2⟩⟩
            have HX := Aside0.mk hx
            have HBW := Aside0.mk hbw
            have HB0W := Aside0.mk hb0W
            have Q4 := Aside0.mk q4
            have HRT := Aside0.mk hrt
            subst hA
            clear hx hbw hb0W q4 hrt q3 k1 k2 hla
            generalize g.headB ++ g.bodyB k = s at *
            rcases Nat.eq_zero_or_pos k with hk0 | hk0
            · have hkn : ¬ (0 : Int) < (k : Int) := by omega
              have hkn2 : ¬ 0 < k := by omega
              rw [if_neg (by omega), if_neg (by omega)] at HPD
              have K5x := Aside0.mk (fun W hb => K5.out W Ar cr x hb Q4.out hrr)
              generalize g.ruleB x = rb at *
              have z1 : ¬ 9223372036854775807 < s.size + rb.size := by omega
              obtain ⟨⟨f0, f1, f2, f3⟩, f4, f5⟩ := KEY.out wr (Below.refl _ _)
              clear hk0 hk
              go_wp2
              clear f0 f1 f2 f3 f4 f5
              refine wp_region_det (vs := [?d7xv0, ?d7xv1, ?d7xv2, ?d7xv3, ?d7xv4, ?d7xv5, ?d7xv6, ?d7xv7, ?d7xv8, ?d7xv9, ?d7xv10, ?d7xv11, ?d7xv12, ?d7xv13, ?d7xv14, ?d7xv15, ?d7xv16, ?d7xv17]) (fun w' => Below wr.heap.size wr w') rfl (by kernel_rfl) (putAll_put (by simp only [Act.put, List.setIfInBounds_toArray, List.set_cons_zero, List.set_cons_succ]; rfl) (putAll_put (by simp only [Act.put, List.setIfInBounds_toArray, List.set_cons_zero, List.set_cons_succ]; rfl) (putAll_put (by simp only [Act.put, List.setIfInBounds_toArray, List.set_cons_zero, List.set_cons_succ]; rfl) (putAll_put (by simp only [Act.put, List.setIfInBounds_toArray, List.set_cons_zero, List.set_cons_succ]; rfl) (putAll_put (by simp only [Act.put, List.setIfInBounds_toArray, List.set_cons_zero, List.set_cons_succ]; rfl) (putAll_put (by simp only [Act.put, List.setIfInBounds_toArray, List.set_cons_zero, List.set_cons_succ]; rfl) (putAll_put (by simp only [Act.put, List.setIfInBounds_toArray, List.set_cons_zero, List.set_cons_succ]; rfl) (putAll_put (by simp only [Act.put, List.setIfInBounds_toArray, List.set_cons_zero, List.set_cons_succ]; rfl) (putAll_put (by simp only [Act.put, List.setIfInBounds_toArray, List.set_cons_zero, List.set_cons_succ]; rfl) (putAll_put (by simp only [Act.put, List.setIfInBounds_toArray, List.set_cons_zero, List.set_cons_succ]; rfl) (putAll_put (by simp only [Act.put, List.setIfInBounds_toArray, List.set_cons_zero, List.set_cons_succ]; rfl) (putAll_put (by simp only [Act.put, List.setIfInBounds_toArray, List.set_cons_zero, List.set_cons_succ]; rfl) (putAll_put (by simp only [Act.put, List.setIfInBounds_toArray, List.set_cons_zero, List.set_cons_succ]; rfl) (putAll_put (by simp only [Act.put, List.setIfInBounds_toArray, List.set_cons_zero, List.set_cons_succ]; rfl) (putAll_put (by simp only [Act.put, List.setIfInBounds_toArray, List.set_cons_zero, List.set_cons_succ]; rfl) (putAll_put (by simp only [Act.put, List.setIfInBounds_toArray, List.set_cons_zero, List.set_cons_succ]; rfl) (putAll_put (by simp only [Act.put, List.setIfInBounds_toArray, List.set_cons_zero, List.set_cons_succ]; rfl) (putAll_put (by simp only [Act.put, List.setIfInBounds_toArray, List.set_cons_zero, List.set_cons_succ]; rfl) (putAll_nil _))))))))))))))))))) (below_drew (Below.refl _ _)) ?d7xOps ?d7xFin
              case d7xOps =>
                refine ⟨fun w' hw => ?d7xo0, fun w' hw => ?d7xo1, fun w' hw => ?d7xo2, fun w' hw => ?d7xo3, fun w' hw => ?d7xo4, fun w' hw => ?d7xo5, fun w' hw => ?d7xo6, fun w' hw => ?d7xo7, fun w' hw => ?d7xo8, fun w' hw => ?d7xo9, fun w' hw => ?d7xo10, fun w' hw => ?d7xo11, fun w' hw => ?d7xo12, fun w' hw => ?d7xo13, fun w' hw => ?d7xo14, fun w' hw => ?d7xo15, fun w' hw => ?d7xo16, fun w' hw => ?d7xo17, trivial⟩
                case d7xo0 => obtain ⟨⟨f0, f1, f2, f3⟩, f4, f5⟩ := KEY.out w' hw; go_simp; rfl
                case d7xo1 => obtain ⟨⟨f0, f1, f2, f3⟩, f4, f5⟩ := KEY.out w' hw; go_simp; rfl
                case d7xo2 => obtain ⟨⟨f0, f1, f2, f3⟩, f4, f5⟩ := KEY.out w' hw; go_simp; rfl
                case d7xo3 => obtain ⟨⟨f0, f1, f2, f3⟩, f4, f5⟩ := KEY.out w' hw; go_simp; rfl
                case d7xo4 => obtain ⟨⟨f0, f1, f2, f3⟩, f4, f5⟩ := KEY.out w' hw; go_simp; rfl
                case d7xo5 => obtain ⟨⟨f0, f1, f2, f3⟩, f4, f5⟩ := KEY.out w' hw; go_simp; rfl
                case d7xo6 => obtain ⟨⟨f0, f1, f2, f3⟩, f4, f5⟩ := KEY.out w' hw; go_simp; rfl
                case d7xo7 => obtain ⟨⟨f0, f1, f2, f3⟩, f4, f5⟩ := KEY.out w' hw; go_simp; rfl
                case d7xo8 => obtain ⟨⟨f0, f1, f2, f3⟩, f4, f5⟩ := KEY.out w' hw; go_simp; rfl
                case d7xo9 => obtain ⟨⟨f0, f1, f2, f3⟩, f4, f5⟩ := KEY.out w' hw; go_simp; rfl
                case d7xo10 => obtain ⟨⟨f0, f1, f2, f3⟩, f4, f5⟩ := KEY.out w' hw; go_simp; rfl
                case d7xo11 => obtain ⟨⟨f0, f1, f2, f3⟩, f4, f5⟩ := KEY.out w' hw; go_simp; rfl
                case d7xo12 => obtain ⟨⟨f0, f1, f2, f3⟩, f4, f5⟩ := KEY.out w' hw; go_simp; rfl
                case d7xo13 => obtain ⟨⟨f0, f1, f2, f3⟩, f4, f5⟩ := KEY.out w' hw; go_simp; rfl
                case d7xo14 => obtain ⟨⟨f0, f1, f2, f3⟩, f4, f5⟩ := KEY.out w' hw; go_simp; rfl
                case d7xo15 => obtain ⟨⟨f0, f1, f2, f3⟩, f4, f5⟩ := KEY.out w' hw; go_simp; rfl
                case d7xo16 => obtain ⟨⟨f0, f1, f2, f3⟩, f4, f5⟩ := KEY.out w' hw; go_simp; rfl
                case d7xo17 => obtain ⟨⟨f0, f1, f2, f3⟩, f4, f5⟩ := KEY.out w' hw; go_simp; rfl
              case d7xFin =>
                intro w5 hw5
                go_wp2
                refine wp_region_det2 (vs := [?d8xv0, ?d8xv1, ?d8xv2, ?d8xv3, ?d8xv4, ?d8xv5, ?d8xv6, ?d8xv7, ?d8xv8]) (fun w' => Below wr.heap.size wr w') rfl (by kernel_rfl) rfl rfl rfl (putAll_put (by simp only [Act.put, List.setIfInBounds_toArray, List.set_cons_zero, List.set_cons_succ]; rfl) (putAll_put (by simp only [Act.put, List.setIfInBounds_toArray, List.set_cons_zero, List.set_cons_succ]; rfl) (putAll_put (by simp only [Act.put, List.setIfInBounds_toArray, List.set_cons_zero, List.set_cons_succ]; rfl) (putAll_put (by simp only [Act.put, List.setIfInBounds_toArray, List.set_cons_zero, List.set_cons_succ]; rfl) (putAll_put (by simp only [Act.put, List.setIfInBounds_toArray, List.set_cons_zero, List.set_cons_succ]; rfl) (putAll_put (by simp only [Act.put, List.setIfInBounds_toArray, List.set_cons_zero, List.set_cons_succ]; rfl) (putAll_put (by simp only [Act.put, List.setIfInBounds_toArray, List.set_cons_zero, List.set_cons_succ]; rfl) (putAll_put (by simp only [Act.put, List.setIfInBounds_toArray, List.set_cons_zero, List.set_cons_succ]; rfl) (putAll_put (by simp only [Act.put, List.setIfInBounds_toArray, List.set_cons_zero, List.set_cons_succ]; rfl) (putAll_nil _)))))))))) (by go_simp; rfl) (below_drew1 hw5) ?d8xOps ?d8xFin
                case d8xOps =>
                  refine ⟨fun w' hw => ?d8xo0, fun w' hw => ?d8xo1, fun w' hw => ?d8xo2, fun w' hw => ?d8xo3, fun w' hw => ?d8xo4, fun w' hw => ?d8xo5, fun w' hw => ?d8xo6, fun w' hw => ?d8xo7, fun w' hw => ?d8xo8, trivial⟩
                  case d8xo0 => obtain ⟨⟨f0, f1, f2, f3⟩, f4, f5⟩ := KEY.out w' hw; go_simp; rfl
                  case d8xo1 => obtain ⟨⟨f0, f1, f2, f3⟩, f4, f5⟩ := KEY.out w' hw; go_simp; rfl
                  case d8xo2 => obtain ⟨⟨f0, f1, f2, f3⟩, f4, f5⟩ := KEY.out w' hw; go_simp; rfl
                  case d8xo3 => obtain ⟨⟨f0, f1, f2, f3⟩, f4, f5⟩ := KEY.out w' hw; go_simp; rfl
                  case d8xo4 => obtain ⟨⟨f0, f1, f2, f3⟩, f4, f5⟩ := KEY.out w' hw; go_simp; rfl
                  case d8xo5 => obtain ⟨⟨f0, f1, f2, f3⟩, f4, f5⟩ := KEY.out w' hw; go_simp; rfl
                  case d8xo6 => obtain ⟨⟨f0, f1, f2, f3⟩, f4, f5⟩ := KEY.out w' hw; go_simp; rfl
                  case d8xo7 => obtain ⟨⟨f0, f1, f2, f3⟩, f4, f5⟩ := KEY.out w' hw; (go_simp; refine (K5x.out w' (HB0W.out w' hw)).mono ?_; rintro e w2 ⟨rfl, hb2⟩; exact ⟨by rfl, hw.trans (hb2.mono hw.size)⟩)
                  case d8xo8 => obtain ⟨⟨f0, f1, f2, f3⟩, f4, f5⟩ := KEY.out w' hw; go_simp; rfl
                case d8xFin =>
                  intro w6 hw6
                  go_wp2
                  go_roundw
                  case rel => exact ⟨k + 1, by omega, by go_num, ⟨HB0W.out _ hw6⟩, by rw [HPC.out, HPD.out]; rw [show (⟨#[]⟩ : ByteArray) ++ rb = rb from ByteArray.empty_append]⟩
                  case measure => simp [intOf]; omega
            · obtain ⟨m, rfl⟩ : ∃ m, k = m + 1 := ⟨k - 1, by omega⟩
              obtain ⟨ad', Am, cm, hA', _, _, _, _⟩ := at_rl HR.out m (by omega)
              obtain rfl : ad = ad' := Option.some.inj hA'
              have p1 := (‹w.cell? (ad.add (m * 2)) = _›)
              have hml : (g.rules.getD m default).left = g.leftOf m := rfl
              rw [hml] at p1
              have hlm := World.block_lt_of_cell? _ _ p1
              have KEY2 : Aside0 (∀ W, Below wr.heap.size wr W → W.cell? (ad.add (m * 2)) = some (.int .i64 (g.leftOf m))) := ⟨fun W hb => ((HBW.out W hb).cell (p := ad.add (m * 2)) hlm).trans p1⟩
              have hmz : (m : Int) < (g.rules.length : Int) := by omega
              have hkp : (0 : Int) < (m : Int) + 1 := by omega
              have hkp2 : (0 : Int) ≤ (m : Int) + 1 := by omega
              have hwm : IntKind.i64.wrap (m : Int) = (m : Int) := IntWalk.i64_in _ (by omega)
              have hwm1 : IntKind.i64.wrap ((m : Int) + 1) = (m : Int) + 1 := IntWalk.i64_in _ (by omega)
              rw [show m + 1 - 1 = m from rfl] at HPD
              by_cases hcase : g.leftOf m = g.leftOf (m + 1)
              · rw [if_pos ⟨by omega, hcase⟩] at HPD
                have hq : (g.leftOf m == x.left) = true := by rw [hcase, ← HRT.out]; exact beq_self_eq_true _
                have K4x := Aside0.mk (fun W hb => K4.out W Ar cr x hb Q4.out hrr)
                generalize g.rightB x = rb at *
                have z1 : ¬ 9223372036854775807 < s.size + 3 := by omega
                have z2 : ¬ 9223372036854775807 < s.size + 3 + rb.size := by omega
                obtain ⟨⟨f0, f1, f2, f3⟩, f4, f5⟩ := KEY.out wr (Below.refl _ _)
                clear hk0 hk hcase hml p1 hlm
                go_wp2
                clear f0 f1 f2 f3 f4 f5
                refine wp_region_det (vs := [?d9xv0, ?d9xv1, ?d9xv2, ?d9xv3, ?d9xv4, ?d9xv5, ?d9xv6, ?d9xv7, ?d9xv8, ?d9xv9, ?d9xv10, ?d9xv11, ?d9xv12, ?d9xv13, ?d9xv14, ?d9xv15, ?d9xv16, ?d9xv17]) (fun w' => Below wr.heap.size wr w') rfl (by kernel_rfl) (putAll_put (by simp only [Act.put, List.setIfInBounds_toArray, List.set_cons_zero, List.set_cons_succ]; rfl) (putAll_put (by simp only [Act.put, List.setIfInBounds_toArray, List.set_cons_zero, List.set_cons_succ]; rfl) (putAll_put (by simp only [Act.put, List.setIfInBounds_toArray, List.set_cons_zero, List.set_cons_succ]; rfl) (putAll_put (by simp only [Act.put, List.setIfInBounds_toArray, List.set_cons_zero, List.set_cons_succ]; rfl) (putAll_put (by simp only [Act.put, List.setIfInBounds_toArray, List.set_cons_zero, List.set_cons_succ]; rfl) (putAll_put (by simp only [Act.put, List.setIfInBounds_toArray, List.set_cons_zero, List.set_cons_succ]; rfl) (putAll_put (by simp only [Act.put, List.setIfInBounds_toArray, List.set_cons_zero, List.set_cons_succ]; rfl) (putAll_put (by simp only [Act.put, List.setIfInBounds_toArray, List.set_cons_zero, List.set_cons_succ]; rfl) (putAll_put (by simp only [Act.put, List.setIfInBounds_toArray, List.set_cons_zero, List.set_cons_succ]; rfl) (putAll_put (by simp only [Act.put, List.setIfInBounds_toArray, List.set_cons_zero, List.set_cons_succ]; rfl) (putAll_put (by simp only [Act.put, List.setIfInBounds_toArray, List.set_cons_zero, List.set_cons_succ]; rfl) (putAll_put (by simp only [Act.put, List.setIfInBounds_toArray, List.set_cons_zero, List.set_cons_succ]; rfl) (putAll_put (by simp only [Act.put, List.setIfInBounds_toArray, List.set_cons_zero, List.set_cons_succ]; rfl) (putAll_put (by simp only [Act.put, List.setIfInBounds_toArray, List.set_cons_zero, List.set_cons_succ]; rfl) (putAll_put (by simp only [Act.put, List.setIfInBounds_toArray, List.set_cons_zero, List.set_cons_succ]; rfl) (putAll_put (by simp only [Act.put, List.setIfInBounds_toArray, List.set_cons_zero, List.set_cons_succ]; rfl) (putAll_put (by simp only [Act.put, List.setIfInBounds_toArray, List.set_cons_zero, List.set_cons_succ]; rfl) (putAll_put (by simp only [Act.put, List.setIfInBounds_toArray, List.set_cons_zero, List.set_cons_succ]; rfl) (putAll_nil _))))))))))))))))))) (below_drew (Below.refl _ _)) ?d9xOps ?d9xFin
                case d9xOps =>
                  refine ⟨fun w' hw => ?d9xo0, fun w' hw => ?d9xo1, fun w' hw => ?d9xo2, fun w' hw => ?d9xo3, fun w' hw => ?d9xo4, fun w' hw => ?d9xo5, fun w' hw => ?d9xo6, fun w' hw => ?d9xo7, fun w' hw => ?d9xo8, fun w' hw => ?d9xo9, fun w' hw => ?d9xo10, fun w' hw => ?d9xo11, fun w' hw => ?d9xo12, fun w' hw => ?d9xo13, fun w' hw => ?d9xo14, fun w' hw => ?d9xo15, fun w' hw => ?d9xo16, fun w' hw => ?d9xo17, trivial⟩
                  case d9xo0 => (obtain ⟨⟨f0, f1, f2, f3⟩, f4, f5⟩ := KEY.out w' hw; have f6 := KEY2.out w' hw); go_simp; rfl
                  case d9xo1 => (obtain ⟨⟨f0, f1, f2, f3⟩, f4, f5⟩ := KEY.out w' hw; have f6 := KEY2.out w' hw); go_simp; rfl
                  case d9xo2 => (obtain ⟨⟨f0, f1, f2, f3⟩, f4, f5⟩ := KEY.out w' hw; have f6 := KEY2.out w' hw); go_simp; rfl
                  case d9xo3 => (obtain ⟨⟨f0, f1, f2, f3⟩, f4, f5⟩ := KEY.out w' hw; have f6 := KEY2.out w' hw); go_simp; rfl
                  case d9xo4 => (obtain ⟨⟨f0, f1, f2, f3⟩, f4, f5⟩ := KEY.out w' hw; have f6 := KEY2.out w' hw); go_simp; rfl
                  case d9xo5 => (obtain ⟨⟨f0, f1, f2, f3⟩, f4, f5⟩ := KEY.out w' hw; have f6 := KEY2.out w' hw); go_simp; rfl
                  case d9xo6 => (obtain ⟨⟨f0, f1, f2, f3⟩, f4, f5⟩ := KEY.out w' hw; have f6 := KEY2.out w' hw); go_simp; rfl
                  case d9xo7 => (obtain ⟨⟨f0, f1, f2, f3⟩, f4, f5⟩ := KEY.out w' hw; have f6 := KEY2.out w' hw); go_simp; rfl
                  case d9xo8 => (obtain ⟨⟨f0, f1, f2, f3⟩, f4, f5⟩ := KEY.out w' hw; have f6 := KEY2.out w' hw); go_simp; rfl
                  case d9xo9 => (obtain ⟨⟨f0, f1, f2, f3⟩, f4, f5⟩ := KEY.out w' hw; have f6 := KEY2.out w' hw); go_simp; rfl
                  case d9xo10 => (obtain ⟨⟨f0, f1, f2, f3⟩, f4, f5⟩ := KEY.out w' hw; have f6 := KEY2.out w' hw); go_simp; rfl
                  case d9xo11 => (obtain ⟨⟨f0, f1, f2, f3⟩, f4, f5⟩ := KEY.out w' hw; have f6 := KEY2.out w' hw); go_simp; rfl
                  case d9xo12 => (obtain ⟨⟨f0, f1, f2, f3⟩, f4, f5⟩ := KEY.out w' hw; have f6 := KEY2.out w' hw); go_simp; rfl
                  case d9xo13 => (obtain ⟨⟨f0, f1, f2, f3⟩, f4, f5⟩ := KEY.out w' hw; have f6 := KEY2.out w' hw); go_simp; rfl
                  case d9xo14 => (obtain ⟨⟨f0, f1, f2, f3⟩, f4, f5⟩ := KEY.out w' hw; have f6 := KEY2.out w' hw); go_simp; rfl
                  case d9xo15 => (obtain ⟨⟨f0, f1, f2, f3⟩, f4, f5⟩ := KEY.out w' hw; have f6 := KEY2.out w' hw); go_simp; rfl
                  case d9xo16 => (obtain ⟨⟨f0, f1, f2, f3⟩, f4, f5⟩ := KEY.out w' hw; have f6 := KEY2.out w' hw); go_simp; rfl
                  case d9xo17 => (obtain ⟨⟨f0, f1, f2, f3⟩, f4, f5⟩ := KEY.out w' hw; have f6 := KEY2.out w' hw); go_simp; rfl
                case d9xFin =>
                  intro w5 hw5
                  go_wp2
                  refine wp_region_det2 (vs := [?d10xv0, ?d10xv1, ?d10xv2, ?d10xv3, ?d10xv4, ?d10xv5, ?d10xv6, ?d10xv7, ?d10xv8, ?d10xv9]) (fun w' => Below wr.heap.size wr w') rfl (by kernel_rfl) rfl rfl rfl (putAll_put (by simp only [Act.put, List.setIfInBounds_toArray, List.set_cons_zero, List.set_cons_succ]; rfl) (putAll_put (by simp only [Act.put, List.setIfInBounds_toArray, List.set_cons_zero, List.set_cons_succ]; rfl) (putAll_put (by simp only [Act.put, List.setIfInBounds_toArray, List.set_cons_zero, List.set_cons_succ]; rfl) (putAll_put (by simp only [Act.put, List.setIfInBounds_toArray, List.set_cons_zero, List.set_cons_succ]; rfl) (putAll_put (by simp only [Act.put, List.setIfInBounds_toArray, List.set_cons_zero, List.set_cons_succ]; rfl) (putAll_put (by simp only [Act.put, List.setIfInBounds_toArray, List.set_cons_zero, List.set_cons_succ]; rfl) (putAll_put (by simp only [Act.put, List.setIfInBounds_toArray, List.set_cons_zero, List.set_cons_succ]; rfl) (putAll_put (by simp only [Act.put, List.setIfInBounds_toArray, List.set_cons_zero, List.set_cons_succ]; rfl) (putAll_put (by simp only [Act.put, List.setIfInBounds_toArray, List.set_cons_zero, List.set_cons_succ]; rfl) (putAll_put (by simp only [Act.put, List.setIfInBounds_toArray, List.set_cons_zero, List.set_cons_succ]; rfl) (putAll_nil _))))))))))) (by go_simp; rfl) (below_drew1 hw5) ?d10xOps ?d10xFin
                  case d10xOps =>
                    refine ⟨fun w' hw => ?d10xo0, fun w' hw => ?d10xo1, fun w' hw => ?d10xo2, fun w' hw => ?d10xo3, fun w' hw => ?d10xo4, fun w' hw => ?d10xo5, fun w' hw => ?d10xo6, fun w' hw => ?d10xo7, fun w' hw => ?d10xo8, fun w' hw => ?d10xo9, trivial⟩
                    case d10xo0 => obtain ⟨⟨f0, f1, f2, f3⟩, f4, f5⟩ := KEY.out w' hw; go_simp; rfl
                    case d10xo1 => obtain ⟨⟨f0, f1, f2, f3⟩, f4, f5⟩ := KEY.out w' hw; go_simp; rfl
                    case d10xo2 => obtain ⟨⟨f0, f1, f2, f3⟩, f4, f5⟩ := KEY.out w' hw; go_simp; rfl
                    case d10xo3 => obtain ⟨⟨f0, f1, f2, f3⟩, f4, f5⟩ := KEY.out w' hw; go_simp; rfl
                    case d10xo4 => obtain ⟨⟨f0, f1, f2, f3⟩, f4, f5⟩ := KEY.out w' hw; go_simp; rfl
                    case d10xo5 => obtain ⟨⟨f0, f1, f2, f3⟩, f4, f5⟩ := KEY.out w' hw; go_simp; rfl
                    case d10xo6 => obtain ⟨⟨f0, f1, f2, f3⟩, f4, f5⟩ := KEY.out w' hw; go_simp; rfl
                    case d10xo7 => obtain ⟨⟨f0, f1, f2, f3⟩, f4, f5⟩ := KEY.out w' hw; go_simp; rfl
                    case d10xo8 => obtain ⟨⟨f0, f1, f2, f3⟩, f4, f5⟩ := KEY.out w' hw; (go_simp; refine (K4x.out w' (HB0W.out w' hw)).mono ?_; rintro e w2 ⟨rfl, hb2⟩; exact ⟨by rfl, hw.trans (hb2.mono hw.size)⟩)
                    case d10xo9 => obtain ⟨⟨f0, f1, f2, f3⟩, f4, f5⟩ := KEY.out w' hw; go_simp; rfl
                  case d10xFin =>
                    intro w6 hw6
                    go_wp2
                    go_roundw
                    case rel => exact ⟨m + 1 + 1, by omega, by go_num, ⟨HB0W.out _ hw6⟩, by rw [HPC.out, HPD.out, ← ByteArray.append_assoc]⟩
                    case measure => simp [intOf]; omega
              · rw [if_neg (fun h => hcase h.2), if_pos (by omega)] at HPD
                have hq : (g.leftOf m == x.left) = false := beq_false_of_ne (by rw [HRT.out]; exact hcase)
                have K5x := Aside0.mk (fun W hb => K5.out W Ar cr x hb Q4.out hrr)
                generalize g.ruleB x = rb at *
                have z1 : ¬ 9223372036854775807 < s.size + 4 := by omega
                have z2 : ¬ 9223372036854775807 < s.size + 4 + rb.size := by omega
                obtain ⟨⟨f0, f1, f2, f3⟩, f4, f5⟩ := KEY.out wr (Below.refl _ _)
                clear hk0 hk hcase hml p1 hlm
                go_wp2
                clear f0 f1 f2 f3 f4 f5
                refine wp_region_det (vs := [?d11xv0, ?d11xv1, ?d11xv2, ?d11xv3, ?d11xv4, ?d11xv5, ?d11xv6, ?d11xv7, ?d11xv8, ?d11xv9, ?d11xv10, ?d11xv11, ?d11xv12, ?d11xv13, ?d11xv14, ?d11xv15, ?d11xv16, ?d11xv17]) (fun w' => Below wr.heap.size wr w') rfl (by kernel_rfl) (putAll_put (by simp only [Act.put, List.setIfInBounds_toArray, List.set_cons_zero, List.set_cons_succ]; rfl) (putAll_put (by simp only [Act.put, List.setIfInBounds_toArray, List.set_cons_zero, List.set_cons_succ]; rfl) (putAll_put (by simp only [Act.put, List.setIfInBounds_toArray, List.set_cons_zero, List.set_cons_succ]; rfl) (putAll_put (by simp only [Act.put, List.setIfInBounds_toArray, List.set_cons_zero, List.set_cons_succ]; rfl) (putAll_put (by simp only [Act.put, List.setIfInBounds_toArray, List.set_cons_zero, List.set_cons_succ]; rfl) (putAll_put (by simp only [Act.put, List.setIfInBounds_toArray, List.set_cons_zero, List.set_cons_succ]; rfl) (putAll_put (by simp only [Act.put, List.setIfInBounds_toArray, List.set_cons_zero, List.set_cons_succ]; rfl) (putAll_put (by simp only [Act.put, List.setIfInBounds_toArray, List.set_cons_zero, List.set_cons_succ]; rfl) (putAll_put (by simp only [Act.put, List.setIfInBounds_toArray, List.set_cons_zero, List.set_cons_succ]; rfl) (putAll_put (by simp only [Act.put, List.setIfInBounds_toArray, List.set_cons_zero, List.set_cons_succ]; rfl) (putAll_put (by simp only [Act.put, List.setIfInBounds_toArray, List.set_cons_zero, List.set_cons_succ]; rfl) (putAll_put (by simp only [Act.put, List.setIfInBounds_toArray, List.set_cons_zero, List.set_cons_succ]; rfl) (putAll_put (by simp only [Act.put, List.setIfInBounds_toArray, List.set_cons_zero, List.set_cons_succ]; rfl) (putAll_put (by simp only [Act.put, List.setIfInBounds_toArray, List.set_cons_zero, List.set_cons_succ]; rfl) (putAll_put (by simp only [Act.put, List.setIfInBounds_toArray, List.set_cons_zero, List.set_cons_succ]; rfl) (putAll_put (by simp only [Act.put, List.setIfInBounds_toArray, List.set_cons_zero, List.set_cons_succ]; rfl) (putAll_put (by simp only [Act.put, List.setIfInBounds_toArray, List.set_cons_zero, List.set_cons_succ]; rfl) (putAll_put (by simp only [Act.put, List.setIfInBounds_toArray, List.set_cons_zero, List.set_cons_succ]; rfl) (putAll_nil _))))))))))))))))))) (below_drew (Below.refl _ _)) ?d11xOps ?d11xFin
                case d11xOps =>
                  refine ⟨fun w' hw => ?d11xo0, fun w' hw => ?d11xo1, fun w' hw => ?d11xo2, fun w' hw => ?d11xo3, fun w' hw => ?d11xo4, fun w' hw => ?d11xo5, fun w' hw => ?d11xo6, fun w' hw => ?d11xo7, fun w' hw => ?d11xo8, fun w' hw => ?d11xo9, fun w' hw => ?d11xo10, fun w' hw => ?d11xo11, fun w' hw => ?d11xo12, fun w' hw => ?d11xo13, fun w' hw => ?d11xo14, fun w' hw => ?d11xo15, fun w' hw => ?d11xo16, fun w' hw => ?d11xo17, trivial⟩
                  case d11xo0 => (obtain ⟨⟨f0, f1, f2, f3⟩, f4, f5⟩ := KEY.out w' hw; have f6 := KEY2.out w' hw); go_simp; rfl
                  case d11xo1 => (obtain ⟨⟨f0, f1, f2, f3⟩, f4, f5⟩ := KEY.out w' hw; have f6 := KEY2.out w' hw); go_simp; rfl
                  case d11xo2 => (obtain ⟨⟨f0, f1, f2, f3⟩, f4, f5⟩ := KEY.out w' hw; have f6 := KEY2.out w' hw); go_simp; rfl
                  case d11xo3 => (obtain ⟨⟨f0, f1, f2, f3⟩, f4, f5⟩ := KEY.out w' hw; have f6 := KEY2.out w' hw); go_simp; rfl
                  case d11xo4 => (obtain ⟨⟨f0, f1, f2, f3⟩, f4, f5⟩ := KEY.out w' hw; have f6 := KEY2.out w' hw); go_simp; rfl
                  case d11xo5 => (obtain ⟨⟨f0, f1, f2, f3⟩, f4, f5⟩ := KEY.out w' hw; have f6 := KEY2.out w' hw); go_simp; rfl
                  case d11xo6 => (obtain ⟨⟨f0, f1, f2, f3⟩, f4, f5⟩ := KEY.out w' hw; have f6 := KEY2.out w' hw); go_simp; rfl
                  case d11xo7 => (obtain ⟨⟨f0, f1, f2, f3⟩, f4, f5⟩ := KEY.out w' hw; have f6 := KEY2.out w' hw); go_simp; rfl
                  case d11xo8 => (obtain ⟨⟨f0, f1, f2, f3⟩, f4, f5⟩ := KEY.out w' hw; have f6 := KEY2.out w' hw); go_simp; rfl
                  case d11xo9 => (obtain ⟨⟨f0, f1, f2, f3⟩, f4, f5⟩ := KEY.out w' hw; have f6 := KEY2.out w' hw); go_simp; rfl
                  case d11xo10 => (obtain ⟨⟨f0, f1, f2, f3⟩, f4, f5⟩ := KEY.out w' hw; have f6 := KEY2.out w' hw); go_simp; rfl
                  case d11xo11 => (obtain ⟨⟨f0, f1, f2, f3⟩, f4, f5⟩ := KEY.out w' hw; have f6 := KEY2.out w' hw); go_simp; rfl
                  case d11xo12 => (obtain ⟨⟨f0, f1, f2, f3⟩, f4, f5⟩ := KEY.out w' hw; have f6 := KEY2.out w' hw); go_simp; rfl
                  case d11xo13 => (obtain ⟨⟨f0, f1, f2, f3⟩, f4, f5⟩ := KEY.out w' hw; have f6 := KEY2.out w' hw); go_simp; rfl
                  case d11xo14 => (obtain ⟨⟨f0, f1, f2, f3⟩, f4, f5⟩ := KEY.out w' hw; have f6 := KEY2.out w' hw); go_simp; rfl
                  case d11xo15 => (obtain ⟨⟨f0, f1, f2, f3⟩, f4, f5⟩ := KEY.out w' hw; have f6 := KEY2.out w' hw); go_simp; rfl
                  case d11xo16 => (obtain ⟨⟨f0, f1, f2, f3⟩, f4, f5⟩ := KEY.out w' hw; have f6 := KEY2.out w' hw); go_simp; rfl
                  case d11xo17 => (obtain ⟨⟨f0, f1, f2, f3⟩, f4, f5⟩ := KEY.out w' hw; have f6 := KEY2.out w' hw); go_simp; rfl
                case d11xFin =>
                  intro w5 hw5
                  go_wp2
                  refine wp_region_det2 (vs := [?d12xv0, ?d12xv1, ?d12xv2, ?d12xv3, ?d12xv4, ?d12xv5, ?d12xv6, ?d12xv7, ?d12xv8]) (fun w' => Below wr.heap.size wr w') rfl (by kernel_rfl) rfl rfl rfl (putAll_put (by simp only [Act.put, List.setIfInBounds_toArray, List.set_cons_zero, List.set_cons_succ]; rfl) (putAll_put (by simp only [Act.put, List.setIfInBounds_toArray, List.set_cons_zero, List.set_cons_succ]; rfl) (putAll_put (by simp only [Act.put, List.setIfInBounds_toArray, List.set_cons_zero, List.set_cons_succ]; rfl) (putAll_put (by simp only [Act.put, List.setIfInBounds_toArray, List.set_cons_zero, List.set_cons_succ]; rfl) (putAll_put (by simp only [Act.put, List.setIfInBounds_toArray, List.set_cons_zero, List.set_cons_succ]; rfl) (putAll_put (by simp only [Act.put, List.setIfInBounds_toArray, List.set_cons_zero, List.set_cons_succ]; rfl) (putAll_put (by simp only [Act.put, List.setIfInBounds_toArray, List.set_cons_zero, List.set_cons_succ]; rfl) (putAll_put (by simp only [Act.put, List.setIfInBounds_toArray, List.set_cons_zero, List.set_cons_succ]; rfl) (putAll_put (by simp only [Act.put, List.setIfInBounds_toArray, List.set_cons_zero, List.set_cons_succ]; rfl) (putAll_nil _)))))))))) (by go_simp; rfl) (below_drew1 hw5) ?d12xOps ?d12xFin
                  case d12xOps =>
                    refine ⟨fun w' hw => ?d12xo0, fun w' hw => ?d12xo1, fun w' hw => ?d12xo2, fun w' hw => ?d12xo3, fun w' hw => ?d12xo4, fun w' hw => ?d12xo5, fun w' hw => ?d12xo6, fun w' hw => ?d12xo7, fun w' hw => ?d12xo8, trivial⟩
                    case d12xo0 => obtain ⟨⟨f0, f1, f2, f3⟩, f4, f5⟩ := KEY.out w' hw; go_simp; rfl
                    case d12xo1 => obtain ⟨⟨f0, f1, f2, f3⟩, f4, f5⟩ := KEY.out w' hw; go_simp; rfl
                    case d12xo2 => obtain ⟨⟨f0, f1, f2, f3⟩, f4, f5⟩ := KEY.out w' hw; go_simp; rfl
                    case d12xo3 => obtain ⟨⟨f0, f1, f2, f3⟩, f4, f5⟩ := KEY.out w' hw; go_simp; rfl
                    case d12xo4 => obtain ⟨⟨f0, f1, f2, f3⟩, f4, f5⟩ := KEY.out w' hw; go_simp; rfl
                    case d12xo5 => obtain ⟨⟨f0, f1, f2, f3⟩, f4, f5⟩ := KEY.out w' hw; go_simp; rfl
                    case d12xo6 => obtain ⟨⟨f0, f1, f2, f3⟩, f4, f5⟩ := KEY.out w' hw; go_simp; rfl
                    case d12xo7 => obtain ⟨⟨f0, f1, f2, f3⟩, f4, f5⟩ := KEY.out w' hw; (go_simp; refine (K5x.out w' (HB0W.out w' hw)).mono ?_; rintro e w2 ⟨rfl, hb2⟩; exact ⟨by rfl, hw.trans (hb2.mono hw.size)⟩)
                    case d12xo8 => obtain ⟨⟨f0, f1, f2, f3⟩, f4, f5⟩ := KEY.out w' hw; go_simp; rfl
                  case d12xFin =>
                    intro w6 hw6
                    go_wp2
                    go_roundw
                    case rel => exact ⟨m + 1 + 1, by omega, by go_num, ⟨HB0W.out _ hw6⟩, by rw [HPC.out, HPD.out, ← ByteArray.append_assoc]⟩
                    case measure => simp [intOf]; omega
          · have hkz : ¬ (k : Int) < (g.rules.length : Int) := by omega
            obtain rfl : k = g.rules.length := by omega
            obtain ⟨f0, f1, f2, f3⟩ := GC.out _ HB.out
            have hbd := HS.out.body g.rules.length
            have hbk : g.rules.length * 20003000000 ≤ 1000 * 20003000000 := Nat.mul_le_mul_right _ (by omega)
            have hsz : ¬ 9223372036854775807 < g.headB.size + (g.bodyB g.rules.length).size + 4 := by omega
            go_wp2
            go_ret
            exact ⟨by rw [HSS.out, if_pos (by simp)]; rfl, HB0.out.trans (HB.out.mono HB0.out.size)⟩
end
end Go.Proofs.Ytliofoikejdjeaa
