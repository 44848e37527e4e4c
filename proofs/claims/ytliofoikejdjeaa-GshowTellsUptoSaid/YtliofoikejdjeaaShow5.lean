/- Show: the program's. -/
import Derived.Test.YtliofoikejdjeaaShow4
namespace Go.Proofs.Ytliofoikejdjeaa
open Go.RowKit Go.Proofs.YtliofoikejdjeaaW.PrintWords
set_option linter.unusedVariables false
set_option linter.unusedSimpArgs false
theorem Bld.grew {w w' : World} {B b : Nat} {s : ByteArray} (h : Bld w B b s) : b < w.heap.size := by
  obtain ⟨_, _, _, _, h2, _⟩ := h
  exact (Array.getElem?_eq_some_iff.1 h2).1
section
variable {w : World} {A0 A1 A2 : Option Addr} {c0 c1 c2 : Nat} {g : Gm}
set_option maxHeartbeats 8000000 in
theorem gshow_Show (h : GmAt w A0 A1 A2 c0 c1 c2 g) (hs : g.Small) :
    Calls Try.prog 6 #[.agg (gv A0 A1 A2 c0 c1 c2 g)] w fun e w' => e = .returned (.string g.showS) ∧ Below w.heap.size w w' := by
  obtain ⟨W0, hW0⟩ : ∃ W0, W0 = w.alloc (.cells (gv A0 A1 A2 c0 c1 c2 g) 25) := ⟨_, rfl⟩
  have hb0 := below_alloc (Below.refl _ w) (.cells (gv A0 A1 A2 c0 c1 c2 g) 25)
  have hk0 := blk_new w (.cells (gv A0 A1 A2 c0 c1 c2 g) 25)
  rw [← hW0] at hb0 hk0
  have hnz : ∀ s ∈ g.names, s.size ≤ 140737488351232 := fun s hx => Nat.le_trans (hs.term s hx) (by decide)
  have K1 : Aside0 (∀ W, Below W0.heap.size W0 W → Calls Try.prog 10 #[.agg #[.slice A0 g.terms.length c0, .slice A1 g.nons.length c1, .slice A2 g.rules.length c2, .int .i64 g.start]] W fun e w' => e = .returned (.int .i64 g.check) ∧ Below W.heap.size W w') := ⟨fun W hb => gram_Check (h.below (hb0.trans (hb.mono hb0.size))) hnz⟩
  have K2 : Aside0 (∀ W, Below W0.heap.size W0 W → Calls Try.prog 11 #[.agg #[.slice A0 g.terms.length c0, .slice A1 g.nons.length c1, .slice A2 g.rules.length c2, .int .i64 g.start]] W fun e w' => e = .returned (.bool g.ordered) ∧ Below W.heap.size W w') := ⟨fun W hb => gram_Ordered (h.below (hb0.trans (hb.mono hb0.size)))⟩
  have K3 : Aside0 (∀ W, Below w.heap.size w W → Calls Try.prog 13 #[.agg #[.slice A0 g.terms.length c0, .slice A1 g.nons.length c1, .slice A2 g.rules.length c2, .int .i64 g.start]] W fun e w' => e = .returned (.string g.headB) ∧ Below W.heap.size W w') := ⟨fun W hb => gshow_heads (h.below hb) hs⟩
  have K4 : Aside0 (∀ W (A : Option Addr) (c : Nat) (r : Rl), Below w.heap.size w W → Kd.C (Kd.int .i64) w A r.right.length r.right → r.right.length ≤ 10000 → Calls Try.prog 14 #[.agg #[.slice A0 g.terms.length c0, .slice A1 g.nons.length c1, .slice A2 g.rules.length c2, .int .i64 g.start], .agg #[.int .i64 r.left, .slice A r.right.length c]] W fun e w' => e = .returned (.string (g.rightB r)) ∧ Below W.heap.size W w') := ⟨fun W A c r hb hr hm => gshow_right (h.below hb) (Kd.C_below hr hb) hm hs.name⟩
  have K5 : Aside0 (∀ W (A : Option Addr) (c : Nat) (r : Rl), Below w.heap.size w W → Kd.C (Kd.int .i64) w A r.right.length r.right → r.right.length ≤ 10000 → Calls Try.prog 8 #[.agg #[.slice A0 g.terms.length c0, .slice A1 g.nons.length c1, .slice A2 g.rules.length c2, .int .i64 g.start], .agg #[.int .i64 r.left, .slice A r.right.length c]] W fun e w' => e = .returned (.string (g.ruleB r)) ∧ Below W.heap.size W w') := ⟨fun W A c r hb hr hm => gshow_Rule (h.below hb) (Kd.C_below hr hb) hm hs.name⟩
  have GC : Aside0 (∀ W, Below W0.heap.size W0 W → _ ∧ _ ∧ _ ∧ _) := ⟨fun W hb => gcells (blk_below hk0 hb)⟩
  have hgc := GC.out W0 (Below.refl _ _)
  have HR := Aside0.mk h.rules
  have hlt0 := blk_lt hk0
  have HS := Aside0.mk hs
  have HK0 := Aside0.mk hk0
  have HB0 := Aside0.mk hb0
  have HW := Aside0.mk hW0
  have HSS : Aside0 (g.showS = if g.check = 0 ∧ g.ordered = true then g.showB else (⟨#[]⟩ : ByteArray)) := ⟨rfl⟩
  have hhd := hs.head
  have hrl := hs.rules
  have HLP := Aside0.mk (fun (hc : g.check = 0) (k : Nat) (hk : k < g.rules.length) => left_pos hc hk)
  clear h hb0 hk0 hW0 hs hnz
  generalize g.showS = SS at *
  generalize g.check = ch at *
  generalize g.ordered = od at *
  unfold gv at *
  by_cases hc : ch = 0
  rotate_left
  · have hcc : (ch != 0) = true := by simpa using hc
    have HC := Aside0.mk hc
    clear hc
    go_enter Try.func6, Try.ntmps6
    go_wp2_with fail
    rw [← HW.out]
    obtain ⟨f0, f1, f2, f3⟩ := hgc
    go_wp2_with (go_at_call 10; refine (K1.out _ (Below.refl _ _)).mono ?_; rintro e w2 ⟨rfl, hb2⟩)
    all_goals
      go_ret
      exact ⟨by rw [HSS.out, if_neg (fun hx => HC.out hx.1)]; rfl, HB0.out.trans (hb2.mono HB0.out.size)⟩
  subst hc
  have HLQ := Aside0.mk (HLP.out rfl)
  clear HLP
  cases od with
  | false =>
    go_enter Try.func6, Try.ntmps6
    go_wp2_with fail
    rw [← HW.out]
    obtain ⟨f0, f1, f2, f3⟩ := hgc
    go_wp2_with (first | (go_at_call 10; refine (K1.out _ (Below.refl _ _)).mono ?_; rintro e w2 ⟨rfl, hb2⟩; clear f0 f1 f2 f3; obtain ⟨f0, f1, f2, f3⟩ := GC.out _ hb2) | (go_at_call 11; refine (K2.out _ hb2).mono ?_; rintro e w3 ⟨rfl, hb3⟩))
    go_ret
    have h5 := hb2.trans (hb3.mono hb2.size)
    exact ⟨by rw [HSS.out, if_neg (fun hx => Bool.noConfusion hx.2)]; rfl, HB0.out.trans (h5.mono HB0.out.size)⟩
  | true =>
  go_enter Try.func6, Try.ntmps6
  go_wp2_with fail
  rw [← HW.out]
  obtain ⟨f0, f1, f2, f3⟩ := hgc
  refine (K1.out _ (Below.refl _ _)).mono ?_
  rintro e w2 ⟨rfl, hb2⟩
  clear f0 f1 f2 f3
  obtain ⟨f0, f1, f2, f3⟩ := GC.out _ hb2
  go_wp2_with fail
  refine (K2.out _ hb2).mono ?_
  rintro e w3 ⟨rfl, hb3⟩
  clear f0 f1 f2 f3
  have hb4 := hb2.trans (hb3.mono hb2.size)
  obtain ⟨f0, f1, f2, f3⟩ := GC.out _ hb4
  have hlt3 := Nat.lt_of_lt_of_le hlt0 hb4.size
  have HB3 := Aside0.mk (HB0.out.trans (hb4.mono HB0.out.size))
  have HK3 := Aside0.mk (blk_below HK0.out hb4)
  clear hb2 hb3 hb4 K1 K2 GC HB0 HK0 HW hlt0
  go_wp2_with fail
  have HB4 := Aside0.mk (below_alloc HB3.out (.cells #[.pointer none, .slice none 0 0] 40))
  have HK4 := Aside0.mk (blk_alloc HK3.out (.cells #[.pointer none, .slice none 0 0] 40))
  have HBL : Aside0 (Bld (w3.alloc (.cells #[.pointer none, .slice none 0 0] 40)) w.heap.size w3.heap.size ⟨#[]⟩) := ⟨by omega, _, _, .inl rfl, blk_new w3 _, World.ownsRow_nil _ _ _ _, by simp [Value.ownBlock]⟩
  generalize w3.alloc (.cells #[.pointer none, .slice none 0 0] 40) = W4 at *
  have hnb : w.heap.size ≠ w3.heap.size := by omega
  generalize w3.heap.size = nb at *
  clear HB3 HK3 f0 f1 f2 f3 hlt3 w3
  refine (K3.out _ HB4.out).mono ?_
  rintro e w5 ⟨rfl, hb5⟩
  have HB5 := Aside0.mk (HB4.out.trans (hb5.mono HB4.out.size))
  have HK5 := Aside0.mk (blk_below HK4.out hb5)
  have HBL5 := Aside0.mk (HBL.out.below hb5)
  have hbld := bld_WriteString HBL5.out g.headB (by have : (⟨#[]⟩ : ByteArray).size = 0 := rfl; omega) HB5.out.size
  clear HB4 HK4 HBL hb5 K3
  go_wp2_with fail
  refine hbld.mono ?_
  rintro e w6 ⟨rfl, hbl6, hb6, hk6⟩
  have HB6 := Aside0.mk (HB5.out.trans hb6)
  have HK6 := Aside0.mk (hk6 _ _ HK5.out (by simpa using hnb) (fun c fz => by simp))
  have HBL6 : Aside0 (Bld w6 w.heap.size nb (g.headB ++ g.bodyB 0)) := ⟨by
    have : (⟨#[]⟩ : ByteArray) ++ g.headB = g.headB ++ g.bodyB 0 := by
      unfold Gm.bodyB
      exact (ByteArray.empty_append (b := g.headB)).trans ByteArray.append_empty.symm
    rw [← this]
    exact hbl6⟩
  clear HB5 HK5 HBL5 hbld hb6 hk6 hbl6
  obtain ⟨f0, f1, f2, f3⟩ := gcells HK6.out
  go_wp2
  go_loopw [4, 6, 21] (fun la _ i wr => ∃ k : Nat, k ≤ g.rules.length ∧ i = .int .i64 k ∧ la = .int .i64 (g.lastOf k) ∧ Aside0 (Below w.heap.size w wr) ∧ Aside0 (wr.heap[w.heap.size]? = some (.cells #[.slice A0 g.terms.length c0, .slice A1 g.nons.length c1, .slice A2 g.rules.length c2, .int .i64 g.start] 25 (0, 0))) ∧ Aside0 (Bld wr w.heap.size nb (g.headB ++ g.bodyB k))) (fun _ _ i _ => g.rules.length - (intOf i).toNat)
  case atStart => exact ⟨0, Nat.zero_le _, rfl, rfl, HB6, HK6, HBL6⟩
  case round =>
    clear HB6 HK6 HBL6 f0 f1 f2 f3
    obtain ⟨k, hk, rfl, rfl, HB, HK, HBL⟩ := hrel
    by_cases hkl : k < g.rules.length
    · have hkz : (k : Int) < (g.rules.length : Int) := by omega
      have hbd := HS.out.body k
      have hbk : k * 20003000000 ≤ 1000 * 20003000000 := Nat.mul_le_mul_right _ (by omega)
      have hrr := getD_rule HS.out k
      have hri := HS.out.rightB hrr
      have hru := HS.out.ruleB hrr
      have hpos := HLQ.out k hkl
      have hposp : 0 < k → 0 < g.leftOf (k - 1) := fun hk0 => HLQ.out (k - 1) (by omega)
      have HPC := Aside0.mk (show g.headB ++ g.bodyB (k + 1) = (g.headB ++ g.bodyB k) ++ g.pieceB k from by
        show g.headB ++ (g.bodyB k ++ g.pieceB k) = _
        rw [ByteArray.append_assoc])
      have HPD : Aside0 (g.pieceB k = if 0 < k ∧ g.leftOf (k - 1) = g.leftOf k then ⟨#[10, 9, 124]⟩ ++ g.rightB (g.rules.getD k default) else (if 0 < k then (⟨#[10, 9, 59, 10]⟩ : ByteArray) else ⟨#[]⟩) ++ g.ruleB (g.rules.getD k default)) := ⟨rfl⟩
      have HLN : Aside0 (g.lastOf (k + 1) = g.leftOf k) := ⟨by unfold Gm.lastOf; rw [if_neg (by omega)]; rfl⟩
      have HLC : Aside0 (g.lastOf k = if k = 0 then 0 else g.leftOf (k - 1)) := ⟨rfl⟩
      have hsz : (g.headB ++ g.bodyB k).size ≤ 30000000000000 := by rw [ByteArray.size_append]; omega
      clear hbd hbk
      obtain ⟨ad, Ar, cr, rfl, k1, k2, _, q4⟩ := at_rl HR.out k hkl
      have hxl : (g.rules.getD k default).left = g.leftOf k := rfl
      obtain ⟨x, hx⟩ : ∃ x, g.rules.getD k default = x := ⟨_, rfl⟩
      rw [hx] at k1 k2 q4 hrr hri hru HPD hxl
      clear hx
      have hla := World.block_lt_of_cell? _ _ k1
      have m1 := (HB.out.cell (p := ad.add (k * 2)) hla).trans k1
      have m2 := (HB.out.cell (p := ⟨(ad.add (k * 2)).block, (ad.add (k * 2)).off + 1, none⟩) hla).trans k2
      rw [← hxl] at hpos
      have HXL := Aside0.mk hxl
      have Q4 := Aside0.mk q4
      have hng := HBL.out.grew (w' := wr)
      have HBX := Aside0.mk (blk_new wr (.cells #[.int .i64 x.left, .slice Ar x.right.length cr] 28))
      have HB1 := Aside0.mk (below_alloc HB.out (.cells #[.int .i64 x.left, .slice Ar x.right.length cr] 28))
      have HK1 := Aside0.mk (blk_alloc HK.out (.cells #[.int .i64 x.left, .slice Ar x.right.length cr] 28))
      have HBL1 := Aside0.mk (HBL.out.alloc (.cells #[.int .i64 x.left, .slice Ar x.right.length cr] 28))
      have hgw : w.heap.size ≠ wr.heap.size := by have := blk_lt HK.out; omega
      have hgc := gcells HK1.out
      have hgl := blk_lt HK1.out
      have e3 : (⟨#[10, 9, 124]⟩ : ByteArray).size = 3 := rfl
      have e4 : (⟨#[10, 9, 59, 10]⟩ : ByteArray).size = 4 := rfl
      clear hxl q4 k1 k2 hla HB HK HBL hhd HR
      obtain ⟨la, hla⟩ : ∃ la, g.lastOf k = la := ⟨_, rfl⟩
      rw [hla] at HLC ⊢
      clear hla
      by_cases hcase : 0 < k ∧ g.leftOf (k - 1) = g.leftOf k
      · have hq : (la == x.left) = true := by
          rw [HLC.out, if_neg (by omega), hcase.2, ← HXL.out]
          exact beq_self_eq_true _
        have hz : ¬ 9223372036854775807 < 3 + (g.rightB x).size := by omega
        have HCS := Aside0.mk hcase
        have K4x := Aside0.mk (fun W hb => K4.out W Ar cr x hb Q4.out hrr)
        clear hcase hposp
        rw [if_pos HCS.out] at HPD
        generalize g.rightB x = rb at *
        go_wp2_with fail
        refine (K4x.out _ HB1.out).mono ?_
        rintro e w2 ⟨rfl, hb2⟩
        have HB2 := Aside0.mk (HB1.out.trans (hb2.mono HB1.out.size))
        have HK2 := Aside0.mk (blk_below HK1.out hb2)
        have hw := Aside0.mk (bld_WriteString (HBL1.out.below hb2) (⟨#[10, 9, 124]⟩ ++ rb) (by rw [ByteArray.size_append (a := ⟨#[10, 9, 124]⟩)]; omega) HB2.out.size)
        clear hb2
        go_wp2_with (go_at_call 12; refine hw.out.mono ?_; rintro e w3 ⟨rfl, hbl3, hb3, hk3⟩)
        go_roundw
        case rel => exact ⟨k + 1, by omega, by go_num, by rw [HLN.out, HLC.out, if_neg (by have := HCS.out.1; omega), HCS.out.2], ⟨HB2.out.trans hb3⟩, ⟨hk3 _ _ HK2.out (by simpa using hnb) (fun c fz => by simp)⟩, ⟨by rw [HPC.out, HPD.out]; exact hbl3⟩⟩
        case measure => simp [intOf]; omega
      · have K5x := Aside0.mk (fun W hb => K5.out W Ar cr x hb Q4.out hrr)
        rw [if_neg hcase] at HPD
        have hgn : nb ≠ wr.heap.size := by omega
        generalize g.ruleB x = rb at *
        by_cases hk0 : k = 0
        · have hl0 : la = 0 := by rw [HLC.out, if_pos hk0]
          have hq : (la == x.left) = false := beq_false_of_ne (by omega)
          have hz : (la == 0) = true := by rw [hl0]; rfl
          rw [if_neg (by omega)] at HPD
          clear hcase hl0 hposp hk0
          go_wp2_with fail
          refine (K5x.out _ HB1.out).mono ?_
          rintro e w2 ⟨rfl, hb2⟩
          have HB2 := Aside0.mk (HB1.out.trans (hb2.mono HB1.out.size))
          have HK2 := Aside0.mk (blk_below HK1.out hb2)
          have HBX2 := Aside0.mk (blk_below HBX.out hb2)
          have hw := Aside0.mk (bld_WriteString (HBL1.out.below hb2) rb (by omega) HB2.out.size)
          clear hb2
          go_wp2_with (go_at_call 12; refine hw.out.mono ?_; rintro e w3 ⟨rfl, hbl3, hb3, hk3⟩; have hbx := blk_cell (hk3 _ _ HBX2.out (by simpa using fun e => hgn e.symm) (fun c fz => by simp)) 0)
          go_roundw
          case rel => exact ⟨k + 1, by omega, by go_num, by rw [HLN.out, HXL.out], ⟨HB2.out.trans hb3⟩, ⟨hk3 _ _ HK2.out (by simpa using hnb) (fun c fz => by simp)⟩, ⟨by rw [HPC.out, HPD.out]; rw [show (⟨#[]⟩ : ByteArray) ++ rb = rb from ByteArray.empty_append]; exact hbl3⟩⟩
          case measure => simp [intOf]; omega
        · have hl0 : la = g.leftOf (k - 1) := by rw [HLC.out, if_neg hk0]
          have hp := hposp (by omega)
          have hq : (la == x.left) = false := beq_false_of_ne (by intro e; exact hcase ⟨by omega, by rw [← hl0, e, HXL.out]⟩)
          have hz : (la == 0) = false := beq_false_of_ne (by omega)
          rw [if_pos (by omega)] at HPD
          clear hcase hl0 hposp hp
          have hw0 := Aside0.mk (bld_WriteString HBL1.out ⟨#[10, 9, 59, 10]⟩ (by omega) HB1.out.size)
          go_wp2_with fail
          refine hw0.out.mono ?_
          rintro e w2 ⟨rfl, hbl2, hb2, hk2⟩
          have HB2 := Aside0.mk (HB1.out.trans hb2)
          have HK2 := Aside0.mk (hk2 _ _ HK1.out (by simpa using hnb) (fun c fz => by simp))
          have HBX2 := Aside0.mk (hk2 _ _ HBX.out (by simpa using fun e => hgn e.symm) (fun c fz => by simp))
          have hgc2 := gcells HK2.out
          have b0 := blk_cell HBX2.out 0
          have b1 := blk_cell HBX2.out 1
          clear hb2 hk2 hgc
          go_wp2_with fail
          refine (K5x.out _ HB2.out).mono ?_
          rintro e w3 ⟨rfl, hb3⟩
          have HB3 := Aside0.mk (HB2.out.trans (hb3.mono HB2.out.size))
          have HK3 := Aside0.mk (blk_below HK2.out hb3)
          have HBX3 := Aside0.mk (blk_below HBX2.out hb3)
          have hw := Aside0.mk (bld_WriteString (hbl2.below hb3) rb (by rw [ByteArray.size_append (b := ⟨#[10, 9, 59, 10]⟩)]; omega) HB3.out.size)
          clear hb3
          go_wp2_with (go_at_call 12; refine hw.out.mono ?_; rintro e w4 ⟨rfl, hbl4, hb4, hk4⟩; have hbx := blk_cell (hk4 _ _ HBX3.out (by simpa using fun e => hgn e.symm) (fun c fz => by simp)) 0)
          go_roundw
          case rel => exact ⟨k + 1, by omega, by go_num, by rw [HLN.out, HXL.out], ⟨HB3.out.trans hb4⟩, ⟨hk4 _ _ HK3.out (by simpa using hnb) (fun c fz => by simp)⟩, ⟨by rw [HPC.out, HPD.out, ← ByteArray.append_assoc]; exact hbl4⟩⟩
          case measure => simp [intOf]; omega
    · have hkz : ¬ (k : Int) < (g.rules.length : Int) := by omega
      obtain rfl : k = g.rules.length := by omega
      have hbd := HS.out.body g.rules.length
      have hbk : g.rules.length * 20003000000 ≤ 1000 * 20003000000 := Nat.mul_le_mul_right _ (by omega)
      have hsz : (g.headB ++ g.bodyB g.rules.length).size ≤ 30000000000000 := by rw [ByteArray.size_append]; omega
      have e4 : (⟨#[10, 9, 59, 10]⟩ : ByteArray).size = 4 := rfl
      have hw := Aside0.mk (bld_WriteString HBL.out ⟨#[10, 9, 59, 10]⟩ (by omega) HB.out.size)
      go_wp2_with fail
      refine hw.out.mono ?_
      rintro e w7 ⟨rfl, hbl7, hb7, _⟩
      have hst := Aside0.mk (bld_String hbl7 (by rw [ByteArray.size_append]; omega))
      go_wp2_with (go_at_call 15; refine hst.out.mono ?_; rintro e w8 ⟨rfl, hb8⟩)
      go_ret
      exact ⟨by rw [HSS.out, if_pos (by simp)]; rfl, (HB.out.trans hb7).trans hb8⟩
end
end Go.Proofs.Ytliofoikejdjeaa
