/- The document's known. -/
import Derived.Test.YtliofoikejdjeaaRef8
namespace Go.Proofs.Ytliofoikejdjeaa
open Go.RowKit Go.Proofs.YtliofoikejdjeaaW.PrintWords
set_option linter.unusedVariables false
set_option linter.unusedSimpArgs false
def Gm.knownB (g : Gm) : Bool := g.isNon g.start && g.rules.all fun r => g.knownR r
section
variable {w : World} {A0 A1 A2 : Option Addr} {c0 c1 c2 : Nat} {g : Gm}
set_option maxHeartbeats 4000000 in
theorem ref06_known (h : GmAt w A0 A1 A2 c0 c1 c2 g) : Calls Try.prog 44 #[.agg (gv A0 A1 A2 c0 c1 c2 g)] w fun e w' => e = .returned (.bool g.knownB) ∧ Below w.heap.size w w' := by
  have h1 := h.m1
  have h2 := h.m2
  have hb0 := below_alloc (Below.refl _ w) (.cells (gv A0 A1 A2 c0 c1 c2 g) 25)
  have HK := Aside0.mk (blk_new w (.cells (gv A0 A1 A2 c0 c1 c2 g) 25))
  have H := h.below hb0
  have HR := Aside0.mk (Kd.C_below h.rules hb0)
  obtain ⟨W0, hW0⟩ : ∃ W0, W0 = w.alloc (.cells (gv A0 A1 A2 c0 c1 c2 g) 25) := ⟨_, rfl⟩
  rw [← hW0] at hb0 HK H HR
  have KN : Aside0 (∀ W (s : Int), Below W0.heap.size W0 W → Calls Try.prog 66 #[.agg #[.slice A0 g.terms.length c0, .slice A1 g.nons.length c1, .slice A2 g.rules.length c2, .int .i64 g.start], .int .i64 s] W fun e w' => e = .returned (.bool (g.isNon s)) ∧ Below W.heap.size W w') := ⟨fun W s hb => ref06_Non (H.below hb) s⟩
  have KT : Aside0 (∀ W (s : Int), Below W0.heap.size W0 W → Calls Try.prog 67 #[.agg #[.slice A0 g.terms.length c0, .slice A1 g.nons.length c1, .slice A2 g.rules.length c2, .int .i64 g.start], .int .i64 s] W fun e w' => e = .returned (.bool (g.isTerm s)) ∧ Below W.heap.size W w') := ⟨fun W s hb => ref06_Term (H.below hb) s⟩
  have HB0 := Aside0.mk hb0
  have HW := Aside0.mk hW0
  have hlt0 := blk_lt HK.out
  have hgc := gcells HK.out
  clear h H hb0 hW0
  by_cases hz : g.nons.length = 0
  · have hr : g.knownB = false := by
      unfold Gm.knownB Gm.isNon Gm.top
      rw [hz]
      rw [Bool.and_eq_false_iff]
      left
      simp
      try omega
    rw [hr]
    clear hr KN KT
    unfold gv at *
    go_enter Try.func44, Try.ntmps44
    go_wp2
    go_ret
    exact ⟨rfl, below_alloc (Below.refl _ _) _⟩
  have hzz : (((g.nons.length : Int)) == 0) = false := beq_false_of_ne (by omega)
  obtain ⟨p, hp⟩ : ∃ p, g.isNon g.start = p := ⟨_, rfl⟩
  have KS := Aside0.mk (fun (W : World) (hb : Below W0.heap.size W0 W) => KN.out W g.start hb)
  rw [hp] at KS
  have hkb : g.knownB = (p && g.rules.all fun r => g.knownR r) := by unfold Gm.knownB; rw [hp]
  have HKB := Aside0.mk hkb
  clear hkb hp
  unfold gv at *
  go_enter Try.func44, Try.ntmps44
  go_wp2_with fail
  rw [← HW.out]
  clear HW
  obtain ⟨f0, f1, f2, f3⟩ := hgc
  cases p with
  | false =>
    go_wp2_with (go_at_call 66; refine (KS.out _ (Below.refl _ _)).mono ?_; rintro e w1 ⟨rfl, hb1⟩)
    go_ret
    exact ⟨rbool (by rw [HKB.out]; rfl), HB0.out.trans (hb1.mono HB0.out.size)⟩
  | true =>
  go_wp2_with (go_at_call 66; refine (KS.out _ (Below.refl _ _)).mono ?_; rintro e w1 ⟨rfl, hb1⟩)
  have HB1 := Aside0.mk hb1
  have hlt1 := Nat.lt_of_lt_of_le hlt0 hb1.size
  clear hb1 f0 f1 f2 f3 hlt0 KS
  go_loopw [3, 4] (fun i _ wr => ∃ k : Nat, k ≤ g.rules.length ∧ i = .int .i64 k ∧ w.heap.size < wr.heap.size ∧ Aside0 (Below W0.heap.size W0 wr) ∧ Aside0 (∀ i, i < k → g.knownR (g.rules.getD i default) = true)) (fun i _ _ => g.rules.length - (intOf i).toNat)
  case atStart => exact ⟨0, Nat.zero_le _, rfl, hlt1, HB1, ⟨fun j hj => absurd hj (Nat.not_lt_zero _)⟩⟩
  case round =>
    clear hlt1 HB1
    obtain ⟨k, hk, rfl, hlt1, HB, AF⟩ := hrel
    generalize wr = wo at *
    obtain ⟨f0, f1, f2, f3⟩ := gcells (blk_below HK.out HB.out)
    by_cases hkl : k < g.rules.length
    · have hkz : (k : Int) < (g.rules.length : Int) := by omega
      obtain ⟨ad, Ax, cx, rfl, k1, k2, k3, k4⟩ := at_rl (Kd.C_below HR.out HB.out) k hkl
      obtain ⟨x, hx⟩ : ∃ x, g.rules.getD k default = x := ⟨_, rfl⟩
      rw [hx] at k1 k2 k3 k4
      have HX := Aside0.mk hx
      have HRR := Aside0.mk k4
      have mx := Kd.C_max k4
      clear hx k4
      have hla := World.block_lt_of_cell? _ _ k1
      obtain ⟨q, hq⟩ : ∃ q, g.isNon x.left = q := ⟨_, rfl⟩
      have KL := Aside0.mk (fun (W : World) (hb : Below W0.heap.size W0 W) => KN.out W x.left hb)
      rw [hq] at KL
      have hkr : g.knownR x = (q && x.right.all fun s => g.sym s) := by unfold Gm.knownR; rw [hq]
      have HKR := Aside0.mk hkr
      clear hkr hq
      have key : ∀ w', Below wo.heap.size wo w' → (w'.cell? ⟨w.heap.size, 0, none⟩ = some (.slice A0 g.terms.length c0) ∧ w'.cell? ⟨w.heap.size, 1, none⟩ = some (.slice A1 g.nons.length c1) ∧ w'.cell? ⟨w.heap.size, 2, none⟩ = some (.slice (some ad) g.rules.length c2) ∧ w'.cell? ⟨w.heap.size, 3, none⟩ = some (.int .i64 g.start)) ∧ w'.cell? (ad.add (k * 2)) = some (.int .i64 x.left) ∧ w'.cell? ⟨(ad.add (k * 2)).block, (ad.add (k * 2)).off + 1, none⟩ = some (.slice Ax x.right.length cx) := fun w' hw =>
        ⟨gcells (blk_below (blk_below HK.out HB.out) hw), (hw.cell (p := ad.add (k * 2)) hla).trans k1, (hw.cell (p := ⟨(ad.add (k * 2)).block, (ad.add (k * 2)).off + 1, none⟩) hla).trans k2⟩
      have KEY := Aside0.mk key
      clear key k1 k2 hla
      go_wp2
      clear f0 f1 f2 f3
      refine wp_region_det (vs := [?d1xv0, ?d1xv1, ?d1xv2, ?d1xv3, ?d1xv4, ?d1xv5, ?d1xv6, ?d1xv7, ?d1xv8]) (fun w' => Below wo.heap.size wo w') rfl (by kernel_rfl) (putAll_put (by simp only [Act.put, List.setIfInBounds_toArray, List.set_cons_zero, List.set_cons_succ]; rfl) (putAll_put (by simp only [Act.put, List.setIfInBounds_toArray, List.set_cons_zero, List.set_cons_succ]; rfl) (putAll_put (by simp only [Act.put, List.setIfInBounds_toArray, List.set_cons_zero, List.set_cons_succ]; rfl) (putAll_put (by simp only [Act.put, List.setIfInBounds_toArray, List.set_cons_zero, List.set_cons_succ]; rfl) (putAll_put (by simp only [Act.put, List.setIfInBounds_toArray, List.set_cons_zero, List.set_cons_succ]; rfl) (putAll_put (by simp only [Act.put, List.setIfInBounds_toArray, List.set_cons_zero, List.set_cons_succ]; rfl) (putAll_put (by simp only [Act.put, List.setIfInBounds_toArray, List.set_cons_zero, List.set_cons_succ]; rfl) (putAll_put (by simp only [Act.put, List.setIfInBounds_toArray, List.set_cons_zero, List.set_cons_succ]; rfl) (putAll_put (by simp only [Act.put, List.setIfInBounds_toArray, List.set_cons_zero, List.set_cons_succ]; rfl) (putAll_nil _)))))))))) (below_drew (Below.refl _ _)) ?d1xOps ?d1xFin
      case d1xOps =>
        refine ⟨fun w' hw => ?d1xo0, fun w' hw => ?d1xo1, fun w' hw => ?d1xo2, fun w' hw => ?d1xo3, fun w' hw => ?d1xo4, fun w' hw => ?d1xo5, fun w' hw => ?d1xo6, fun w' hw => ?d1xo7, fun w' hw => ?d1xo8, trivial⟩
        case d1xo0 => obtain ⟨⟨f0, f1, f2, f3⟩, f4, f5⟩ := KEY.out w' hw; go_simp; rfl
        case d1xo1 => obtain ⟨⟨f0, f1, f2, f3⟩, f4, f5⟩ := KEY.out w' hw; go_simp; rfl
        case d1xo2 => obtain ⟨⟨f0, f1, f2, f3⟩, f4, f5⟩ := KEY.out w' hw; go_simp; rfl
        case d1xo3 => obtain ⟨⟨f0, f1, f2, f3⟩, f4, f5⟩ := KEY.out w' hw; go_simp; rfl
        case d1xo4 => obtain ⟨⟨f0, f1, f2, f3⟩, f4, f5⟩ := KEY.out w' hw; go_simp; rfl
        case d1xo5 => obtain ⟨⟨f0, f1, f2, f3⟩, f4, f5⟩ := KEY.out w' hw; go_simp; rfl
        case d1xo6 => obtain ⟨⟨f0, f1, f2, f3⟩, f4, f5⟩ := KEY.out w' hw; go_simp; rfl
        case d1xo7 => obtain ⟨⟨f0, f1, f2, f3⟩, f4, f5⟩ := KEY.out w' hw; (go_simp; refine (KL.out w' (HB.out.trans (hw.mono HB.out.size))).mono ?_; rintro e w2 ⟨rfl, hb2⟩; exact ⟨by rfl, hw.trans (hb2.mono hw.size)⟩)
        case d1xo8 => obtain ⟨⟨f0, f1, f2, f3⟩, f4, f5⟩ := KEY.out w' hw; go_simp; rfl
      case d1xFin =>
        intro w1 hw1
        have h3 := hw1.size
        cases q with
        | false =>
          go_wp2
          go_ret
          have h6 := HB.out.trans (hw1.mono HB.out.size)
          exact ⟨rbool (by rw [HKB.out, all_not hkl (by rw [HX.out, HKR.out]; rfl)]; rfl), HB0.out.trans (h6.mono HB0.out.size)⟩
        | true =>
        have HW1 := Aside0.mk hw1
        clear hw1
        go_wp2
        go_loopw [4] (fun i wr => ∃ m : Nat, m ≤ x.right.length ∧ i = .int .i64 m ∧ w.heap.size < wr.heap.size ∧ Aside0 (Below wo.heap.size wo wr) ∧ Aside0 (∀ i, i < m → g.sym (x.right.getD i default) = true)) (fun i _ => x.right.length - (intOf i).toNat)
        case atStart => exact ⟨0, Nat.zero_le _, rfl, by omega, HW1, ⟨fun j hj => absurd hj (Nat.not_lt_zero _)⟩⟩
        case round =>
          clear HW1
          obtain ⟨m, hm, rfl, hlt2, HB2, AG⟩ := hrel
          obtain ⟨⟨f0, f1, f2, f3⟩, f4, f5⟩ := KEY.out _ HB2.out
          by_cases hml : m < x.right.length
          · have hmz : (m : Int) < (x.right.length : Int) := by omega
            obtain ⟨ad1, rfl, l1⟩ := at_int (Kd.C_below HRR.out HB2.out) m hml
            obtain ⟨y, hy⟩ : ∃ y, x.right.getD m default = y := ⟨_, rfl⟩
            rw [hy] at l1
            have HY := Aside0.mk hy
            clear hy
            have hlc := World.block_lt_of_cell? _ _ l1
            obtain ⟨s, hs⟩ : ∃ s, g.sym y = s := ⟨_, rfl⟩
            have hss := hs
            unfold Gm.sym at hss
            obtain ⟨a, ha⟩ : ∃ a, g.isTerm y = a := ⟨_, rfl⟩
            obtain ⟨b, hb⟩ : ∃ b, g.isNon y = b := ⟨_, rfl⟩
            have KA := Aside0.mk (fun (W : World) (hb : Below W0.heap.size W0 W) => KT.out W y hb)
            have KB := Aside0.mk (fun (W : World) (hb : Below W0.heap.size W0 W) => KN.out W y hb)
            rw [ha] at KA hss
            rw [hb] at KB hss
            have HS := Aside0.mk hs
            clear hs ha hb
            subst hss
            have key : ∀ w', Below wr.heap.size wr w' → w'.cell? (ad1.add m) = some (.int .i64 y) ∧ Below wo.heap.size wo w' := fun w' hw =>
              ⟨(hw.cell (p := ad1.add m) hlc).trans l1, HB2.out.trans (hw.mono HB2.out.size)⟩
            have KEY2 := Aside0.mk key
            clear key l1 hlc
            cases a with
            | true =>
              go_wp2
              clear f0 f1 f2 f3 f4 f5
              refine wp_region_det (vs := [?d2xv0, ?d2xv1, ?d2xv2, ?d2xv3, ?d2xv4, ?d2xv5, ?d2xv6, ?d2xv7, ?d2xv8, ?d2xv9, ?d2xv10, ?d2xv11, ?d2xv12, ?d2xv13, ?d2xv14, ?d2xv15, ?d2xv16, ?d2xv17, ?d2xv18, ?d2xv19, ?d2xv20, ?d2xv21, ?d2xv22, ?d2xv23, ?d2xv24, ?d2xv25]) (fun w' => Below wr.heap.size wr w') rfl (by kernel_rfl) (putAll_put (by simp only [Act.put, List.setIfInBounds_toArray, List.set_cons_zero, List.set_cons_succ]; rfl) (putAll_put (by simp only [Act.put, List.setIfInBounds_toArray, List.set_cons_zero, List.set_cons_succ]; rfl) (putAll_put (by simp only [Act.put, List.setIfInBounds_toArray, List.set_cons_zero, List.set_cons_succ]; rfl) (putAll_put (by simp only [Act.put, List.setIfInBounds_toArray, List.set_cons_zero, List.set_cons_succ]; rfl) (putAll_put (by simp only [Act.put, List.setIfInBounds_toArray, List.set_cons_zero, List.set_cons_succ]; rfl) (putAll_put (by simp only [Act.put, List.setIfInBounds_toArray, List.set_cons_zero, List.set_cons_succ]; rfl) (putAll_put (by simp only [Act.put, List.setIfInBounds_toArray, List.set_cons_zero, List.set_cons_succ]; rfl) (putAll_put (by simp only [Act.put, List.setIfInBounds_toArray, List.set_cons_zero, List.set_cons_succ]; rfl) (putAll_put (by simp only [Act.put, List.setIfInBounds_toArray, List.set_cons_zero, List.set_cons_succ]; rfl) (putAll_put (by simp only [Act.put, List.setIfInBounds_toArray, List.set_cons_zero, List.set_cons_succ]; rfl) (putAll_put (by simp only [Act.put, List.setIfInBounds_toArray, List.set_cons_zero, List.set_cons_succ]; rfl) (putAll_put (by simp only [Act.put, List.setIfInBounds_toArray, List.set_cons_zero, List.set_cons_succ]; rfl) (putAll_put (by simp only [Act.put, List.setIfInBounds_toArray, List.set_cons_zero, List.set_cons_succ]; rfl) (putAll_put (by simp only [Act.put, List.setIfInBounds_toArray, List.set_cons_zero, List.set_cons_succ]; rfl) (putAll_put (by simp only [Act.put, List.setIfInBounds_toArray, List.set_cons_zero, List.set_cons_succ]; rfl) (putAll_put (by simp only [Act.put, List.setIfInBounds_toArray, List.set_cons_zero, List.set_cons_succ]; rfl) (putAll_put (by simp only [Act.put, List.setIfInBounds_toArray, List.set_cons_zero, List.set_cons_succ]; rfl) (putAll_put (by simp only [Act.put, List.setIfInBounds_toArray, List.set_cons_zero, List.set_cons_succ]; rfl) (putAll_put (by simp only [Act.put, List.setIfInBounds_toArray, List.set_cons_zero, List.set_cons_succ]; rfl) (putAll_put (by simp only [Act.put, List.setIfInBounds_toArray, List.set_cons_zero, List.set_cons_succ]; rfl) (putAll_put (by simp only [Act.put, List.setIfInBounds_toArray, List.set_cons_zero, List.set_cons_succ]; rfl) (putAll_put (by simp only [Act.put, List.setIfInBounds_toArray, List.set_cons_zero, List.set_cons_succ]; rfl) (putAll_put (by simp only [Act.put, List.setIfInBounds_toArray, List.set_cons_zero, List.set_cons_succ]; rfl) (putAll_put (by simp only [Act.put, List.setIfInBounds_toArray, List.set_cons_zero, List.set_cons_succ]; rfl) (putAll_put (by simp only [Act.put, List.setIfInBounds_toArray, List.set_cons_zero, List.set_cons_succ]; rfl) (putAll_put (by simp only [Act.put, List.setIfInBounds_toArray, List.set_cons_zero, List.set_cons_succ]; rfl) (putAll_nil _))))))))))))))))))))))))))) (below_drew (Below.refl _ _)) ?d2xOps ?d2xFin
              case d2xOps =>
                refine ⟨fun w' hw => ?d2xo0, fun w' hw => ?d2xo1, fun w' hw => ?d2xo2, fun w' hw => ?d2xo3, fun w' hw => ?d2xo4, fun w' hw => ?d2xo5, fun w' hw => ?d2xo6, fun w' hw => ?d2xo7, fun w' hw => ?d2xo8, fun w' hw => ?d2xo9, fun w' hw => ?d2xo10, fun w' hw => ?d2xo11, fun w' hw => ?d2xo12, fun w' hw => ?d2xo13, fun w' hw => ?d2xo14, fun w' hw => ?d2xo15, fun w' hw => ?d2xo16, fun w' hw => ?d2xo17, fun w' hw => ?d2xo18, fun w' hw => ?d2xo19, fun w' hw => ?d2xo20, fun w' hw => ?d2xo21, fun w' hw => ?d2xo22, fun w' hw => ?d2xo23, fun w' hw => ?d2xo24, fun w' hw => ?d2xo25, trivial⟩
                case d2xo0 => (obtain ⟨f6, hwr⟩ := KEY2.out w' hw; obtain ⟨⟨f0, f1, f2, f3⟩, f4, f5⟩ := KEY.out w' hwr); go_simp; rfl
                case d2xo1 => (obtain ⟨f6, hwr⟩ := KEY2.out w' hw; obtain ⟨⟨f0, f1, f2, f3⟩, f4, f5⟩ := KEY.out w' hwr); go_simp; rfl
                case d2xo2 => (obtain ⟨f6, hwr⟩ := KEY2.out w' hw; obtain ⟨⟨f0, f1, f2, f3⟩, f4, f5⟩ := KEY.out w' hwr); go_simp; rfl
                case d2xo3 => (obtain ⟨f6, hwr⟩ := KEY2.out w' hw; obtain ⟨⟨f0, f1, f2, f3⟩, f4, f5⟩ := KEY.out w' hwr); go_simp; rfl
                case d2xo4 => (obtain ⟨f6, hwr⟩ := KEY2.out w' hw; obtain ⟨⟨f0, f1, f2, f3⟩, f4, f5⟩ := KEY.out w' hwr); go_simp; rfl
                case d2xo5 => (obtain ⟨f6, hwr⟩ := KEY2.out w' hw; obtain ⟨⟨f0, f1, f2, f3⟩, f4, f5⟩ := KEY.out w' hwr); go_simp; rfl
                case d2xo6 => (obtain ⟨f6, hwr⟩ := KEY2.out w' hw; obtain ⟨⟨f0, f1, f2, f3⟩, f4, f5⟩ := KEY.out w' hwr); go_simp; rfl
                case d2xo7 => (obtain ⟨f6, hwr⟩ := KEY2.out w' hw; obtain ⟨⟨f0, f1, f2, f3⟩, f4, f5⟩ := KEY.out w' hwr); go_simp; rfl
                case d2xo8 => (obtain ⟨f6, hwr⟩ := KEY2.out w' hw; obtain ⟨⟨f0, f1, f2, f3⟩, f4, f5⟩ := KEY.out w' hwr); go_simp; rfl
                case d2xo9 => (obtain ⟨f6, hwr⟩ := KEY2.out w' hw; obtain ⟨⟨f0, f1, f2, f3⟩, f4, f5⟩ := KEY.out w' hwr); go_simp; rfl
                case d2xo10 => (obtain ⟨f6, hwr⟩ := KEY2.out w' hw; obtain ⟨⟨f0, f1, f2, f3⟩, f4, f5⟩ := KEY.out w' hwr); (go_simp; refine (KA.out w' (HB.out.trans (hwr.mono HB.out.size))).mono ?_; rintro e w2 ⟨rfl, hb2⟩; exact ⟨by rfl, hw.trans (hb2.mono hw.size)⟩)
                case d2xo11 => (obtain ⟨f6, hwr⟩ := KEY2.out w' hw; obtain ⟨⟨f0, f1, f2, f3⟩, f4, f5⟩ := KEY.out w' hwr); go_simp; rfl
                case d2xo12 => (obtain ⟨f6, hwr⟩ := KEY2.out w' hw; obtain ⟨⟨f0, f1, f2, f3⟩, f4, f5⟩ := KEY.out w' hwr); go_simp; rfl
                case d2xo13 => (obtain ⟨f6, hwr⟩ := KEY2.out w' hw; obtain ⟨⟨f0, f1, f2, f3⟩, f4, f5⟩ := KEY.out w' hwr); go_simp; rfl
                case d2xo14 => (obtain ⟨f6, hwr⟩ := KEY2.out w' hw; obtain ⟨⟨f0, f1, f2, f3⟩, f4, f5⟩ := KEY.out w' hwr); go_simp; rfl
                case d2xo15 => (obtain ⟨f6, hwr⟩ := KEY2.out w' hw; obtain ⟨⟨f0, f1, f2, f3⟩, f4, f5⟩ := KEY.out w' hwr); go_simp; rfl
                case d2xo16 => (obtain ⟨f6, hwr⟩ := KEY2.out w' hw; obtain ⟨⟨f0, f1, f2, f3⟩, f4, f5⟩ := KEY.out w' hwr); go_simp; rfl
                case d2xo17 => (obtain ⟨f6, hwr⟩ := KEY2.out w' hw; obtain ⟨⟨f0, f1, f2, f3⟩, f4, f5⟩ := KEY.out w' hwr); go_simp; rfl
                case d2xo18 => (obtain ⟨f6, hwr⟩ := KEY2.out w' hw; obtain ⟨⟨f0, f1, f2, f3⟩, f4, f5⟩ := KEY.out w' hwr); go_simp; rfl
                case d2xo19 => (obtain ⟨f6, hwr⟩ := KEY2.out w' hw; obtain ⟨⟨f0, f1, f2, f3⟩, f4, f5⟩ := KEY.out w' hwr); go_simp; rfl
                case d2xo20 => (obtain ⟨f6, hwr⟩ := KEY2.out w' hw; obtain ⟨⟨f0, f1, f2, f3⟩, f4, f5⟩ := KEY.out w' hwr); go_simp; rfl
                case d2xo21 => (obtain ⟨f6, hwr⟩ := KEY2.out w' hw; obtain ⟨⟨f0, f1, f2, f3⟩, f4, f5⟩ := KEY.out w' hwr); go_simp; rfl
                case d2xo22 => (obtain ⟨f6, hwr⟩ := KEY2.out w' hw; obtain ⟨⟨f0, f1, f2, f3⟩, f4, f5⟩ := KEY.out w' hwr); go_simp; rfl
                case d2xo23 => (obtain ⟨f6, hwr⟩ := KEY2.out w' hw; obtain ⟨⟨f0, f1, f2, f3⟩, f4, f5⟩ := KEY.out w' hwr); go_simp; rfl
                case d2xo24 => (obtain ⟨f6, hwr⟩ := KEY2.out w' hw; obtain ⟨⟨f0, f1, f2, f3⟩, f4, f5⟩ := KEY.out w' hwr); go_simp; rfl
                case d2xo25 => (obtain ⟨f6, hwr⟩ := KEY2.out w' hw; obtain ⟨⟨f0, f1, f2, f3⟩, f4, f5⟩ := KEY.out w' hwr); go_simp; rfl
              case d2xFin =>
                intro w2 hw2
                have h4 := hw2.size
                go_wp2
                go_roundw
                case rel => exact ⟨m + 1, by omega, by go_num, by omega, ⟨HB2.out.trans (hw2.mono HB2.out.size)⟩, ⟨lt_snoc (α := Nat) AG.out (by rw [HY.out, HS.out]; rfl)⟩⟩
                case measure => simp [intOf]; omega
            | false =>
              go_wp2
              clear f0 f1 f2 f3 f4 f5
              refine wp_region_det (vs := [?d3xv0, ?d3xv1, ?d3xv2, ?d3xv3, ?d3xv4, ?d3xv5, ?d3xv6, ?d3xv7, ?d3xv8, ?d3xv9, ?d3xv10, ?d3xv11, ?d3xv12, ?d3xv13, ?d3xv14, ?d3xv15, ?d3xv16, ?d3xv17, ?d3xv18, ?d3xv19, ?d3xv20, ?d3xv21, ?d3xv22, ?d3xv23, ?d3xv24, ?d3xv25]) (fun w' => Below wr.heap.size wr w') rfl (by kernel_rfl) (putAll_put (by simp only [Act.put, List.setIfInBounds_toArray, List.set_cons_zero, List.set_cons_succ]; rfl) (putAll_put (by simp only [Act.put, List.setIfInBounds_toArray, List.set_cons_zero, List.set_cons_succ]; rfl) (putAll_put (by simp only [Act.put, List.setIfInBounds_toArray, List.set_cons_zero, List.set_cons_succ]; rfl) (putAll_put (by simp only [Act.put, List.setIfInBounds_toArray, List.set_cons_zero, List.set_cons_succ]; rfl) (putAll_put (by simp only [Act.put, List.setIfInBounds_toArray, List.set_cons_zero, List.set_cons_succ]; rfl) (putAll_put (by simp only [Act.put, List.setIfInBounds_toArray, List.set_cons_zero, List.set_cons_succ]; rfl) (putAll_put (by simp only [Act.put, List.setIfInBounds_toArray, List.set_cons_zero, List.set_cons_succ]; rfl) (putAll_put (by simp only [Act.put, List.setIfInBounds_toArray, List.set_cons_zero, List.set_cons_succ]; rfl) (putAll_put (by simp only [Act.put, List.setIfInBounds_toArray, List.set_cons_zero, List.set_cons_succ]; rfl) (putAll_put (by simp only [Act.put, List.setIfInBounds_toArray, List.set_cons_zero, List.set_cons_succ]; rfl) (putAll_put (by simp only [Act.put, List.setIfInBounds_toArray, List.set_cons_zero, List.set_cons_succ]; rfl) (putAll_put (by simp only [Act.put, List.setIfInBounds_toArray, List.set_cons_zero, List.set_cons_succ]; rfl) (putAll_put (by simp only [Act.put, List.setIfInBounds_toArray, List.set_cons_zero, List.set_cons_succ]; rfl) (putAll_put (by simp only [Act.put, List.setIfInBounds_toArray, List.set_cons_zero, List.set_cons_succ]; rfl) (putAll_put (by simp only [Act.put, List.setIfInBounds_toArray, List.set_cons_zero, List.set_cons_succ]; rfl) (putAll_put (by simp only [Act.put, List.setIfInBounds_toArray, List.set_cons_zero, List.set_cons_succ]; rfl) (putAll_put (by simp only [Act.put, List.setIfInBounds_toArray, List.set_cons_zero, List.set_cons_succ]; rfl) (putAll_put (by simp only [Act.put, List.setIfInBounds_toArray, List.set_cons_zero, List.set_cons_succ]; rfl) (putAll_put (by simp only [Act.put, List.setIfInBounds_toArray, List.set_cons_zero, List.set_cons_succ]; rfl) (putAll_put (by simp only [Act.put, List.setIfInBounds_toArray, List.set_cons_zero, List.set_cons_succ]; rfl) (putAll_put (by simp only [Act.put, List.setIfInBounds_toArray, List.set_cons_zero, List.set_cons_succ]; rfl) (putAll_put (by simp only [Act.put, List.setIfInBounds_toArray, List.set_cons_zero, List.set_cons_succ]; rfl) (putAll_put (by simp only [Act.put, List.setIfInBounds_toArray, List.set_cons_zero, List.set_cons_succ]; rfl) (putAll_put (by simp only [Act.put, List.setIfInBounds_toArray, List.set_cons_zero, List.set_cons_succ]; rfl) (putAll_put (by simp only [Act.put, List.setIfInBounds_toArray, List.set_cons_zero, List.set_cons_succ]; rfl) (putAll_put (by simp only [Act.put, List.setIfInBounds_toArray, List.set_cons_zero, List.set_cons_succ]; rfl) (putAll_nil _))))))))))))))))))))))))))) (below_drew (Below.refl _ _)) ?d3xOps ?d3xFin
              case d3xOps =>
                refine ⟨fun w' hw => ?d3xo0, fun w' hw => ?d3xo1, fun w' hw => ?d3xo2, fun w' hw => ?d3xo3, fun w' hw => ?d3xo4, fun w' hw => ?d3xo5, fun w' hw => ?d3xo6, fun w' hw => ?d3xo7, fun w' hw => ?d3xo8, fun w' hw => ?d3xo9, fun w' hw => ?d3xo10, fun w' hw => ?d3xo11, fun w' hw => ?d3xo12, fun w' hw => ?d3xo13, fun w' hw => ?d3xo14, fun w' hw => ?d3xo15, fun w' hw => ?d3xo16, fun w' hw => ?d3xo17, fun w' hw => ?d3xo18, fun w' hw => ?d3xo19, fun w' hw => ?d3xo20, fun w' hw => ?d3xo21, fun w' hw => ?d3xo22, fun w' hw => ?d3xo23, fun w' hw => ?d3xo24, fun w' hw => ?d3xo25, trivial⟩
                case d3xo0 => (obtain ⟨f6, hwr⟩ := KEY2.out w' hw; obtain ⟨⟨f0, f1, f2, f3⟩, f4, f5⟩ := KEY.out w' hwr); go_simp; rfl
                case d3xo1 => (obtain ⟨f6, hwr⟩ := KEY2.out w' hw; obtain ⟨⟨f0, f1, f2, f3⟩, f4, f5⟩ := KEY.out w' hwr); go_simp; rfl
                case d3xo2 => (obtain ⟨f6, hwr⟩ := KEY2.out w' hw; obtain ⟨⟨f0, f1, f2, f3⟩, f4, f5⟩ := KEY.out w' hwr); go_simp; rfl
                case d3xo3 => (obtain ⟨f6, hwr⟩ := KEY2.out w' hw; obtain ⟨⟨f0, f1, f2, f3⟩, f4, f5⟩ := KEY.out w' hwr); go_simp; rfl
                case d3xo4 => (obtain ⟨f6, hwr⟩ := KEY2.out w' hw; obtain ⟨⟨f0, f1, f2, f3⟩, f4, f5⟩ := KEY.out w' hwr); go_simp; rfl
                case d3xo5 => (obtain ⟨f6, hwr⟩ := KEY2.out w' hw; obtain ⟨⟨f0, f1, f2, f3⟩, f4, f5⟩ := KEY.out w' hwr); go_simp; rfl
                case d3xo6 => (obtain ⟨f6, hwr⟩ := KEY2.out w' hw; obtain ⟨⟨f0, f1, f2, f3⟩, f4, f5⟩ := KEY.out w' hwr); go_simp; rfl
                case d3xo7 => (obtain ⟨f6, hwr⟩ := KEY2.out w' hw; obtain ⟨⟨f0, f1, f2, f3⟩, f4, f5⟩ := KEY.out w' hwr); go_simp; rfl
                case d3xo8 => (obtain ⟨f6, hwr⟩ := KEY2.out w' hw; obtain ⟨⟨f0, f1, f2, f3⟩, f4, f5⟩ := KEY.out w' hwr); go_simp; rfl
                case d3xo9 => (obtain ⟨f6, hwr⟩ := KEY2.out w' hw; obtain ⟨⟨f0, f1, f2, f3⟩, f4, f5⟩ := KEY.out w' hwr); go_simp; rfl
                case d3xo10 => (obtain ⟨f6, hwr⟩ := KEY2.out w' hw; obtain ⟨⟨f0, f1, f2, f3⟩, f4, f5⟩ := KEY.out w' hwr); (go_simp; refine (KA.out w' (HB.out.trans (hwr.mono HB.out.size))).mono ?_; rintro e w2 ⟨rfl, hb2⟩; exact ⟨by rfl, hw.trans (hb2.mono hw.size)⟩)
                case d3xo11 => (obtain ⟨f6, hwr⟩ := KEY2.out w' hw; obtain ⟨⟨f0, f1, f2, f3⟩, f4, f5⟩ := KEY.out w' hwr); go_simp; rfl
                case d3xo12 => (obtain ⟨f6, hwr⟩ := KEY2.out w' hw; obtain ⟨⟨f0, f1, f2, f3⟩, f4, f5⟩ := KEY.out w' hwr); go_simp; rfl
                case d3xo13 => (obtain ⟨f6, hwr⟩ := KEY2.out w' hw; obtain ⟨⟨f0, f1, f2, f3⟩, f4, f5⟩ := KEY.out w' hwr); go_simp; rfl
                case d3xo14 => (obtain ⟨f6, hwr⟩ := KEY2.out w' hw; obtain ⟨⟨f0, f1, f2, f3⟩, f4, f5⟩ := KEY.out w' hwr); go_simp; rfl
                case d3xo15 => (obtain ⟨f6, hwr⟩ := KEY2.out w' hw; obtain ⟨⟨f0, f1, f2, f3⟩, f4, f5⟩ := KEY.out w' hwr); go_simp; rfl
                case d3xo16 => (obtain ⟨f6, hwr⟩ := KEY2.out w' hw; obtain ⟨⟨f0, f1, f2, f3⟩, f4, f5⟩ := KEY.out w' hwr); go_simp; rfl
                case d3xo17 => (obtain ⟨f6, hwr⟩ := KEY2.out w' hw; obtain ⟨⟨f0, f1, f2, f3⟩, f4, f5⟩ := KEY.out w' hwr); go_simp; rfl
                case d3xo18 => (obtain ⟨f6, hwr⟩ := KEY2.out w' hw; obtain ⟨⟨f0, f1, f2, f3⟩, f4, f5⟩ := KEY.out w' hwr); go_simp; rfl
                case d3xo19 => (obtain ⟨f6, hwr⟩ := KEY2.out w' hw; obtain ⟨⟨f0, f1, f2, f3⟩, f4, f5⟩ := KEY.out w' hwr); go_simp; rfl
                case d3xo20 => (obtain ⟨f6, hwr⟩ := KEY2.out w' hw; obtain ⟨⟨f0, f1, f2, f3⟩, f4, f5⟩ := KEY.out w' hwr); go_simp; rfl
                case d3xo21 => (obtain ⟨f6, hwr⟩ := KEY2.out w' hw; obtain ⟨⟨f0, f1, f2, f3⟩, f4, f5⟩ := KEY.out w' hwr); go_simp; rfl
                case d3xo22 => (obtain ⟨f6, hwr⟩ := KEY2.out w' hw; obtain ⟨⟨f0, f1, f2, f3⟩, f4, f5⟩ := KEY.out w' hwr); go_simp; rfl
                case d3xo23 => (obtain ⟨f6, hwr⟩ := KEY2.out w' hw; obtain ⟨⟨f0, f1, f2, f3⟩, f4, f5⟩ := KEY.out w' hwr); (go_simp; refine (KB.out w' (HB.out.trans (hwr.mono HB.out.size))).mono ?_; rintro e w2 ⟨rfl, hb2⟩; exact ⟨by rfl, hw.trans (hb2.mono hw.size)⟩)
                case d3xo24 => (obtain ⟨f6, hwr⟩ := KEY2.out w' hw; obtain ⟨⟨f0, f1, f2, f3⟩, f4, f5⟩ := KEY.out w' hwr); go_simp; rfl
                case d3xo25 => (obtain ⟨f6, hwr⟩ := KEY2.out w' hw; obtain ⟨⟨f0, f1, f2, f3⟩, f4, f5⟩ := KEY.out w' hwr); go_simp; rfl
              case d3xFin =>
                intro w2 hw2
                have h4 := hw2.size
                have h5 := HB2.out.trans (hw2.mono HB2.out.size)
                cases b with
                | true =>
                  go_wp2
                  go_roundw
                  case rel => exact ⟨m + 1, by omega, by go_num, by omega, ⟨h5⟩, ⟨lt_snoc (α := Nat) AG.out (by rw [HY.out, HS.out]; rfl)⟩⟩
                  case measure => simp [intOf]; omega
                | false =>
                  go_wp2
                  go_ret
                  have h6 := HB.out.trans (h5.mono HB.out.size)
                  refine ⟨rbool ?_, HB0.out.trans (h6.mono HB0.out.size)⟩
                  rw [HKB.out, all_not hkl (by rw [HX.out, HKR.out, all_not (p := fun s => g.sym s) hml (by rw [HY.out, HS.out]; rfl)]; rfl)]
                  rfl
          · have hmz : ¬ (m : Int) < (x.right.length : Int) := by omega
            obtain rfl : m = x.right.length := by omega
            go_wp2
            go_roundw
            case rel => exact ⟨k + 1, by omega, by go_num, hlt2, ⟨HB.out.trans (HB2.out.mono HB.out.size)⟩, ⟨lt_snoc (α := Nat) AF.out (by rw [HX.out, HKR.out, all_of AG.out]; rfl)⟩⟩
            case measure => simp [intOf]; omega
    · have hkz : ¬ (k : Int) < (g.rules.length : Int) := by omega
      obtain rfl : k = g.rules.length := by omega
      go_wp2
      go_ret
      exact ⟨rbool (by rw [HKB.out, all_of AF.out]; rfl), HB0.out.trans (HB.out.mono HB0.out.size)⟩
end
end Go.Proofs.Ytliofoikejdjeaa
