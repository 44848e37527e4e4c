/- unlike: no two rules are the same. -/
import Derived.Test.YtliofoikejdjeaaGram2
namespace Go.Proofs.Ytliofoikejdjeaa
open Go.RowKit Go.Proofs.YtliofoikejdjeaaW.PrintWords
set_option linter.unusedVariables false
set_option linter.unusedSimpArgs false
/-- No two are the same. -/
def unlikeR (rs : List Rl) : Bool := decide (∀ i, i < rs.length → ∀ j, j < i → rs.getD j default ≠ rs.getD i default)
def ruleVal (A : Option Addr) (c : Nat) (r : Rl) : Value := .agg #[.int .i64 r.left, .slice A r.right.length c]
/-- The closure of unlike: the i-th rule against the one that it is given. -/
theorem unlike1 {W : World} {A : Option Addr} {c b1 b2 b3 : Nat} {rs : List Rl} (hr : Kd.C kRl W A rs.length rs) (hm : rs.length ≤ 8796093022208) (i : Nat) (hi : i < rs.length) (x : Rl) (v : Value) (hv : Vrl W x v)
    (h1 : W.cell? ⟨b1, 0, none⟩ = some (.func (.func 32) #[] #[])) (h2 : W.cell? ⟨b2, 0, none⟩ = some (.slice A rs.length c)) (h3 : W.cell? ⟨b3, 0, none⟩ = some (.int .i64 i))
    (l1 : b1 < W.heap.size) (l2 : b2 < W.heap.size) (l3 : b3 < W.heap.size) :
    Calls Try.prog 58 #[v, .pointer (some ⟨b1, 0, none⟩), .pointer (some ⟨b2, 0, none⟩), .pointer (some ⟨b3, 0, none⟩)] W fun e w' => e = .returned (.bool (decide (x = rs.getD i default))) ∧ Below W.heap.size W w' := by
  obtain ⟨Ax, cx, rfl, hlx, hx⟩ := hv
  obtain ⟨ad, A1, c1, rfl, k1, k2, k3, k4⟩ := at_rl hr i hi
  obtain ⟨y, hy⟩ : ∃ y, rs.getD i default = y := ⟨_, rfl⟩
  rw [hy] at k1 k2 k3 k4 ⊢
  clear hy
  have HX := Aside0.mk hx
  have HK := Aside0.mk k4
  have hin : (i : Int) < (rs.length : Int) := by omega
  have hlad := World.block_lt_of_cell? _ _ k1
  have hlad2 := World.block_lt_of_cell? _ _ k2
  clear hx k4 hr
  go_enter Try.func58, Try.ntmps58
  go_wp2
  obtain ⟨W0, hW0⟩ : ∃ W0, W0 = W.alloc (.cells #[.int .i64 x.left, .slice Ax x.right.length cx] 28) := ⟨_, rfl⟩
  have hb0 := below_alloc (Below.refl _ W) (.cells #[.int .i64 x.left, .slice Ax x.right.length cx] 28)
  have hbx := blk_new W (.cells #[.int .i64 x.left, .slice Ax x.right.length cx] 28)
  rw [← hW0] at hb0 hbx ⊢
  have q1 : W0.cell? ⟨b1, 0, none⟩ = _ := (hb0.cell (p := ⟨b1, 0, none⟩) l1).trans h1
  have q2 : W0.cell? ⟨b2, 0, none⟩ = _ := (hb0.cell (p := ⟨b2, 0, none⟩) l2).trans h2
  have q3 : W0.cell? ⟨b3, 0, none⟩ = _ := (hb0.cell (p := ⟨b3, 0, none⟩) l3).trans h3
  have q4 : W0.cell? (ad.add (i * 2)) = _ := (hb0.cell (p := ad.add (i * 2)) hlad).trans k1
  have q5 : W0.cell? ⟨(ad.add (i * 2)).block, (ad.add (i * 2)).off + 1, none⟩ = _ := (hb0.cell (p := ⟨(ad.add (i * 2)).block, (ad.add (i * 2)).off + 1, none⟩) hlad2).trans k2
  clear hW0 h1 h2 h3 k1 k2
  have m1 := Nat.lt_of_lt_of_le l1 hb0.size
  have m2 := Nat.lt_of_lt_of_le l2 hb0.size
  have m3 := Nat.lt_of_lt_of_le l3 hb0.size
  have m4 := Nat.lt_of_lt_of_le hlad hb0.size
  have e0 := blk_cell hbx 0
  have e1 := blk_cell hbx 1
  have m5 := blk_lt hbx
  have key : ∀ w', Below W0.heap.size W0 w' → w'.cell? ⟨b1, 0, none⟩ = _ ∧ w'.cell? ⟨b2, 0, none⟩ = _ ∧ w'.cell? ⟨b3, 0, none⟩ = _ ∧ w'.cell? (ad.add (i * 2)) = _ ∧ w'.cell? ⟨(ad.add (i * 2)).block, (ad.add (i * 2)).off + 1, none⟩ = _ ∧ w'.cell? ⟨W.heap.size, 0, none⟩ = _ ∧ w'.cell? ⟨W.heap.size, 1, none⟩ = _ := fun w' hw =>
    ⟨(hw.cell (p := ⟨b1, 0, none⟩) m1).trans q1, (hw.cell (p := ⟨b2, 0, none⟩) m2).trans q2, (hw.cell (p := ⟨b3, 0, none⟩) m3).trans q3, (hw.cell (p := ad.add (i * 2)) m4).trans q4, (hw.cell (p := ⟨(ad.add (i * 2)).block, (ad.add (i * 2)).off + 1, none⟩) m4).trans q5, (hw.cell (p := ⟨W.heap.size, 0, none⟩) m5).trans e0, (hw.cell (p := ⟨W.heap.size, 1, none⟩) m5).trans e1⟩
  clear q1 q2 q3 q4 q5 e0 e1
  have HKEY := Aside0.mk key
  clear key hbx
  refine wp_region_det (vs := [?dv0, ?dv1, ?dv2, ?dv3, ?dv4, ?dv5, ?dv6, ?dv7]) (fun w' => Below W0.heap.size W0 w') rfl (by kernel_rfl) (by simp only [putAll, Act.put, List.setIfInBounds_toArray, List.set_cons_zero, List.set_cons_succ]; rfl) (below_drew (Below.refl _ _)) ?dOps ?dFin
  case dOps =>
    refine ⟨fun w' hw => ?do0, fun w' hw => ?do1, fun w' hw => ?do2, fun w' hw => ?do3, fun w' hw => ?do4, fun w' hw => ?do5, fun w' hw => ?do6, fun w' hw => ?do7, trivial⟩
    case do0 => obtain ⟨f1, f2, f3, f4, f5, f6, f7⟩ := HKEY.out w' hw; go_simp; rfl
    case do1 => obtain ⟨f1, f2, f3, f4, f5, f6, f7⟩ := HKEY.out w' hw; go_simp; rfl
    case do2 => obtain ⟨f1, f2, f3, f4, f5, f6, f7⟩ := HKEY.out w' hw; go_simp; rfl
    case do3 => obtain ⟨f1, f2, f3, f4, f5, f6, f7⟩ := HKEY.out w' hw; go_simp; rfl
    case do4 => go_simp; rfl
    case do5 => obtain ⟨f1, f2, f3, f4, f5, f6, f7⟩ := HKEY.out w' hw; go_simp; rfl
    case do6 =>
      go_simp
      refine (gram_sameRule (Kd.C_below HX.out (hb0.trans (hw.mono hb0.size))) (Kd.C_below HK.out (hb0.trans (hw.mono hb0.size)))).mono ?_
      rintro e w2 ⟨rfl, hb2⟩
      exact ⟨by rfl, hw.trans (hb2.mono hw.size)⟩
    case do7 => go_simp; rfl
  case dFin =>
    intro w' hw
    go_wp2
    go_ret
    exact ⟨rfl, hb0.trans (hw.mono hb0.size)⟩
theorem unlike_any {rs : List Rl} {i : Nat} (hi : i < rs.length) : (rs.take i).any (fun x => decide (x = rs.getD i default)) = !decide (∀ j, j < i → rs.getD j default ≠ rs.getD i default) := by
  rw [Bool.eq_iff_iff]
  simp only [List.any_eq_true, decide_eq_true_eq, Bool.not_eq_true', decide_eq_false_iff_not, Classical.not_forall, Classical.not_not]
  constructor
  · rintro ⟨x, hx, e⟩
    obtain ⟨j, hj, rfl⟩ := List.mem_iff_getElem.1 hx
    rw [List.length_take] at hj
    refine ⟨j, by omega, ?_⟩
    rw [← e, List.getElem_take, List.getD_eq_getElem?_getD, List.getElem?_eq_getElem (by omega)]
    rfl
  · rintro ⟨j, hj, e⟩
    refine ⟨rs.getD j default, ?_, e⟩
    rw [List.getD_eq_getElem?_getD, List.getElem?_eq_getElem (by omega)]
    exact List.mem_iff_getElem.2 ⟨j, by rw [List.length_take]; omega, by rw [List.getElem_take]; rfl⟩
set_option maxHeartbeats 1000000 in
theorem gram_unlike {w : World} {A : Option Addr} {c : Nat} {rs : List Rl} (hr : Kd.C kRl w A rs.length rs) (hm : rs.length ≤ 8796093022208) (hc : rs.length ≤ c) :
    Calls Try.prog 31 #[.slice A rs.length c, .func (.func 32) #[] #[]] w fun e w' => e = .returned (.bool (unlikeR rs)) ∧ Below w.heap.size w w' := by
  have HR := Aside0.mk hr
  clear hr
  go_enter Try.func31, Try.ntmps31
  go_wp2
  have HB0 := Aside0.mk (below_alloc (below_alloc (Below.refl _ w) (.cells #[.slice A rs.length c] 23)) (.cells #[.func (.func 32) #[] #[]] 53))
  have K1 := Aside0.mk (blk_alloc (blk_new w (.cells #[.slice A rs.length c] 23)) (.cells #[.func (.func 32) #[] #[]] 53))
  have K2 := Aside0.mk (blk_new (w.alloc (.cells #[.slice A rs.length c] 23)) (.cells #[.func (.func 32) #[] #[]] 53))
  rw [show (w.alloc (.cells #[.slice A rs.length c] 23)).heap.size = w.heap.size + 1 from by simp] at K2
  have hlt0 : w.heap.size + 1 < ((w.alloc (.cells #[.slice A rs.length c] 23)).alloc (.cells #[.func (.func 32) #[] #[]] 53)).heap.size := by simp
  generalize ((w.alloc (.cells #[.slice A rs.length c] 23)).alloc (.cells #[.func (.func 32) #[] #[]] 53)) = W0 at *
  go_loopw [5, 8] (fun _ i wr => ∃ k : Nat, k ≤ rs.length ∧ i = .int .i64 k ∧ w.heap.size + 1 < wr.heap.size ∧ Aside0 (Below w.heap.size w wr) ∧ Aside0 (wr.heap[w.heap.size]? = some (.cells #[.slice A rs.length c] 23 (0, 0))) ∧ Aside0 (wr.heap[w.heap.size + 1]? = some (.cells #[.func (.func 32) #[] #[]] 53 (0, 0))) ∧ Aside0 (∀ i, i < k → ∀ j, j < i → rs.getD j default ≠ rs.getD i default)) (fun _ i _ => rs.length - (intOf i).toNat)
  case atStart => exact ⟨0, Nat.zero_le _, rfl, hlt0, HB0, K1, K2, ⟨fun i hi => absurd hi (Nat.not_lt_zero _)⟩⟩
  case round =>
    clear HB0 K1 K2 hlt0
    obtain ⟨k, hk, rfl, hlt, BW, K1, K2, AF⟩ := hrel
    by_cases hkl : k < rs.length
    · have hkz : (k : Int) < (rs.length : Int) := by omega
      have hlt2 : w.heap.size < wr.heap.size := by omega
      have hC := Kd.C_take HR.out hk
      have hl : (rs.take k).length = k := by rw [List.length_take]; omega
      obtain ⟨ad, _, _, rfl, _⟩ := at_rl HR.out k hkl
      have f1 : wr.cell? ⟨w.heap.size, 0, none⟩ = some (.slice (some ad) rs.length c) := (blk_cell K1.out 0).trans rfl
      have hw1 := below_alloc (Below.refl _ wr) (.cells #[.int .i64 k] 3)
      have hP : PredV (wr.alloc (.cells #[.int .i64 k] 3)) (.func (.func 58) #[] #[.pointer (some ⟨w.heap.size + 1, 0, none⟩), .pointer (some ⟨w.heap.size, 0, none⟩), .pointer (some ⟨wr.heap.size, 0, none⟩)]) (fun W x v => Vrl W x v ∧ x ∈ rs.take k) (fun x => decide (x = rs.getD k default)) := by
        refine ⟨_, _, rfl, fun _ _ => rfl, fun W x v hW hV => ?_⟩
        have hW1 := hw1.trans (hW.mono hw1.size)
        have hsz := hW.size
        simp at hsz
        exact unlike1 (Kd.C_below HR.out (BW.out.trans (hW1.mono BW.out.size))) hm k hkl x v hV.1 ((blk_cell (blk_below K2.out hW1) 0).trans rfl) ((blk_cell (blk_below K1.out hW1) 0).trans rfl)
          ((blk_cell (blk_below (blk_new wr _) hW) 0).trans rfl) (by omega) (by omega) (by omega)
      have hcall := contains_rl (c := c) (Kd.C_below hC (BW.out.trans (hw1.mono BW.out.size))) (by omega) hP
      rw [hl, unlike_any hkl] at hcall
      clear hP hC hl
      by_cases hq : ∀ j, j < k → rs.getD j default ≠ rs.getD k default
      · have HQ := Aside0.mk hq
        rw [decide_eq_true hq] at hcall
        clear hq
        go_wp2_with (go_at_call 49; refine hcall.mono ?_; rintro e w2 ⟨rfl, hb2⟩)
        go_roundw
        case rel =>
          have h3 := hw1.trans (hb2.mono hw1.size)
          have h4 := h3.size
          refine ⟨k + 1, by omega, by go_num, by omega, ⟨BW.out.trans (h3.mono BW.out.size)⟩, ⟨blk_below K1.out h3⟩, ⟨blk_below K2.out h3⟩, ⟨fun i hi j hj => ?_⟩⟩
          by_cases e : i = k
          · subst e
            exact HQ.out j hj
          · exact AF.out i (by omega) j hj
        case measure => simp [intOf]; omega
      · have HQ := Aside0.mk hq
        rw [decide_eq_false hq] at hcall
        clear hq
        go_wp2_with (go_at_call 49; refine hcall.mono ?_; rintro e w2 ⟨rfl, hb2⟩)
        go_ret
        have h3 := hw1.trans (hb2.mono hw1.size)
        exact ⟨rbool (decide_eq_false fun h => HQ.out (h k hkl)).symm, BW.out.trans (h3.mono BW.out.size)⟩
    · have hkz : ¬ (k : Int) < (rs.length : Int) := by omega
      go_wp2
      go_ret
      exact ⟨rbool (decide_eq_true fun i hi => AF.out i (by omega)).symm, BW.out⟩
end Go.Proofs.Ytliofoikejdjeaa
