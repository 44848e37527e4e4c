/- The document's Ordered, Name; gram.Name. -/
import Derived.Test.YtliofoikejdjeaaRefA
namespace Go.Proofs.Ytliofoikejdjeaa
open Go.RowKit Go.Proofs.YtliofoikejdjeaaW.PrintWords
set_option linter.unusedVariables false
set_option linter.unusedSimpArgs false
theorem ofN_none {rs : List Rl} {s : Int} {n : Nat} (h : ∀ j, j < n → (rs.getD j default).left ≠ s) : ofN rs s n = [] := by
  induction n with
  | zero => rfl
  | succ n ih => rw [ofN_succ, ih (fun j hj => h j (by omega)), if_neg (h n (by omega))]; rfl
theorem ofN_first {rs : List Rl} {s : Int} {k : Nat} (h : ∀ j, j < k → (rs.getD j default).left ≠ s) (hk : (rs.getD k default).left = s) : ∀ n, k < n → ∃ r, ofN rs s n = (k : Int) :: r := by
  intro n
  induction n with
  | zero => intro h; omega
  | succ n ih =>
    intro hn
    rw [ofN_succ]
    rcases Nat.lt_or_ge k n with h1 | h1
    · obtain ⟨r, hr⟩ := ih h1
      rw [hr]
      exact ⟨_, rfl⟩
    · obtain rfl : k = n := by omega
      rw [ofN_none h, if_pos hk]
      exact ⟨[], rfl⟩
theorem least {P : Nat → Prop} [DecidablePred P] {n : Nat} (h : ∃ k, k < n ∧ P k) : ∃ k, k < n ∧ P k ∧ ∀ j, j < k → ¬ P j := by
  obtain ⟨k, hk, hp⟩ := h
  induction k using Nat.strongRecOn with
  | _ k ih =>
    by_cases hx : ∃ j, j < k ∧ P j
    · obtain ⟨j, hj, hpj⟩ := hx
      exact ih j hj (by omega) hpj
    · exact ⟨k, hk, hp, fun j hj hpj => hx ⟨j, hj, hpj⟩⟩
theorem first_of (g : Gm) (s : Int) : g.firstAt s = match g.ofS s with
  | [] => (g.rules.length : Int)
  | x :: _ => x := by
  by_cases hx : ∃ k, k < g.rules.length ∧ (g.rules.getD k default).left = s
  · obtain ⟨k, hk, he, hb⟩ := least hx
    obtain ⟨r, hr⟩ := ofN_first hb he g.rules.length hk
    have hi := idxF_hit (p := fun r : Rl => decide (r.left = s)) hk (decide_eq_true he) (fun j hj => decide_eq_false (hb j hj))
    unfold Gm.ofS Gm.firstAt
    rw [hr, hi, if_neg (by omega)]
  · have hb : ∀ j, j < g.rules.length → (g.rules.getD j default).left ≠ s := fun j hj he => hx ⟨j, hj, he⟩
    have hi := idxF_miss (p := fun r : Rl => decide (r.left = s)) (fun j hj => decide_eq_false (hb j hj))
    unfold Gm.ofS Gm.firstAt
    rw [ofN_none hb, hi, if_pos (by omega)]
def Gm.fAt (g : Gm) (i : Nat) : Int := g.firstAt ((g.terms.length : Int) + 1 + (i : Int))
theorem fAt_nonneg (g : Gm) (i : Nat) : 0 ≤ g.fAt i := by
  unfold Gm.fAt Gm.firstAt
  split <;> omega
theorem firsts_getD (g : Gm) {n i : Nat} (h : i < n) : (g.firsts n).getD i default = g.fAt i := by
  unfold Gm.firsts Gm.fAt
  rw [List.getD_eq_getElem?_getD, List.getElem?_map, List.getElem?_range h]
  rfl
theorem ordered_iff (g : Gm) : g.ordered = true ↔ ∀ i, i + 1 < g.nons.length → g.fAt i ≤ g.fAt (i + 1) := by
  unfold Gm.ordered sortedB
  rw [decide_eq_true_iff, firsts_len]
  constructor
  · intro h i hi
    have := h i (by omega)
    rwa [firsts_getD g (by omega), firsts_getD g (by omega)] at this
  · intro h i hi
    rw [firsts_getD g (by omega), firsts_getD g (by omega)]
    exact h i (by omega)
def Gm.lastAt (g : Gm) (k : Nat) : Int := if k = 0 then -1 else g.fAt (k - 1)
section
variable {w : World} {A0 A1 A2 : Option Addr} {c0 c1 c2 : Nat} {g : Gm}
set_option maxHeartbeats 2000000 in
theorem ref06_Ordered (h : GmAt w A0 A1 A2 c0 c1 c2 g) : Calls Try.prog 17 #[.agg (gv A0 A1 A2 c0 c1 c2 g)] w fun e w' => e = .returned (.bool g.ordered) ∧ Below w.heap.size w w' := by
  have h0 := h.m0
  have h1 := h.m1
  have h2 := h.m2
  obtain ⟨W0, hW0⟩ : ∃ W0, W0 = w.alloc (.cells (gv A0 A1 A2 c0 c1 c2 g) 25) := ⟨_, rfl⟩
  have hb0 := below_alloc (Below.refl _ w) (.cells (gv A0 A1 A2 c0 c1 c2 g) 25)
  have hk0 := blk_new w (.cells (gv A0 A1 A2 c0 c1 c2 g) 25)
  rw [← hW0] at hb0 hk0
  have H := h.below hb0
  have K6 : Aside0 (∀ W (s : Int), Below W0.heap.size W0 W → Calls Try.prog 46 #[.agg #[.slice A0 g.terms.length c0, .slice A1 g.nons.length c1, .slice A2 g.rules.length c2, .int .i64 g.start], .int .i64 s] W fun e w' => ∃ A c, e = .returned (.slice A (g.ofS s).length c) ∧ Below W.heap.size W w' ∧ Kd.C (Kd.int .i64) w' A (g.ofS s).length (g.ofS s)) :=
    ⟨fun W s hb => (ref06_Of (H.below hb) s).mono fun e w' ⟨v, he, hv, hb⟩ => by
      obtain ⟨A, c, rfl, hle, hC⟩ := Kd.R_reads hv
      exact ⟨A, c, he, hb, hC⟩⟩
  have GC : Aside0 (∀ W, Below W0.heap.size W0 W → _ ∧ _ ∧ _ ∧ _) := ⟨fun W hb => gcells (blk_below hk0 hb)⟩
  have HW := Aside0.mk hW0
  have HB0 := Aside0.mk hb0
  have hlt0 := blk_lt hk0
  clear h hk0 hb0 H
  unfold gv at *
  go_enter Try.func17, Try.ntmps17
  go_wp2_with fail
  rw [← HW.out]
  clear HW hW0 hlt0
  go_loopw [3, 4, 5, 6] (fun l i _ _ wr => ∃ k : Nat, k ≤ g.nons.length ∧ i = .int .i64 k ∧ l = .int .i64 (g.lastAt k) ∧ Aside0 (Below W0.heap.size W0 wr) ∧ Aside0 (∀ i, i + 1 < k → g.fAt i ≤ g.fAt (i + 1))) (fun _ i _ _ _ => g.nons.length - (intOf i).toNat)
  case atStart => exact ⟨0, Nat.zero_le _, rfl, rfl, ⟨Below.refl _ _⟩, ⟨fun j hj => absurd hj (by omega)⟩⟩
  case round =>
    obtain ⟨k, hk, rfl, rfl, HB, AF⟩ := hrel
    obtain ⟨f0, f1, f2, f3⟩ := GC.out _ HB.out
    by_cases hkl : k < g.nons.length
    · have hkz : (k : Int) < (g.nons.length : Int) := by omega
      have KO := Aside0.mk (K6.out wr ((g.terms.length : Int) + 1 + k) HB.out)
      have hfo : g.fAt k = match g.ofS ((g.terms.length : Int) + 1 + k) with
        | [] => (g.rules.length : Int)
        | x :: _ => x := first_of g _
      obtain ⟨l, hl⟩ : ∃ l, g.ofS ((g.terms.length : Int) + 1 + k) = l := ⟨_, rfl⟩
      rw [hl] at KO hfo
      clear hl
      have HL : Aside0 (g.lastAt (k + 1) = g.fAt k) := ⟨by unfold Gm.lastAt; rw [if_neg (by omega)]; rfl⟩
      have HP : Aside0 (k ≠ 0 → g.lastAt k = g.fAt (k - 1)) := ⟨fun h => by unfold Gm.lastAt; rw [if_neg h]⟩
      have HZ : Aside0 (k = 0 → g.lastAt k = -1) := ⟨fun h => by unfold Gm.lastAt; rw [if_pos h]⟩
      have hnn := fAt_nonneg g k
      have OT : Aside0 (g.fAt k < g.lastAt k → g.ordered = false) := ⟨fun h => by
        rcases Nat.eq_zero_or_pos k with h0 | h0
        · have := HZ.out h0; omega
        · rw [HP.out (by omega)] at h
          rw [Bool.eq_false_iff]
          intro ho
          have h3 := (ordered_iff g).1 ho (k - 1) (by omega)
          rw [show k - 1 + 1 = k from by omega] at h3
          omega⟩
      have OK : Aside0 (¬ g.fAt k < g.lastAt k → ∀ i, i + 1 < k + 1 → g.fAt i ≤ g.fAt (i + 1)) := ⟨fun h i hi => by
        rcases Nat.lt_or_ge (i + 1) k with h0 | h0
        · exact AF.out i h0
        · obtain rfl : k = i + 1 := by omega
          have := HP.out (by omega)
          rw [show i + 1 - 1 = i from rfl] at this
          omega⟩
      generalize g.lastAt k = la at *
      obtain ⟨fa, hfa⟩ : ∃ fa, g.fAt k = fa := ⟨_, rfl⟩
      rw [hfa] at hfo HL OT OK hnn
      clear hfa HP HZ AF
      have HFO := Aside0.mk hfo
      cases l with
      | nil =>
        obtain rfl : fa = (g.rules.length : Int) := hfo
        by_cases hlt : (g.rules.length : Int) < la
        · go_wp2_with (go_at_call 46; refine KO.out.mono ?_; rintro e w7 ⟨A, c, rfl, hb7, hC7⟩; clear f0 f1 f2 f3; obtain ⟨f0, f1, f2, f3⟩ := GC.out _ (HB.out.trans (hb7.mono HB.out.size)))
          go_ret
          have h6 := HB.out.trans (hb7.mono HB.out.size)
          exact ⟨rbool (OT.out hlt).symm, HB0.out.trans (h6.mono HB0.out.size)⟩
        · go_wp2_with (go_at_call 46; refine KO.out.mono ?_; rintro e w7 ⟨A, c, rfl, hb7, hC7⟩; clear f0 f1 f2 f3; obtain ⟨f0, f1, f2, f3⟩ := GC.out _ (HB.out.trans (hb7.mono HB.out.size)))
          go_roundw
          case rel => exact ⟨k + 1, by omega, by go_num, by rw [HL.out], ⟨HB.out.trans (hb7.mono HB.out.size)⟩, ⟨OK.out hlt⟩⟩
          case measure => simp [intOf]; omega
      | cons x xs =>
        obtain rfl : fa = x := hfo
        by_cases hlt : fa < la
        · go_wp2_with (go_at_call 46; refine KO.out.mono ?_; rintro e w7 ⟨A, c, rfl, hb7, hC7⟩; clear f0 f1 f2 f3; obtain ⟨f0, f1, f2, f3⟩ := GC.out _ (HB.out.trans (hb7.mono HB.out.size)); obtain ⟨ad, rfl, l1⟩ := at_int hC7 0 (by simp); have l2 : w7.cell? ad = some (.int .i64 fa) := l1; clear l1 hC7)
          go_ret
          have h6 := HB.out.trans (hb7.mono HB.out.size)
          exact ⟨rbool (OT.out hlt).symm, HB0.out.trans (h6.mono HB0.out.size)⟩
        · go_wp2_with (go_at_call 46; refine KO.out.mono ?_; rintro e w7 ⟨A, c, rfl, hb7, hC7⟩; clear f0 f1 f2 f3; obtain ⟨f0, f1, f2, f3⟩ := GC.out _ (HB.out.trans (hb7.mono HB.out.size)); obtain ⟨ad, rfl, l1⟩ := at_int hC7 0 (by simp); have l2 : w7.cell? ad = some (.int .i64 fa) := l1; clear l1 hC7)
          go_roundw
          case rel => exact ⟨k + 1, by omega, by go_num, by rw [HL.out], ⟨HB.out.trans (hb7.mono HB.out.size)⟩, ⟨OK.out hlt⟩⟩
          case measure => simp [intOf]; omega
    · have hkz : ¬ (k : Int) < (g.nons.length : Int) := by omega
      obtain rfl : k = g.nons.length := by omega
      go_wp2
      go_ret
      exact ⟨rbool ((ordered_iff g).2 AF.out).symm, HB0.out.trans (HB.out.mono HB0.out.size)⟩
/-- A symbol's name. -/
def Gm.nameOf (g : Gm) (s : Int) : ByteArray := if s = 0 then ⟨#[36]⟩ else if 1 ≤ s ∧ s ≤ g.top then g.names.getD (s.toNat - 1) default else ⟨#[]⟩
theorem ref06_Name (h : GmAt w A0 A1 A2 c0 c1 c2 g) (ms : g.terms.length + g.nons.length ≤ 8796093022208) (s : Int) : Calls Try.prog 18 #[.agg (gv A0 A1 A2 c0 c1 c2 g), .int .i64 s] w fun e w' => e = .returned (.string (g.nameOf s)) ∧ Below w.heap.size w w' := by
  by_cases z : s = 0
  · subst z
    clear h
    unfold gv
    go_enter Try.func18, Try.ntmps18
    go_wp2
    go_ret
    exact ⟨rfl, below_alloc (Below.refl _ _) _⟩
  have hzb : (s == 0) = false := beq_false_of_ne z
  by_cases z1 : s < 1
  · have hr : g.nameOf s = ⟨#[]⟩ := by unfold Gm.nameOf; rw [if_neg z, if_neg (by omega)]
    rw [hr]
    clear h hr
    unfold gv
    go_enter Try.func18, Try.ntmps18
    go_wp2
    go_ret
    exact ⟨rfl, below_alloc (Below.refl _ _) _⟩
  have hb0 := below_alloc (Below.refl _ w) (.cells (gv A0 A1 A2 c0 c1 c2 g) 25)
  have hk0 := blk_new w (.cells (gv A0 A1 A2 c0 c1 c2 g) 25)
  have HTop := Aside0.mk (ref06_Top (h.below hb0))
  have HNm := Aside0.mk (fun (W : World) (hb : Below w.heap.size w W) => ref06_names (h.below hb) ms)
  have HK := Aside0.mk hk0
  have HB0 := Aside0.mk hb0
  have hlt := blk_lt hk0
  clear h hb0 hk0
  by_cases z2 : g.top < s
  · have hr : g.nameOf s = ⟨#[]⟩ := by unfold Gm.nameOf; rw [if_neg z, if_neg (by omega)]
    rw [hr]
    clear hr HNm
    unfold gv at *
    go_enter Try.func18, Try.ntmps18
    go_wp2_with (go_at_call 47; refine HTop.out.mono ?_; rintro e w1 ⟨rfl, hb1⟩)
    go_ret
    exact ⟨rfl, below_new hb1⟩
  · have hr : g.nameOf s = g.names.getD (s.toNat - 1) default := by unfold Gm.nameOf; rw [if_neg z, if_pos (by omega)]
    have hl : (s.toNat - 1) < g.names.length := by
      have : (g.names.length : Int) = g.top := by simp [Gm.names, Gm.top]
      omega
    have hl1 : s - 1 < (g.names.length : Int) := by omega
    have hs : s.natAbs < 4611686018427387904 := by unfold Gm.top at z2; omega
    have hl0 : 0 ≤ s - 1 := by omega
    rw [hr]
    obtain ⟨y, hy⟩ : ∃ y, g.names.getD (s.toNat - 1) default = y := ⟨_, rfl⟩
    rw [hy]
    have HY := Aside0.mk hy
    clear hy
    clear hr
    unfold gv at *
    go_enter Try.func18, Try.ntmps18
    go_wp2_with (first | (go_at_call 47; refine HTop.out.mono ?_; rintro e w1 ⟨rfl, hb1⟩; obtain ⟨f0, f1, f2, f3⟩ := gcells (blk_below HK.out hb1)) | (go_at_call 43; refine (HNm.out _ (below_new hb1)).mono ?_; rintro e w2 ⟨v, rfl, hv, hb2⟩; obtain ⟨A, cap, rfl, hle, hC⟩ := Kd.R_reads hv; obtain ⟨ad, rfl, l2⟩ := at_str hC _ hl; rw [HY.out] at l2; clear hv hC))
    go_ret
    exact ⟨rfl, (below_new hb1).trans (hb2.mono (below_new hb1).size)⟩
theorem gram_Name (h : GmAt w A0 A1 A2 c0 c1 c2 g) (s : Int) : Calls Try.prog 20 #[.agg (gv A0 A1 A2 c0 c1 c2 g), .int .i64 s] w fun e w' => e = .returned (.string (g.nameOf s)) ∧ Below w.heap.size w w' := by
  have m0 := h.m0
  have m1 := h.m1
  by_cases z : s = 0
  · subst z
    clear h
    unfold gv
    go_enter Try.func20, Try.ntmps20
    go_wp2
    go_ret
    exact ⟨rfl, below_alloc (Below.refl _ _) _⟩
  have hzb : (s == 0) = false := beq_false_of_ne z
  have hb0 := below_alloc (Below.refl _ w) (.cells (gv A0 A1 A2 c0 c1 c2 g) 25)
  have hk0 := blk_new w (.cells (gv A0 A1 A2 c0 c1 c2 g) 25)
  have HTm := Aside0.mk (gram_Term (h.below hb0) s)
  have HNn := Aside0.mk (fun (W : World) (hb : Below w.heap.size w W) => gram_Non (h.below hb) s)
  have HT := Aside0.mk h.terms
  have HN := Aside0.mk h.nons
  have HK := Aside0.mk hk0
  have HB0 := Aside0.mk hb0
  have hlt := blk_lt hk0
  clear h hb0 hk0
  by_cases z1 : 1 ≤ s ∧ s ≤ g.terms.length
  · have ht : g.isTerm s = true := by simp [Gm.isTerm, z1]
    obtain ⟨y1, y2⟩ := z1
    have hl : (s.toNat - 1) < g.terms.length := by omega
    have hl1 : s - 1 < (g.terms.length : Int) := by omega
    have hs : s.natAbs < 4611686018427387904 := by omega
    have hl0 : 0 ≤ s - 1 := by omega
    have hr : g.nameOf s = g.terms.getD (s.toNat - 1) default := by
      unfold Gm.nameOf Gm.names
      rw [if_neg z, if_pos (by unfold Gm.top; omega), List.getD_eq_getElem?_getD, List.getD_eq_getElem?_getD, List.getElem?_append_left hl]
    rw [ht] at HTm
    rw [hr]
    obtain ⟨y, hy⟩ : ∃ y, g.terms.getD (s.toNat - 1) default = y := ⟨_, rfl⟩
    rw [hy]
    have HY := Aside0.mk hy
    clear hy
    clear hr ht HNn
    unfold gv at *
    go_enter Try.func20, Try.ntmps20
    go_wp2_with (go_at_call 48; refine HTm.out.mono ?_; rintro e w1 ⟨rfl, hb1⟩; obtain ⟨f0, f1, f2, f3⟩ := gcells (blk_below HK.out hb1); obtain ⟨ad, rfl, l2⟩ := at_str (Kd.C_below HT.out (below_new hb1)) _ hl; rw [HY.out] at l2)
    go_ret
    exact ⟨rfl, below_new hb1⟩
  have ht : g.isTerm s = false := by simp [Gm.isTerm]; omega
  rw [ht] at HTm
  clear ht
  by_cases z2 : (g.terms.length : Int) < s ∧ s ≤ g.top
  · have hn : g.isNon s = true := by simp [Gm.isNon, z2]
    obtain ⟨y1, y2⟩ := z2
    unfold Gm.top at y2
    have hl : (s.toNat - 1 - g.terms.length) < g.nons.length := by omega
    have hl1 : s - 1 - g.terms.length < (g.nons.length : Int) := by omega
    have hs : s.natAbs < 4611686018427387904 := by omega
    have hl0 : 0 ≤ s - 1 - g.terms.length := by omega
    have hr : g.nameOf s = g.nons.getD (s.toNat - 1 - g.terms.length) default := by
      unfold Gm.nameOf Gm.names
      rw [if_neg z, if_pos (by unfold Gm.top; omega), List.getD_eq_getElem?_getD, List.getD_eq_getElem?_getD, List.getElem?_append_right (by omega)]
    rw [hn] at HNn
    rw [hr]
    obtain ⟨y, hy⟩ : ∃ y, g.nons.getD (s.toNat - 1 - g.terms.length) default = y := ⟨_, rfl⟩
    rw [hy]
    have HY := Aside0.mk hy
    clear hy
    clear hr hn
    unfold gv at *
    go_enter Try.func20, Try.ntmps20
    go_wp2_with (first | (go_at_call 48; refine HTm.out.mono ?_; rintro e w1 ⟨rfl, hb1⟩; obtain ⟨f0, f1, f2, f3⟩ := gcells (blk_below HK.out hb1)) | (go_at_call 28; refine (HNn.out _ (below_new hb1)).mono ?_; rintro e w2 ⟨rfl, hb2⟩; clear f0 f1 f2 f3; obtain ⟨f0, f1, f2, f3⟩ := gcells (blk_below HK.out (hb1.trans (hb2.mono hb1.size))); obtain ⟨ad, rfl, l2⟩ := at_str (Kd.C_below HN.out ((below_new hb1).trans (hb2.mono (below_new hb1).size))) _ hl; rw [HY.out] at l2))
    go_ret
    exact ⟨rfl, (below_new hb1).trans (hb2.mono (below_new hb1).size)⟩
  · have hn : g.isNon s = false := by simp [Gm.isNon]; omega
    have hr : g.nameOf s = ⟨#[]⟩ := by
      unfold Gm.nameOf
      rw [if_neg z, if_neg (by unfold Gm.top at *; omega)]
    rw [hn] at HNn
    rw [hr]
    clear hr hn z1 z2
    unfold gv at *
    go_enter Try.func20, Try.ntmps20
    go_wp2_with (first | (go_at_call 48; refine HTm.out.mono ?_; rintro e w1 ⟨rfl, hb1⟩; obtain ⟨f0, f1, f2, f3⟩ := gcells (blk_below HK.out hb1)) | (go_at_call 28; refine (HNn.out _ (below_new hb1)).mono ?_; rintro e w2 ⟨rfl, hb2⟩))
    go_ret
    exact ⟨rfl, (below_new hb1).trans (hb2.mono (below_new hb1).size)⟩
end
end Go.Proofs.Ytliofoikejdjeaa
