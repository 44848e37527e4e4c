/- Texts laid one behind the other: GN, RefB, Show1, Show2, Show4, Show5, Much, Awake, Awk, P1, Q1. -/
import Derived.Test.YtliofoikejdjeaaGreatV1
import Derived.Test.YtliofoikejdjeaaGreatV3
import Derived.Test.YtliofoikejdjeaaGreatV2
import Derived.Lib.Index
/- gram.Name. -/
namespace Go.Proofs.YtliofoikejdjeaaGreat
open Go.RowKit Go.Proofs.YtliofoikejdjeaaGreatW.PrintWords
set_option linter.unusedVariables false
set_option maxRecDepth 100000
set_option linter.unusedSimpArgs false
section
variable {w : World} {A0 A1 A2 : Option Addr} {c0 c1 c2 : Nat} {g : Gm}
theorem gram_Name (h : GmAt w A0 A1 A2 c0 c1 c2 g) (s : Int) : Calls Tryz.prog 38 #[.agg (gv A0 A1 A2 c0 c1 c2 g), .int .i64 s] w fun e w' => e = .returned (.string (g.nameOf s)) ∧ Below w.heap.size w w' := by
  have m0 := h.m0
  have m1 := h.m1
  by_cases z : s = 0
  · subst z
    clear h
    unfold gv
    go_enter Tryz.func38, Tryz.ntmps38
    go_wp2
    go_ret
    exact ⟨rfl, below_alloc (Below.refl _ _) _⟩
  have hzb : (s == 0) = false := beq_false_of_ne z
  have hb0 := below_alloc (Below.refl _ w) (.cells (gv A0 A1 A2 c0 c1 c2 g) 25)
  have hk0 := blk_new w (.cells (gv A0 A1 A2 c0 c1 c2 g) 25)
  have HTm := Aside0.mk (gram_Term (h.below hb0) s)
  have HNn := Aside0.mk (fun (W : World) (hb : Below w.heap.size w W) => gram_Non (h.below hb) s)
  have HT := Aside0.mk h.terms
  have HN := Aside0.mk h.nons
  have HK := Aside0.mk hk0
  have HB0 := Aside0.mk hb0
  have hlt := blk_lt hk0
  clear h hb0 hk0
  by_cases z1 : 1 ≤ s ∧ s ≤ g.terms.length
  · have ht : g.isTerm s = true := by simp [Gm.isTerm, z1]
    obtain ⟨y1, y2⟩ := z1
    have hl : (s.toNat - 1) < g.terms.length := by omega
    have hl1 : s - 1 < (g.terms.length : Int) := by omega
    have hs : s.natAbs < 4611686018427387904 := by omega
    have hl0 : 0 ≤ s - 1 := by omega
    have hr : g.nameOf s = g.terms.getD (s.toNat - 1) default := by
      unfold Gm.nameOf Gm.names
      rw [if_neg z, if_pos (by unfold Gm.top; omega), List.getD_eq_getElem?_getD, List.getD_eq_getElem?_getD, List.getElem?_append_left hl]
    rw [ht] at HTm
    rw [hr]
    obtain ⟨y, hy⟩ : ∃ y, g.terms.getD (s.toNat - 1) default = y := ⟨_, rfl⟩
    rw [hy]
    have HY := Aside0.mk hy
    clear hy
    clear hr ht HNn
    unfold gv at *
    go_enter Tryz.func38, Tryz.ntmps38
    go_wp2_with (go_at_call 71; refine HTm.out.mono ?_; rintro e w1 ⟨rfl, hb1⟩; obtain ⟨f0, f1, f2, f3⟩ := gcells (blk_below HK.out hb1); obtain ⟨ad, rfl, l2⟩ := at_str (Kd.C_below HT.out (below_new hb1)) _ hl; rw [HY.out] at l2)
    go_ret
    exact ⟨rfl, below_new hb1⟩
  have ht : g.isTerm s = false := by simp [Gm.isTerm]; omega
  rw [ht] at HTm
  clear ht
  by_cases z2 : (g.terms.length : Int) < s ∧ s ≤ g.top
  · have hn : g.isNon s = true := by simp [Gm.isNon, z2]
    obtain ⟨y1, y2⟩ := z2
    unfold Gm.top at y2
    have hl : (s.toNat - 1 - g.terms.length) < g.nons.length := by omega
    have hl1 : s - 1 - g.terms.length < (g.nons.length : Int) := by omega
    have hs : s.natAbs < 4611686018427387904 := by omega
    have hl0 : 0 ≤ s - 1 - g.terms.length := by omega
    have hr : g.nameOf s = g.nons.getD (s.toNat - 1 - g.terms.length) default := by
      unfold Gm.nameOf Gm.names
      rw [if_neg z, if_pos (by unfold Gm.top; omega), List.getD_eq_getElem?_getD, List.getD_eq_getElem?_getD, List.getElem?_append_right (by omega)]
    rw [hn] at HNn
    rw [hr]
    obtain ⟨y, hy⟩ : ∃ y, g.nons.getD (s.toNat - 1 - g.terms.length) default = y := ⟨_, rfl⟩
    rw [hy]
    have HY := Aside0.mk hy
    clear hy
    clear hr hn
    unfold gv at *
    go_enter Tryz.func38, Tryz.ntmps38
    go_wp2_with (first | (go_at_call 71; refine HTm.out.mono ?_; rintro e w1 ⟨rfl, hb1⟩; obtain ⟨f0, f1, f2, f3⟩ := gcells (blk_below HK.out hb1)) | (go_at_call 46; refine (HNn.out _ (below_new hb1)).mono ?_; rintro e w2 ⟨rfl, hb2⟩; clear f0 f1 f2 f3; obtain ⟨f0, f1, f2, f3⟩ := gcells (blk_below HK.out (hb1.trans (hb2.mono hb1.size))); obtain ⟨ad, rfl, l2⟩ := at_str (Kd.C_below HN.out ((below_new hb1).trans (hb2.mono (below_new hb1).size))) _ hl; rw [HY.out] at l2))
    go_ret
    exact ⟨rfl, (below_new hb1).trans (hb2.mono (below_new hb1).size)⟩
  · have hn : g.isNon s = false := by simp [Gm.isNon]; omega
    have hr : g.nameOf s = ⟨#[]⟩ := by
      unfold Gm.nameOf
      rw [if_neg z, if_neg (by unfold Gm.top at *; omega)]
    rw [hn] at HNn
    rw [hr]
    clear hr hn z1 z2
    unfold gv at *
    go_enter Tryz.func38, Tryz.ntmps38
    go_wp2_with (first | (go_at_call 71; refine HTm.out.mono ?_; rintro e w1 ⟨rfl, hb1⟩; obtain ⟨f0, f1, f2, f3⟩ := gcells (blk_below HK.out hb1)) | (go_at_call 46; refine (HNn.out _ (below_new hb1)).mono ?_; rintro e w2 ⟨rfl, hb2⟩))
    go_ret
    exact ⟨rfl, (below_new hb1).trans (hb2.mono (below_new hb1).size)⟩
end
end Go.Proofs.YtliofoikejdjeaaGreat
/- The document's Ordered, Name; gram.Name. -/
namespace Go.Proofs.YtliofoikejdjeaaGreat
open Go.RowKit Go.Proofs.YtliofoikejdjeaaGreatW.PrintWords
set_option linter.unusedVariables false
set_option maxRecDepth 100000
set_option linter.unusedSimpArgs false
theorem ofN_none {rs : List Rl} {s : Int} {n : Nat} (h : ∀ j, j < n → (rs.getD j default).left ≠ s) : ofN rs s n = [] := by
  induction n with
  | zero => rfl
  | succ n ih => rw [ofN_succ, ih (fun j hj => h j (by omega)), if_neg (h n (by omega))]; rfl
theorem ofN_first {rs : List Rl} {s : Int} {k : Nat} (h : ∀ j, j < k → (rs.getD j default).left ≠ s) (hk : (rs.getD k default).left = s) : ∀ n, k < n → ∃ r, ofN rs s n = (k : Int) :: r := by
  intro n
  induction n with
  | zero => intro h; omega
  | succ n ih =>
    intro hn
    rw [ofN_succ]
    rcases Nat.lt_or_ge k n with h1 | h1
    · obtain ⟨r, hr⟩ := ih h1
      rw [hr]
      exact ⟨_, rfl⟩
    · obtain rfl : k = n := by omega
      rw [ofN_none h, if_pos hk]
      exact ⟨[], rfl⟩
theorem least {P : Nat → Prop} [DecidablePred P] {n : Nat} (h : ∃ k, k < n ∧ P k) : ∃ k, k < n ∧ P k ∧ ∀ j, j < k → ¬ P j := by
  obtain ⟨k, hk, hp⟩ := h
  induction k using Nat.strongRecOn with
  | _ k ih =>
    by_cases hx : ∃ j, j < k ∧ P j
    · obtain ⟨j, hj, hpj⟩ := hx
      exact ih j hj (by omega) hpj
    · exact ⟨k, hk, hp, fun j hj hpj => hx ⟨j, hj, hpj⟩⟩
theorem first_of (g : Gm) (s : Int) : g.firstAt s = match g.ofS s with
  | [] => (g.rules.length : Int)
  | x :: _ => x := by
  by_cases hx : ∃ k, k < g.rules.length ∧ (g.rules.getD k default).left = s
  · obtain ⟨k, hk, he, hb⟩ := least hx
    obtain ⟨r, hr⟩ := ofN_first hb he g.rules.length hk
    have hi := idxF_hit (p := fun r : Rl => decide (r.left = s)) hk (decide_eq_true he) (fun j hj => decide_eq_false (hb j hj))
    unfold Gm.ofS Gm.firstAt
    rw [hr, hi, if_neg (by omega)]
  · have hb : ∀ j, j < g.rules.length → (g.rules.getD j default).left ≠ s := fun j hj he => hx ⟨j, hj, he⟩
    have hi := idxF_miss (p := fun r : Rl => decide (r.left = s)) (fun j hj => decide_eq_false (hb j hj))
    unfold Gm.ofS Gm.firstAt
    rw [ofN_none hb, hi, if_pos (by omega)]
def Gm.fAt (g : Gm) (i : Nat) : Int := g.firstAt ((g.terms.length : Int) + 1 + (i : Int))
theorem fAt_nonneg (g : Gm) (i : Nat) : 0 ≤ g.fAt i := by
  unfold Gm.fAt Gm.firstAt
  split <;> omega
theorem firsts_getD (g : Gm) {n i : Nat} (h : i < n) : (g.firsts n).getD i default = g.fAt i := by
  unfold Gm.firsts Gm.fAt
  rw [List.getD_eq_getElem?_getD, List.getElem?_map, List.getElem?_range h]
  rfl
theorem ordered_iff (g : Gm) : g.ordered = true ↔ ∀ i, i + 1 < g.nons.length → g.fAt i ≤ g.fAt (i + 1) := by
  unfold Gm.ordered sortedB
  rw [decide_eq_true_iff, firsts_len]
  constructor
  · intro h i hi
    have := h i (by omega)
    rwa [firsts_getD g (by omega), firsts_getD g (by omega)] at this
  · intro h i hi
    rw [firsts_getD g (by omega), firsts_getD g (by omega)]
    exact h i (by omega)
def Gm.lastAt (g : Gm) (k : Nat) : Int := if k = 0 then -1 else g.fAt (k - 1)
section
variable {w : World} {A0 A1 A2 : Option Addr} {c0 c1 c2 : Nat} {g : Gm}
set_option maxHeartbeats 2000000 in
theorem ref06_Ordered (h : GmAt w A0 A1 A2 c0 c1 c2 g) : Calls Tryz.prog 7 #[.agg (gv A0 A1 A2 c0 c1 c2 g)] w fun e w' => e = .returned (.bool g.ordered) ∧ Below w.heap.size w w' := by
  have h0 := h.m0
  have h1 := h.m1
  have h2 := h.m2
  obtain ⟨W0, hW0⟩ : ∃ W0, W0 = w.alloc (.cells (gv A0 A1 A2 c0 c1 c2 g) 25) := ⟨_, rfl⟩
  have hb0 := below_alloc (Below.refl _ w) (.cells (gv A0 A1 A2 c0 c1 c2 g) 25)
  have hk0 := blk_new w (.cells (gv A0 A1 A2 c0 c1 c2 g) 25)
  rw [← hW0] at hb0 hk0
  have H := h.below hb0
  have K6 : Aside0 (∀ W (s : Int), Below W0.heap.size W0 W → Calls Tryz.prog 18 #[.agg #[.slice A0 g.terms.length c0, .slice A1 g.nons.length c1, .slice A2 g.rules.length c2, .int .i64 g.start], .int .i64 s] W fun e w' => ∃ A c, e = .returned (.slice A (g.ofS s).length c) ∧ Below W.heap.size W w' ∧ Kd.C (Kd.int .i64) w' A (g.ofS s).length (g.ofS s)) :=
    ⟨fun W s hb => (ref06_Of (H.below hb) s).mono fun e w' ⟨v, he, hv, hb⟩ => by
      obtain ⟨A, c, rfl, hle, hC⟩ := Kd.R_reads hv
      exact ⟨A, c, he, hb, hC⟩⟩
  have GC : Aside0 (∀ W, Below W0.heap.size W0 W → _ ∧ _ ∧ _ ∧ _) := ⟨fun W hb => gcells (blk_below hk0 hb)⟩
  have HW := Aside0.mk hW0
  have HB0 := Aside0.mk hb0
  have hlt0 := blk_lt hk0
  clear h hk0 hb0 H
  unfold gv at *
  go_enter Tryz.func7, Tryz.ntmps7
  go_wp2_with fail
  rw [← HW.out]
  clear HW hW0 hlt0
  go_loopw [3, 4, 5, 6] (fun l i _ _ wr => ∃ k : Nat, k ≤ g.nons.length ∧ i = .int .i64 k ∧ l = .int .i64 (g.lastAt k) ∧ Aside0 (Below W0.heap.size W0 wr) ∧ Aside0 (∀ i, i + 1 < k → g.fAt i ≤ g.fAt (i + 1))) (fun _ i _ _ _ => g.nons.length - (intOf i).toNat)
  case atStart => exact ⟨0, Nat.zero_le _, rfl, rfl, ⟨Below.refl _ _⟩, ⟨fun j hj => absurd hj (by omega)⟩⟩
  case round =>
    obtain ⟨k, hk, rfl, rfl, HB, AF⟩ := hrel
    obtain ⟨f0, f1, f2, f3⟩ := GC.out _ HB.out
    by_cases hkl : k < g.nons.length
    · have hkz : (k : Int) < (g.nons.length : Int) := by omega
      have KO := Aside0.mk (K6.out wr ((g.terms.length : Int) + 1 + k) HB.out)
      have hfo : g.fAt k = match g.ofS ((g.terms.length : Int) + 1 + k) with
        | [] => (g.rules.length : Int)
        | x :: _ => x := first_of g _
      obtain ⟨l, hl⟩ : ∃ l, g.ofS ((g.terms.length : Int) + 1 + k) = l := ⟨_, rfl⟩
      rw [hl] at KO hfo
      clear hl
      have HL : Aside0 (g.lastAt (k + 1) = g.fAt k) := ⟨by unfold Gm.lastAt; rw [if_neg (by omega)]; rfl⟩
      have HP : Aside0 (k ≠ 0 → g.lastAt k = g.fAt (k - 1)) := ⟨fun h => by unfold Gm.lastAt; rw [if_neg h]⟩
      have HZ : Aside0 (k = 0 → g.lastAt k = -1) := ⟨fun h => by unfold Gm.lastAt; rw [if_pos h]⟩
      have hnn := fAt_nonneg g k
      have OT : Aside0 (g.fAt k < g.lastAt k → g.ordered = false) := ⟨fun h => by
        rcases Nat.eq_zero_or_pos k with h0 | h0
        · have := HZ.out h0; omega
        · rw [HP.out (by omega)] at h
          rw [Bool.eq_false_iff]
          intro ho
          have h3 := (ordered_iff g).1 ho (k - 1) (by omega)
          rw [show k - 1 + 1 = k from by omega] at h3
          omega⟩
      have OK : Aside0 (¬ g.fAt k < g.lastAt k → ∀ i, i + 1 < k + 1 → g.fAt i ≤ g.fAt (i + 1)) := ⟨fun h i hi => by
        rcases Nat.lt_or_ge (i + 1) k with h0 | h0
        · exact AF.out i h0
        · obtain rfl : k = i + 1 := by omega
          have := HP.out (by omega)
          rw [show i + 1 - 1 = i from rfl] at this
          omega⟩
      generalize g.lastAt k = la at *
      obtain ⟨fa, hfa⟩ : ∃ fa, g.fAt k = fa := ⟨_, rfl⟩
      rw [hfa] at hfo HL OT OK hnn
      clear hfa HP HZ AF
      have HFO := Aside0.mk hfo
      cases l with
      | nil =>
        obtain rfl : fa = (g.rules.length : Int) := hfo
        by_cases hlt : (g.rules.length : Int) < la
        · go_wp2_with (go_at_call 18; refine KO.out.mono ?_; rintro e w7 ⟨A, c, rfl, hb7, hC7⟩; clear f0 f1 f2 f3; obtain ⟨f0, f1, f2, f3⟩ := GC.out _ (HB.out.trans (hb7.mono HB.out.size)))
          go_ret
          have h6 := HB.out.trans (hb7.mono HB.out.size)
          exact ⟨rbool (OT.out hlt).symm, HB0.out.trans (h6.mono HB0.out.size)⟩
        · go_wp2_with (go_at_call 18; refine KO.out.mono ?_; rintro e w7 ⟨A, c, rfl, hb7, hC7⟩; clear f0 f1 f2 f3; obtain ⟨f0, f1, f2, f3⟩ := GC.out _ (HB.out.trans (hb7.mono HB.out.size)))
          go_roundw
          case rel => exact ⟨k + 1, by omega, by go_num, by rw [HL.out], ⟨HB.out.trans (hb7.mono HB.out.size)⟩, ⟨OK.out hlt⟩⟩
          case measure => simp [intOf]; omega
      | cons x xs =>
        obtain rfl : fa = x := hfo
        by_cases hlt : fa < la
        · go_wp2_with (go_at_call 18; refine KO.out.mono ?_; rintro e w7 ⟨A, c, rfl, hb7, hC7⟩; clear f0 f1 f2 f3; obtain ⟨f0, f1, f2, f3⟩ := GC.out _ (HB.out.trans (hb7.mono HB.out.size)); obtain ⟨ad, rfl, l1⟩ := at_int hC7 0 (by simp); have l2 : w7.cell? ad = some (.int .i64 fa) := l1; clear l1 hC7)
          go_ret
          have h6 := HB.out.trans (hb7.mono HB.out.size)
          exact ⟨rbool (OT.out hlt).symm, HB0.out.trans (h6.mono HB0.out.size)⟩
        · go_wp2_with (go_at_call 18; refine KO.out.mono ?_; rintro e w7 ⟨A, c, rfl, hb7, hC7⟩; clear f0 f1 f2 f3; obtain ⟨f0, f1, f2, f3⟩ := GC.out _ (HB.out.trans (hb7.mono HB.out.size)); obtain ⟨ad, rfl, l1⟩ := at_int hC7 0 (by simp); have l2 : w7.cell? ad = some (.int .i64 fa) := l1; clear l1 hC7)
          go_roundw
          case rel => exact ⟨k + 1, by omega, by go_num, by rw [HL.out], ⟨HB.out.trans (hb7.mono HB.out.size)⟩, ⟨OK.out hlt⟩⟩
          case measure => simp [intOf]; omega
    · have hkz : ¬ (k : Int) < (g.nons.length : Int) := by omega
      obtain rfl : k = g.nons.length := by omega
      go_wp2
      go_ret
      exact ⟨rbool ((ordered_iff g).2 AF.out).symm, HB0.out.trans (HB.out.mono HB0.out.size)⟩
end
end Go.Proofs.YtliofoikejdjeaaGreat
/- blanks, right sides, rules: the program's and the document's. -/
namespace Go.Proofs.YtliofoikejdjeaaGreat
open Go.RowKit Go.Proofs.YtliofoikejdjeaaGreatW.PrintWords
set_option linter.unusedVariables false
set_option maxRecDepth 100000
set_option linter.unusedSimpArgs false
def blanksB (l : List ByteArray) : ByteArray := l.foldl (fun s x => s ++ ⟨#[32]⟩ ++ x) ⟨#[]⟩
theorem blanks_snoc (l : List ByteArray) (x : ByteArray) : blanksB (l ++ [x]) = blanksB l ++ ⟨#[32]⟩ ++ x := by
  unfold blanksB
  rw [List.foldl_append]
  rfl
theorem take_snoc {α : Type} [Inhabited α] {l : List α} {k : Nat} (hk : k < l.length) : l.take (k + 1) = l.take k ++ [l.getD k default] := by
  rw [List.take_succ_eq_append_getElem hk, List.getD_eq_getElem?_getD, List.getElem?_eq_getElem hk]
  rfl
theorem blanks_take {l : List ByteArray} {k : Nat} (hk : k < l.length) : blanksB (l.take (k + 1)) = blanksB (l.take k) ++ ⟨#[32]⟩ ++ l.getD k default := by rw [take_snoc hk, blanks_snoc]
def szs (l : List ByteArray) : Nat := (l.map fun x => x.size + 1).sum
theorem szs_cons (x : ByteArray) (l : List ByteArray) : szs (x :: l) = x.size + 1 + szs l := by simp [szs]
theorem blanks_fold (l : List ByteArray) : ∀ s : ByteArray, (l.foldl (fun s x => s ++ ⟨#[32]⟩ ++ x) s).size = s.size + szs l := by
  induction l with
  | nil => intro s; rfl
  | cons x l ih =>
    intro s
    rw [List.foldl_cons, ih, ByteArray.size_append, ByteArray.size_append, szs_cons]
    have : (⟨#[32]⟩ : ByteArray).size = 1 := rfl
    omega
theorem blanks_size (l : List ByteArray) : (blanksB l).size = szs l := by
  unfold blanksB
  rw [blanks_fold]
  exact Nat.zero_add _
theorem szs_take (l : List ByteArray) : ∀ k : Nat, szs (l.take k) ≤ szs l := by
  induction l with
  | nil => intro k; simp
  | cons x l ih =>
    intro k
    cases k with
    | zero => rw [List.take_zero]; exact Nat.zero_le _
    | succ k =>
      rw [List.take_succ_cons, szs_cons, szs_cons]
      have := ih k
      omega
theorem szs_le {l : List ByteArray} {m : Nat} (h : ∀ x ∈ l, x.size ≤ m) : szs l ≤ l.length * (m + 1) := by
  induction l with
  | nil => simp [szs]
  | cons x xs ih =>
    have h1 := ih fun y hy => h y (List.mem_cons_of_mem _ hy)
    have h2 := h x List.mem_cons_self
    simp [szs] at *
    rw [Nat.add_mul]
    omega
set_option maxHeartbeats 2000000 in
theorem gshow_blanks {w : World} {A : Option Addr} {c : Nat} {l : List ByteArray} (hl : Kd.C Kd.string w A l.length l) (hm : szs l ≤ 140737488355327) :
    Calls Tryz.prog 57 #[.slice A l.length c] w fun e w' => e = .returned (.string (blanksB l)) ∧ Below w.heap.size w w' := by
  have hlm := Kd.C_max hl
  by_cases h0 : l.length = 0
  · obtain rfl : l = [] := List.length_eq_zero_iff.1 h0
    have hb0 := below_alloc (Below.refl _ w) (.cells #[.pointer none, .slice none 0 0] 48)
    have hk0 := blk_new w (.cells #[.pointer none, .slice none 0 0] 48)
    have hS := Aside0.mk (bld_StringNil hk0)
    clear hl hk0
    go_enter Tryz.func57, Tryz.ntmps57
    go_wp2
    go_loopw [5, 8] (fun _ i wr => i = .int .i64 0 ∧ wr = w.alloc (.cells #[.pointer none, .slice none 0 0] 48)) (fun _ _ _ => 0)
    case atStart => exact ⟨rfl, rfl⟩
    case round =>
      obtain ⟨rfl, rfl⟩ := hrel
      go_wp2_with (go_at_call 25; refine hS.out.mono ?_; rintro e w2 ⟨rfl, rfl⟩)
      go_ret
      exact ⟨rfl, below_drew hb0⟩
  obtain ⟨W0, hW0⟩ : ∃ W0, W0 = w.alloc (.cells #[.pointer none, .slice none 0 0] 48) := ⟨_, rfl⟩
  have hb0 := below_alloc (Below.refl _ w) (.cells #[.pointer none, .slice none 0 0] 48)
  have hk0 := blk_new w (.cells #[.pointer none, .slice none 0 0] 48)
  rw [← hW0] at hb0 hk0
  have HBL : Aside0 (Bld W0 w.heap.size w.heap.size (blanksB (l.take 0))) := ⟨Nat.le_refl _, _, _, .inl rfl, hk0, World.ownsRow_nil _ _ _ _, by simp [Value.ownBlock]⟩
  have HL := Aside0.mk hl
  have HW := Aside0.mk hW0
  have HB0 := Aside0.mk hb0
  clear hl hk0 hb0 hW0
  go_enter Tryz.func57, Tryz.ntmps57
  go_wp2
  rw [← HW.out]
  go_loopw [5, 8] (fun _ i wr => ∃ k : Nat, k ≤ l.length ∧ i = .int .i64 k ∧ Aside0 (Below w.heap.size w wr) ∧ Aside0 (Bld wr w.heap.size w.heap.size (blanksB (l.take k)))) (fun _ i _ => l.length - (intOf i).toNat)
  case atStart => exact ⟨0, Nat.zero_le _, rfl, HB0, HBL⟩
  case round =>
    clear HB0 HBL
    obtain ⟨k, hk, rfl, HB, HBL⟩ := hrel
    by_cases hkl : k < l.length
    · have hkz : (k : Int) < (l.length : Int) := by omega
      obtain ⟨ad, rfl, l2⟩ := at_str (Kd.C_below HL.out HB.out) k hkl
      have hbt := blanks_take hkl
      have hs1 : (blanksB (l.take (k + 1))).size ≤ 140737488355327 := by
        have := szs_take l (k + 1)
        rw [blanks_size]
        omega
      obtain ⟨y, hy⟩ : ∃ y, l.getD k default = y := ⟨_, rfl⟩
      rw [hy] at l2 hbt
      clear hy
      have hs2 : (blanksB (l.take k)).size + 1 + y.size ≤ 140737488355327 := by
        rw [hbt, ByteArray.size_append, ByteArray.size_append] at hs1
        exact hs1
      generalize blanksB (l.take k) = s at *
      have hwb : Aside0 (Calls Tryz.prog 85 #[.pointer (some ⟨w.heap.size, 0, none⟩), .int .u8 32] wr fun e w' => e = .returned .nilIface ∧ Bld w' w.heap.size w.heap.size (s ++ ⟨#[32]⟩) ∧ Below w.heap.size wr w') :=
        ⟨(bld_WriteByte HBL.out 32 (by omega) HB.out.size).mono fun e w' ⟨h1, h2, h3, _⟩ => ⟨h1, h2, h3⟩⟩
      have HBT := Aside0.mk hbt
      clear hbt HBL
      go_wp2_with (first | (go_at_call 85; refine hwb.out.mono ?_; rintro e w2 ⟨rfl, hq, hb2⟩) | (go_at_call 22; refine (bld_WriteString hq y (by rw [ByteArray.size_append]; exact Nat.le_of_lt_succ (Nat.lt_of_le_of_lt hs2 (by decide))) (HB.out.trans hb2).size).mono ?_; rintro e w3 ⟨rfl, hq3, hb3, _⟩))
      go_roundw
      case rel => exact ⟨k + 1, by omega, by go_num, ⟨(HB.out.trans hb2).trans hb3⟩, ⟨by rw [HBT.out]; exact hq3⟩⟩
      case measure => simp [intOf]; omega
    · have hkz : ¬ (k : Int) < (l.length : Int) := by omega
      obtain rfl : k = l.length := by omega
      rw [List.take_length] at HBL
      have hne : (blanksB l).size ≠ 0 := by
        rw [blanks_size]
        cases l with
        | nil => exact absurd rfl h0
        | cons x xs => rw [szs_cons]; omega
      go_wp2_with (go_at_call 25; refine (bld_String HBL.out hne).mono ?_; rintro e w2 ⟨rfl, hb2⟩)
      go_ret
      exact ⟨rfl, HB.out.trans hb2⟩
end Go.Proofs.YtliofoikejdjeaaGreat
/- right sides, rules: the program's and the document's. -/
namespace Go.Proofs.YtliofoikejdjeaaGreat
open Go.RowKit Go.Proofs.YtliofoikejdjeaaGreatW.PrintWords
set_option linter.unusedVariables false
set_option maxRecDepth 100000
set_option linter.unusedSimpArgs false
def Gm.rightB (g : Gm) (r : Rl) : ByteArray := blanksB (r.right.map g.nameOf)
def Gm.ruleB (g : Gm) (r : Rl) : ByteArray := g.nameOf r.left ++ ⟨#[32, 58]⟩ ++ g.rightB r
theorem rnames_le {g : Gm} (hns : ∀ s, (g.nameOf s).size ≤ 2000000) (xs : List Int) : szs (xs.map g.nameOf) ≤ xs.length * 2000001 := by
  have := szs_le (l := xs.map g.nameOf) (m := 2000000) (fun x hx => by obtain ⟨s, _, rfl⟩ := List.mem_map.1 hx; exact hns s)
  rwa [List.length_map] at this
theorem map_getD {g : Gm} {xs : List Int} {k : Nat} (hk : k < xs.length) : (xs.map g.nameOf).getD k default = g.nameOf (xs.getD k default) := by
  rw [List.getD_eq_getElem?_getD, List.getD_eq_getElem?_getD, List.getElem?_map, List.getElem?_eq_getElem hk]
  rfl
section
variable {w : World} {A0 A1 A2 A : Option Addr} {c0 c1 c2 c : Nat} {g : Gm} {r : Rl}
set_option maxHeartbeats 2000000 in
theorem gshow_right (h : GmAt w A0 A1 A2 c0 c1 c2 g) (hr : Kd.C (Kd.int .i64) w A r.right.length r.right) (hm : r.right.length ≤ 10000) (hns : ∀ s, (g.nameOf s).size ≤ 2000000) :
    Calls Tryz.prog 24 #[.agg (gv A0 A1 A2 c0 c1 c2 g), .agg #[.int .i64 r.left, .slice A r.right.length c]] w fun e w' => e = .returned (.string (g.rightB r)) ∧ Below w.heap.size w w' := by
  obtain ⟨W0, hW0⟩ : ∃ W0, W0 = (w.alloc (.cells (gv A0 A1 A2 c0 c1 c2 g) 25)).alloc (.cells #[.int .i64 r.left, .slice A r.right.length c] 40) := ⟨_, rfl⟩
  have hb0 := below_alloc (below_alloc (Below.refl _ w) (.cells (gv A0 A1 A2 c0 c1 c2 g) 25)) (.cells #[.int .i64 r.left, .slice A r.right.length c] 40)
  have hk0 := blk_alloc (blk_new w (.cells (gv A0 A1 A2 c0 c1 c2 g) 25)) (.cells #[.int .i64 r.left, .slice A r.right.length c] 40)
  rw [← hW0] at hb0 hk0
  have KN : Aside0 (∀ W (s : Int), Below w.heap.size w W → Calls Tryz.prog 38 #[.agg #[.slice A0 g.terms.length c0, .slice A1 g.nons.length c1, .slice A2 g.rules.length c2, .int .i64 g.start], .int .i64 s] W fun e w' => e = .returned (.string (g.nameOf s)) ∧ Below W.heap.size W w') := ⟨fun W s hb => gram_Name (h.below hb) s⟩
  have HR := Aside0.mk hr
  have HB0 := Aside0.mk hb0
  have HK0 := Aside0.mk hk0
  have HW := Aside0.mk hW0
  have HS := Aside0.mk (rnames_le hns r.right)
  clear h hr hb0 hk0 hW0 hns
  unfold gv at *
  have HO0 : Aside0 (Kd.R Kd.string 9 W0 w.heap.size (fun _ => True) (.slice none 0 0) ((r.right.map g.nameOf).take 0)) := ⟨Kd.R_nil _ _ _ _ _⟩
  have hlen : (r.right.map g.nameOf).length = r.right.length := List.length_map ..
  go_enter Tryz.func24, Tryz.ntmps24
  go_wp2
  rw [← HW.out]
  go_loopw [5, 7, 11] (fun v5 _ i wr => ∃ k : Nat, k ≤ r.right.length ∧ i = .int .i64 k ∧ Aside0 (Below w.heap.size w wr) ∧ Aside0 (wr.heap[w.heap.size]? = some (.cells #[.slice A0 g.terms.length c0, .slice A1 g.nons.length c1, .slice A2 g.rules.length c2, .int .i64 g.start] 25 (0, 0))) ∧ Aside0 (Kd.R Kd.string 9 wr w.heap.size (fun _ => True) v5 ((r.right.map g.nameOf).take k))) (fun _ _ i _ => r.right.length - (intOf i).toNat)
  case atStart => exact ⟨0, Nat.zero_le _, rfl, HB0, HK0, HO0⟩
  case round =>
    clear HB0 HK0 HO0
    obtain ⟨k, hk, rfl, HB, HK, HO⟩ := hrel
    obtain ⟨f0, f1, f2, f3⟩ := gcells HK.out
    by_cases hkl : k < r.right.length
    · have hkz : (k : Int) < (r.right.length : Int) := by omega
      obtain ⟨ad, rfl, l2⟩ := at_int (Kd.C_below HR.out HB.out) k hkl
      have HT := Aside0.mk (take_snoc (l := r.right.map g.nameOf) (k := k) (by omega))
      rw [map_getD hkl] at HT
      have hln : ((r.right.map g.nameOf).take k).length = k := by rw [List.length_take]; omega
      obtain ⟨y, hy⟩ : ∃ y, r.right.getD k default = y := ⟨_, rfl⟩
      rw [hy] at l2 HT
      clear hy
      have kn := Aside0.mk (KN.out wr y HB.out)
      generalize g.nameOf y = nm at *
      go_wp2_with (first | (go_at_call 38; refine kn.out.mono ?_; rintro e w2 ⟨rfl, hb2⟩; have HB2 := Aside0.mk (HB.out.trans (hb2.mono HB.out.size)); have HK2 := Aside0.mk (blk_below HK.out hb2); have HO2 := Aside0.mk (Kd.R_below HO.out hb2); clear hb2) | (at_builtin; go_loud (refine Kd.R_append Kd.string (w0 := w) w.heap.size rfl (.tmp 15) (.tmp 19) 22 9 (.string ⟨#[]⟩) 16 rfl Tryz.underlying22 info9 rfl (by decide) (by omega) _ ((r.right.map g.nameOf).take k) nm [.string nm] (fun _ => True) (fun _ => False) rfl rfl rfl (fun _ hk => hk.elim) (fun _ _ => trivial) HO2.out HB2.out HB2.out.size (by rw [hln]; omega) ?_); intro v1 w3 ho hb hg hat))
      go_roundw
      case rel =>
        refine ⟨k + 1, by omega, by go_num, ⟨hb⟩, ⟨blk_grown HK2.out hg (Kd.R_ne HO2.out HK2.out (by decide))⟩, ⟨?_⟩⟩
        rw [HT.out]
        exact ho
      case measure => simp [intOf]; omega
    · have hkz : ¬ (k : Int) < (r.right.length : Int) := by omega
      obtain rfl : k = r.right.length := by omega
      rw [← hlen, List.take_length] at HO
      obtain ⟨A9, cap, rfl, hle, hC⟩ := Kd.R_reads HO.out
      have hs := gshow_blanks (c := cap) hC (Nat.le_trans HS.out (Nat.le_trans (Nat.mul_le_mul_right _ hm) (by decide)))
      rw [hlen] at hs
      have HS2 := Aside0.mk hs
      clear hs hC HO
      go_wp2_with (go_at_call 57; refine HS2.out.mono ?_; rintro e w2 ⟨rfl, hb2⟩)
      go_ret
      exact ⟨rfl, HB.out.trans (hb2.mono HB.out.size)⟩
set_option maxHeartbeats 2000000 in
theorem gshow_Rule (h : GmAt w A0 A1 A2 c0 c1 c2 g) (hr : Kd.C (Kd.int .i64) w A r.right.length r.right) (hm : r.right.length ≤ 10000) (hns : ∀ s, (g.nameOf s).size ≤ 2000000) :
    Calls Tryz.prog 19 #[.agg (gv A0 A1 A2 c0 c1 c2 g), .agg #[.int .i64 r.left, .slice A r.right.length c]] w fun e w' => e = .returned (.string (g.ruleB r)) ∧ Below w.heap.size w w' := by
  obtain ⟨W0, hW0⟩ : ∃ W0, W0 = (w.alloc (.cells (gv A0 A1 A2 c0 c1 c2 g) 25)).alloc (.cells #[.int .i64 r.left, .slice A r.right.length c] 40) := ⟨_, rfl⟩
  have hb0 := below_alloc (below_alloc (Below.refl _ w) (.cells (gv A0 A1 A2 c0 c1 c2 g) 25)) (.cells #[.int .i64 r.left, .slice A r.right.length c] 40)
  have hk0 := blk_alloc (blk_new w (.cells (gv A0 A1 A2 c0 c1 c2 g) 25)) (.cells #[.int .i64 r.left, .slice A r.right.length c] 40)
  have hk1 : ((w.alloc (.cells (gv A0 A1 A2 c0 c1 c2 g) 25)).alloc (.cells #[.int .i64 r.left, .slice A r.right.length c] 40)).heap[w.heap.size + 1]? = some (.cells #[.int .i64 r.left, .slice A r.right.length c] 40) := by
    have := blk_new (w.alloc (.cells (gv A0 A1 A2 c0 c1 c2 g) 25)) (.cells #[.int .i64 r.left, .slice A r.right.length c] 40)
    simpa using this
  rw [← hW0] at hb0 hk0 hk1
  have KN : Aside0 (∀ W, Below W0.heap.size W0 W → Calls Tryz.prog 38 #[.agg #[.slice A0 g.terms.length c0, .slice A1 g.nons.length c1, .slice A2 g.rules.length c2, .int .i64 g.start], .int .i64 r.left] W fun e w' => e = .returned (.string (g.nameOf r.left)) ∧ Below W.heap.size W w') := ⟨fun W hb => gram_Name (h.below (hb0.trans (hb.mono hb0.size))) _⟩
  have KR : Aside0 (∀ W, Below W0.heap.size W0 W → Calls Tryz.prog 24 #[.agg #[.slice A0 g.terms.length c0, .slice A1 g.nons.length c1, .slice A2 g.rules.length c2, .int .i64 g.start], .agg #[.int .i64 r.left, .slice A r.right.length c]] W fun e w' => e = .returned (.string (g.rightB r)) ∧ Below W.heap.size W w') := ⟨fun W hb => gshow_right (h.below (hb0.trans (hb.mono hb0.size))) (Kd.C_below hr (hb0.trans (hb.mono hb0.size))) hm hns⟩
  have KEY : Aside0 (∀ W, Below W0.heap.size W0 W → (W.cell? ⟨w.heap.size, 0, none⟩ = some (.slice A0 g.terms.length c0) ∧ W.cell? ⟨w.heap.size, 1, none⟩ = some (.slice A1 g.nons.length c1) ∧ W.cell? ⟨w.heap.size, 2, none⟩ = some (.slice A2 g.rules.length c2) ∧ W.cell? ⟨w.heap.size, 3, none⟩ = some (.int .i64 g.start)) ∧ W.cell? ⟨w.heap.size + 1, 0, none⟩ = some (.int .i64 r.left) ∧ W.cell? ⟨w.heap.size + 1, 1, none⟩ = some (.slice A r.right.length c)) :=
    ⟨fun W hb => ⟨gcells (blk_below hk0 hb), blk_cell (blk_below hk1 hb) 0, blk_cell (blk_below hk1 hb) 1⟩⟩
  have HB0 := Aside0.mk hb0
  have HW := Aside0.mk hW0
  have HQ : Aside0 (g.ruleB r = g.nameOf r.left ++ ⟨#[32, 58]⟩ ++ g.rightB r) := ⟨rfl⟩
  have z1 : ¬ 9223372036854775807 < (g.nameOf r.left).size + 2 := by have := hns r.left; omega
  have z2 : ¬ 9223372036854775807 < (g.nameOf r.left).size + 2 + (g.rightB r).size := by
    have h1 := hns r.left
    have h2 : (g.rightB r).size ≤ 10000 * 2000001 := by
      unfold Gm.rightB
      rw [blanks_size]
      exact Nat.le_trans (rnames_le hns r.right) (Nat.mul_le_mul_right _ hm)
    omega
  clear h hr hb0 hk0 hk1 hW0 hns
  generalize g.ruleB r = ru at *
  generalize g.nameOf r.left = nm at *
  generalize g.rightB r = rb at *
  unfold gv at *
  go_enter Tryz.func19, Tryz.ntmps19
  go_wp2
  rw [← HW.out]
  refine wp_region_det (vs := [?d1xv0, ?d1xv1, ?d1xv2, ?d1xv3, ?d1xv4, ?d1xv5, ?d1xv6, ?d1xv7, ?d1xv8, ?d1xv9]) (fun w' => Below W0.heap.size W0 w') rfl (by kernel_rfl) (putAll_put (by simp only [Act.put, List.setIfInBounds_toArray, List.set_cons_zero, List.set_cons_succ]; rfl) (putAll_put (by simp only [Act.put, List.setIfInBounds_toArray, List.set_cons_zero, List.set_cons_succ]; rfl) (putAll_put (by simp only [Act.put, List.setIfInBounds_toArray, List.set_cons_zero, List.set_cons_succ]; rfl) (putAll_put (by simp only [Act.put, List.setIfInBounds_toArray, List.set_cons_zero, List.set_cons_succ]; rfl) (putAll_put (by simp only [Act.put, List.setIfInBounds_toArray, List.set_cons_zero, List.set_cons_succ]; rfl) (putAll_put (by simp only [Act.put, List.setIfInBounds_toArray, List.set_cons_zero, List.set_cons_succ]; rfl) (putAll_put (by simp only [Act.put, List.setIfInBounds_toArray, List.set_cons_zero, List.set_cons_succ]; rfl) (putAll_put (by simp only [Act.put, List.setIfInBounds_toArray, List.set_cons_zero, List.set_cons_succ]; rfl) (putAll_put (by simp only [Act.put, List.setIfInBounds_toArray, List.set_cons_zero, List.set_cons_succ]; rfl) (putAll_put (by simp only [Act.put, List.setIfInBounds_toArray, List.set_cons_zero, List.set_cons_succ]; rfl) (putAll_nil _))))))))))) (below_drew (Below.refl _ _)) ?d1xOps ?d1xFin
  case d1xOps =>
    refine ⟨fun w' hw => ?d1xo0, fun w' hw => ?d1xo1, fun w' hw => ?d1xo2, fun w' hw => ?d1xo3, fun w' hw => ?d1xo4, fun w' hw => ?d1xo5, fun w' hw => ?d1xo6, fun w' hw => ?d1xo7, fun w' hw => ?d1xo8, fun w' hw => ?d1xo9, trivial⟩
    case d1xo0 => obtain ⟨⟨f0, f1, f2, f3⟩, f4, f5⟩ := KEY.out w' hw; go_simp; rfl
    case d1xo1 => obtain ⟨⟨f0, f1, f2, f3⟩, f4, f5⟩ := KEY.out w' hw; go_simp; rfl
    case d1xo2 => obtain ⟨⟨f0, f1, f2, f3⟩, f4, f5⟩ := KEY.out w' hw; go_simp; rfl
    case d1xo3 => obtain ⟨⟨f0, f1, f2, f3⟩, f4, f5⟩ := KEY.out w' hw; (go_simp; refine (KN.out w' hw).mono ?_; rintro e w2 ⟨rfl, hb2⟩; exact ⟨by rfl, hw.trans (hb2.mono hw.size)⟩)
    case d1xo4 => obtain ⟨⟨f0, f1, f2, f3⟩, f4, f5⟩ := KEY.out w' hw; go_simp; rfl
    case d1xo5 => obtain ⟨⟨f0, f1, f2, f3⟩, f4, f5⟩ := KEY.out w' hw; go_simp; rfl
    case d1xo6 => obtain ⟨⟨f0, f1, f2, f3⟩, f4, f5⟩ := KEY.out w' hw; go_simp; rfl
    case d1xo7 => obtain ⟨⟨f0, f1, f2, f3⟩, f4, f5⟩ := KEY.out w' hw; (go_simp; refine (KR.out w' hw).mono ?_; rintro e w2 ⟨rfl, hb2⟩; exact ⟨by rfl, hw.trans (hb2.mono hw.size)⟩)
    case d1xo8 => obtain ⟨⟨f0, f1, f2, f3⟩, f4, f5⟩ := KEY.out w' hw; go_simp; rfl
    case d1xo9 => obtain ⟨⟨f0, f1, f2, f3⟩, f4, f5⟩ := KEY.out w' hw; go_simp; rfl
  case d1xFin =>
    intro w1 hw1
    go_wp2
    go_ret
    exact ⟨by rw [HQ.out]; rfl, HB0.out.trans (hw1.mono HB0.out.size)⟩
end
end Go.Proofs.YtliofoikejdjeaaGreat
/- heads, Show: the program's. -/
namespace Go.Proofs.YtliofoikejdjeaaGreat
open Go.RowKit Go.Proofs.YtliofoikejdjeaaGreatW.PrintWords
set_option linter.unusedVariables false
set_option maxRecDepth 100000
set_option linter.unusedSimpArgs false
theorem Bld.below {w w' : World} {B b : Nat} {s : ByteArray} (h : Bld w B b s) (hb : Below w.heap.size w w') : Bld w' B b s := by
  obtain ⟨h1, p, v, hp, h2, h3, h4⟩ := h
  refine ⟨h1, p, v, hp, blk_below h2 hb, ⟨h3.1, ?_⟩, h4⟩
  rcases h3.2 with hx | ⟨g, cap, cur, hv, hg, hh, hr⟩
  · exact .inl hx
  · exact .inr ⟨g, cap, cur, hv, hg, blk_below hh hb, hr⟩
theorem Bld.alloc {w : World} {B b : Nat} {s : ByteArray} (h : Bld w B b s) (o : Obj) : Bld (w.alloc o) B b s := h.below (below_alloc (Below.refl _ _) o)
/-- %token ..; nothing where there is none. -/
def Gm.tokB (g : Gm) : ByteArray := if g.terms.length = 0 then ⟨#[]⟩ else ⟨#[37, 116, 111, 107, 101, 110]⟩ ++ blanksB g.terms ++ ⟨#[10]⟩
def Gm.headB (g : Gm) : ByteArray := g.tokB ++ (⟨#[37, 115, 116, 97, 114, 116, 32]⟩ ++ g.nameOf g.start ++ ⟨#[10, 37, 37, 10]⟩)
def Gm.leftOf (g : Gm) (k : Nat) : Int := (g.rules.getD k default).left
/-- What a rule adds. -/
def Gm.pieceB (g : Gm) (k : Nat) : ByteArray :=
  if 0 < k ∧ g.leftOf (k - 1) = g.leftOf k then ⟨#[10, 9, 124]⟩ ++ g.rightB (g.rules.getD k default)
  else (if 0 < k then ⟨#[10, 9, 59, 10]⟩ else ⟨#[]⟩) ++ g.ruleB (g.rules.getD k default)
def Gm.bodyB (g : Gm) : Nat → ByteArray
  | 0 => ⟨#[]⟩
  | k + 1 => g.bodyB k ++ g.pieceB k
def Gm.showB (g : Gm) : ByteArray := g.headB ++ g.bodyB g.rules.length ++ ⟨#[10, 9, 59, 10]⟩
def Gm.showS (g : Gm) : ByteArray := if g.check = 0 ∧ g.ordered = true then g.showB else ⟨#[]⟩
/-- How great it is. -/
structure Gm.Small (g : Gm) : Prop where
  name : ∀ s, (g.nameOf s).size ≤ 2000000
  terms : g.terms.length ≤ 1000
  nons : g.nons.length ≤ 1000
  rules : g.rules.length ≤ 1000
  right : ∀ r ∈ g.rules, r.right.length ≤ 10000
  term : ∀ s ∈ g.names, s.size ≤ 2000000
theorem Gm.Small.rightB {g : Gm} (h : g.Small) {r : Rl} (hr : r.right.length ≤ 10000) : (g.rightB r).size ≤ 20000010000 := by
  unfold Gm.rightB
  rw [blanks_size]
  exact Nat.le_trans (rnames_le h.name r.right) (Nat.le_trans (Nat.mul_le_mul_right _ hr) (by decide))
theorem Gm.Small.ruleB {g : Gm} (h : g.Small) {r : Rl} (hr : r.right.length ≤ 10000) : (g.ruleB r).size ≤ 20002010002 := by
  unfold Gm.ruleB
  rw [ByteArray.size_append, ByteArray.size_append]
  have h1 := h.rightB hr
  have h2 := h.name r.left
  have h3 : (⟨#[32, 58]⟩ : ByteArray).size = 2 := rfl
  omega
theorem Gm.Small.head {g : Gm} (h : g.Small) : g.headB.size ≤ 3000000000 := by
  unfold Gm.headB Gm.tokB
  have h1 := szs_le (l := g.terms) (m := 2000000) (fun x hx => h.term x (List.mem_append_left _ hx))
  have h2 := h.name g.start
  have h3 := h.terms
  have h4 : g.terms.length * (2000000 + 1) ≤ 1000 * (2000000 + 1) := Nat.mul_le_mul_right _ h3
  have e1 : (⟨#[37, 116, 111, 107, 101, 110]⟩ : ByteArray).size = 6 := rfl
  have e2 : (⟨#[10]⟩ : ByteArray).size = 1 := rfl
  have e3 : (⟨#[37, 115, 116, 97, 114, 116, 32]⟩ : ByteArray).size = 7 := rfl
  have e4 : (⟨#[10, 37, 37, 10]⟩ : ByteArray).size = 4 := rfl
  have e5 : (⟨#[]⟩ : ByteArray).size = 0 := rfl
  simp only [ByteArray.size_append]
  split
  · omega
  · simp only [ByteArray.size_append, blanks_size]
    omega
theorem getD_rule {g : Gm} (h : g.Small) (k : Nat) : (g.rules.getD k default).right.length ≤ 10000 := by
  by_cases hk : k < g.rules.length
  · exact h.right _ (getD_mem hk)
  · rw [List.getD_eq_getElem?_getD, List.getElem?_eq_none (by omega)]
    exact Nat.zero_le _
theorem Gm.Small.piece {g : Gm} (h : g.Small) (k : Nat) : (g.pieceB k).size ≤ 20003000000 := by
  unfold Gm.pieceB
  have h1 := h.rightB (getD_rule h k)
  have h2 := h.ruleB (getD_rule h k)
  have e1 : (⟨#[10, 9, 124]⟩ : ByteArray).size = 3 := rfl
  have e2 : (⟨#[10, 9, 59, 10]⟩ : ByteArray).size = 4 := rfl
  have e5 : (⟨#[]⟩ : ByteArray).size = 0 := rfl
  split
  · rw [ByteArray.size_append]; omega
  · rw [ByteArray.size_append]
    split <;> omega
theorem Gm.Small.body {g : Gm} (h : g.Small) (k : Nat) : (g.bodyB k).size ≤ k * 20003000000 := by
  induction k with
  | zero => exact Nat.le_of_eq rfl
  | succ k ih =>
    unfold Gm.bodyB
    rw [ByteArray.size_append]
    have := h.piece k
    omega
/-- The left side ahead of a rule, 0 ahead of the first. -/
def Gm.lastOf (g : Gm) (k : Nat) : Int := if k = 0 then 0 else g.leftOf (k - 1)
theorem left_pos {g : Gm} (h : g.check = 0) {k : Nat} (hk : k < g.rules.length) : 0 < g.leftOf k := by
  rw [check_ref] at h
  by_cases h1 : manyB g = true
  · rw [if_pos h1] at h; cases h
  rw [if_neg h1] at h
  split at h
  · cases h
  split at h
  · cases h
  split at h
  · cases h
  rename_i hk3
  have hkn : g.knownB = true := by simpa using hk3
  unfold Gm.knownB at hkn
  simp only [Bool.and_eq_true, List.all_eq_true] at hkn
  have := hkn.2 _ (getD_mem hk)
  unfold Gm.knownR Gm.isNon at this
  simp only [Bool.and_eq_true, decide_eq_true_eq] at this
  unfold Gm.leftOf
  omega
section
variable {w : World} {A0 A1 A2 : Option Addr} {c0 c1 c2 : Nat} {g : Gm}
set_option maxHeartbeats 2000000 in
theorem gshow_heads (h : GmAt w A0 A1 A2 c0 c1 c2 g) (hs : g.Small) :
    Calls Tryz.prog 23 #[.agg (gv A0 A1 A2 c0 c1 c2 g)] w fun e w' => e = .returned (.string g.headB) ∧ Below w.heap.size w w' := by
  obtain ⟨W0, hW0⟩ : ∃ W0, W0 = w.alloc (.cells (gv A0 A1 A2 c0 c1 c2 g) 25) := ⟨_, rfl⟩
  have hb0 := below_alloc (Below.refl _ w) (.cells (gv A0 A1 A2 c0 c1 c2 g) 25)
  have hk0 := blk_new w (.cells (gv A0 A1 A2 c0 c1 c2 g) 25)
  rw [← hW0] at hb0 hk0
  have h3 := hs.terms
  have h1 := szs_le (l := g.terms) (m := 2000000) (fun x hx => hs.term x (List.mem_append_left _ hx))
  have h4 : g.terms.length * (2000000 + 1) ≤ 1000 * (2000000 + 1) := Nat.mul_le_mul_right _ h3
  have hbs : (blanksB g.terms).size ≤ 2000001000 := by rw [blanks_size]; omega
  have hnm := hs.name g.start
  have KN : Aside0 (∀ W, Below W0.heap.size W0 W → Calls Tryz.prog 38 #[.agg #[.slice A0 g.terms.length c0, .slice A1 g.nons.length c1, .slice A2 g.rules.length c2, .int .i64 g.start], .int .i64 g.start] W fun e w' => e = .returned (.string (g.nameOf g.start)) ∧ Below W.heap.size W w') := ⟨fun W hb => gram_Name (h.below (hb0.trans (hb.mono hb0.size))) _⟩
  have KB : Aside0 (∀ W, Below W0.heap.size W0 W → Calls Tryz.prog 57 #[.slice A0 g.terms.length c0] W fun e w' => e = .returned (.string (blanksB g.terms)) ∧ Below W.heap.size W w') := ⟨fun W hb => gshow_blanks (Kd.C_below h.terms (hb0.trans (hb.mono hb0.size))) (by omega)⟩
  have GC : Aside0 (∀ W, Below W0.heap.size W0 W → _ ∧ _ ∧ _ ∧ _) := ⟨fun W hb => gcells (blk_below hk0 hb)⟩
  have hgc := GC.out W0 (Below.refl _ _)
  have HB0 := Aside0.mk hb0
  have HW := Aside0.mk hW0
  have HH : Aside0 (g.headB = (if g.terms.length = 0 then (⟨#[]⟩ : ByteArray) else ⟨#[37, 116, 111, 107, 101, 110]⟩ ++ blanksB g.terms ++ ⟨#[10]⟩) ++ (⟨#[37, 115, 116, 97, 114, 116, 32]⟩ ++ g.nameOf g.start ++ ⟨#[10, 37, 37, 10]⟩)) := ⟨rfl⟩
  clear h hb0 hk0 hW0 h1 h4
  generalize g.headB = hd at *
  generalize g.nameOf g.start = nm at *
  generalize blanksB g.terms = bl at *
  unfold gv at *
  have z1 : ¬ 9223372036854775807 < 7 + nm.size := by omega
  have z2 : ¬ 9223372036854775807 < 7 + nm.size + 4 := by omega
  have z3 : ¬ 9223372036854775807 < 6 + bl.size := by omega
  have z4 : ¬ 9223372036854775807 < 6 + bl.size + 1 := by omega
  have z5 : ¬ 9223372036854775807 < 6 + bl.size + 1 + (7 + nm.size + 4) := by omega
  by_cases hz : g.terms.length = 0
  · have hzz : (((g.terms.length : Int)) == 0) = true := by rw [hz]; rfl
    have HZ := Aside0.mk hz
    clear hz
    go_enter Tryz.func23, Tryz.ntmps23
    go_wp2_with fail
    rw [← HW.out]
    obtain ⟨f0, f1, f2, f3⟩ := hgc
    go_wp2_with (go_at_call 38; refine (KN.out _ (Below.refl _ _)).mono ?_; rintro e w2 ⟨rfl, hb2⟩; clear f0 f1 f2 f3; obtain ⟨f0, f1, f2, f3⟩ := GC.out _ hb2)
    go_ret
    exact ⟨by rw [HH.out, if_pos HZ.out]; congr 2, HB0.out.trans (hb2.mono HB0.out.size)⟩
  · have hzz : (((g.terms.length : Int)) == 0) = false := beq_false_of_ne (by omega)
    have HZ := Aside0.mk hz
    clear hz
    go_enter Tryz.func23, Tryz.ntmps23
    go_wp2_with fail
    rw [← HW.out]
    obtain ⟨f0, f1, f2, f3⟩ := hgc
    go_wp2_with (first | (go_at_call 38; refine (KN.out _ (Below.refl _ _)).mono ?_; rintro e w2 ⟨rfl, hb2⟩; clear f0 f1 f2 f3; obtain ⟨f0, f1, f2, f3⟩ := GC.out _ hb2) | (go_at_call 57; refine (KB.out _ hb2).mono ?_; rintro e w3 ⟨rfl, hb3⟩))
    go_ret
    have h5 := hb2.trans (hb3.mono hb2.size)
    exact ⟨by rw [HH.out, if_neg HZ.out]; rfl, HB0.out.trans (h5.mono HB0.out.size)⟩
end
end Go.Proofs.YtliofoikejdjeaaGreat
/- Show: the program's. -/
namespace Go.Proofs.YtliofoikejdjeaaGreat
open Go.RowKit Go.Proofs.YtliofoikejdjeaaGreatW.PrintWords
set_option linter.unusedVariables false
set_option maxRecDepth 100000
set_option linter.unusedSimpArgs false
theorem Bld.grew {w w' : World} {B b : Nat} {s : ByteArray} (h : Bld w B b s) : b < w.heap.size := by
  obtain ⟨_, _, _, _, h2, _⟩ := h
  exact (Array.getElem?_eq_some_iff.1 h2).1
section
variable {w : World} {A0 A1 A2 : Option Addr} {c0 c1 c2 : Nat} {g : Gm}
set_option maxHeartbeats 8000000 in
theorem gshow_Show (h : GmAt w A0 A1 A2 c0 c1 c2 g) (hs : g.Small) :
    Calls Tryz.prog 9 #[.agg (gv A0 A1 A2 c0 c1 c2 g)] w fun e w' => e = .returned (.string g.showS) ∧ Below w.heap.size w w' := by
  obtain ⟨W0, hW0⟩ : ∃ W0, W0 = w.alloc (.cells (gv A0 A1 A2 c0 c1 c2 g) 25) := ⟨_, rfl⟩
  have hb0 := below_alloc (Below.refl _ w) (.cells (gv A0 A1 A2 c0 c1 c2 g) 25)
  have hk0 := blk_new w (.cells (gv A0 A1 A2 c0 c1 c2 g) 25)
  rw [← hW0] at hb0 hk0
  have hnz : ∀ s ∈ g.names, s.size ≤ 140737488351232 := fun s hx => Nat.le_trans (hs.term s hx) (by decide)
  have K1 : Aside0 (∀ W, Below W0.heap.size W0 W → Calls Tryz.prog 20 #[.agg #[.slice A0 g.terms.length c0, .slice A1 g.nons.length c1, .slice A2 g.rules.length c2, .int .i64 g.start]] W fun e w' => e = .returned (.int .i64 g.check) ∧ Below W.heap.size W w') := ⟨fun W hb => gram_Check (h.below (hb0.trans (hb.mono hb0.size))) hnz⟩
  have K2 : Aside0 (∀ W, Below W0.heap.size W0 W → Calls Tryz.prog 21 #[.agg #[.slice A0 g.terms.length c0, .slice A1 g.nons.length c1, .slice A2 g.rules.length c2, .int .i64 g.start]] W fun e w' => e = .returned (.bool g.ordered) ∧ Below W.heap.size W w') := ⟨fun W hb => gram_Ordered (h.below (hb0.trans (hb.mono hb0.size)))⟩
  have K3 : Aside0 (∀ W, Below w.heap.size w W → Calls Tryz.prog 23 #[.agg #[.slice A0 g.terms.length c0, .slice A1 g.nons.length c1, .slice A2 g.rules.length c2, .int .i64 g.start]] W fun e w' => e = .returned (.string g.headB) ∧ Below W.heap.size W w') := ⟨fun W hb => gshow_heads (h.below hb) hs⟩
  have K4 : Aside0 (∀ W (A : Option Addr) (c : Nat) (r : Rl), Below w.heap.size w W → Kd.C (Kd.int .i64) w A r.right.length r.right → r.right.length ≤ 10000 → Calls Tryz.prog 24 #[.agg #[.slice A0 g.terms.length c0, .slice A1 g.nons.length c1, .slice A2 g.rules.length c2, .int .i64 g.start], .agg #[.int .i64 r.left, .slice A r.right.length c]] W fun e w' => e = .returned (.string (g.rightB r)) ∧ Below W.heap.size W w') := ⟨fun W A c r hb hr hm => gshow_right (h.below hb) (Kd.C_below hr hb) hm hs.name⟩
  have K5 : Aside0 (∀ W (A : Option Addr) (c : Nat) (r : Rl), Below w.heap.size w W → Kd.C (Kd.int .i64) w A r.right.length r.right → r.right.length ≤ 10000 → Calls Tryz.prog 19 #[.agg #[.slice A0 g.terms.length c0, .slice A1 g.nons.length c1, .slice A2 g.rules.length c2, .int .i64 g.start], .agg #[.int .i64 r.left, .slice A r.right.length c]] W fun e w' => e = .returned (.string (g.ruleB r)) ∧ Below W.heap.size W w') := ⟨fun W A c r hb hr hm => gshow_Rule (h.below hb) (Kd.C_below hr hb) hm hs.name⟩
  have GC : Aside0 (∀ W, Below W0.heap.size W0 W → _ ∧ _ ∧ _ ∧ _) := ⟨fun W hb => gcells (blk_below hk0 hb)⟩
  have hgc := GC.out W0 (Below.refl _ _)
  have HR := Aside0.mk h.rules
  have hlt0 := blk_lt hk0
  have HS := Aside0.mk hs
  have HK0 := Aside0.mk hk0
  have HB0 := Aside0.mk hb0
  have HW := Aside0.mk hW0
  have HSS : Aside0 (g.showS = if g.check = 0 ∧ g.ordered = true then g.showB else (⟨#[]⟩ : ByteArray)) := ⟨rfl⟩
  have hhd := hs.head
  have hrl := hs.rules
  have HLP := Aside0.mk (fun (hc : g.check = 0) (k : Nat) (hk : k < g.rules.length) => left_pos hc hk)
  clear h hb0 hk0 hW0 hs hnz
  generalize g.showS = SS at *
  generalize g.check = ch at *
  generalize g.ordered = od at *
  unfold gv at *
  by_cases hc : ch = 0
  rotate_left
  · have hcc : (ch != 0) = true := by simpa using hc
    have HC := Aside0.mk hc
    clear hc
    go_enter Tryz.func9, Tryz.ntmps9
    go_wp2_with fail
    rw [← HW.out]
    obtain ⟨f0, f1, f2, f3⟩ := hgc
    go_wp2_with (go_at_call 20; refine (K1.out _ (Below.refl _ _)).mono ?_; rintro e w2 ⟨rfl, hb2⟩)
    all_goals
      go_ret
      exact ⟨by rw [HSS.out, if_neg (fun hx => HC.out hx.1)]; rfl, HB0.out.trans (hb2.mono HB0.out.size)⟩
  subst hc
  have HLQ := Aside0.mk (HLP.out rfl)
  clear HLP
  cases od with
  | false =>
    go_enter Tryz.func9, Tryz.ntmps9
    go_wp2_with fail
    rw [← HW.out]
    obtain ⟨f0, f1, f2, f3⟩ := hgc
    go_wp2_with (first | (go_at_call 20; refine (K1.out _ (Below.refl _ _)).mono ?_; rintro e w2 ⟨rfl, hb2⟩; clear f0 f1 f2 f3; obtain ⟨f0, f1, f2, f3⟩ := GC.out _ hb2) | (go_at_call 21; refine (K2.out _ hb2).mono ?_; rintro e w3 ⟨rfl, hb3⟩))
    go_ret
    have h5 := hb2.trans (hb3.mono hb2.size)
    exact ⟨by rw [HSS.out, if_neg (fun hx => Bool.noConfusion hx.2)]; rfl, HB0.out.trans (h5.mono HB0.out.size)⟩
  | true =>
  go_enter Tryz.func9, Tryz.ntmps9
  go_wp2_with fail
  rw [← HW.out]
  obtain ⟨f0, f1, f2, f3⟩ := hgc
  refine (K1.out _ (Below.refl _ _)).mono ?_
  rintro e w2 ⟨rfl, hb2⟩
  clear f0 f1 f2 f3
  obtain ⟨f0, f1, f2, f3⟩ := GC.out _ hb2
  go_wp2_with fail
  refine (K2.out _ hb2).mono ?_
  rintro e w3 ⟨rfl, hb3⟩
  clear f0 f1 f2 f3
  have hb4 := hb2.trans (hb3.mono hb2.size)
  obtain ⟨f0, f1, f2, f3⟩ := GC.out _ hb4
  have hlt3 := Nat.lt_of_lt_of_le hlt0 hb4.size
  have HB3 := Aside0.mk (HB0.out.trans (hb4.mono HB0.out.size))
  have HK3 := Aside0.mk (blk_below HK0.out hb4)
  clear hb2 hb3 hb4 K1 K2 GC HB0 HK0 HW hlt0
  go_wp2_with fail
  have HB4 := Aside0.mk (below_alloc HB3.out (.cells #[.pointer none, .slice none 0 0] 48))
  have HK4 := Aside0.mk (blk_alloc HK3.out (.cells #[.pointer none, .slice none 0 0] 48))
  have HBL : Aside0 (Bld (w3.alloc (.cells #[.pointer none, .slice none 0 0] 48)) w.heap.size w3.heap.size ⟨#[]⟩) := ⟨by omega, _, _, .inl rfl, blk_new w3 _, World.ownsRow_nil _ _ _ _, by simp [Value.ownBlock]⟩
  generalize w3.alloc (.cells #[.pointer none, .slice none 0 0] 48) = W4 at *
  have hnb : w.heap.size ≠ w3.heap.size := by omega
  generalize w3.heap.size = nb at *
  clear HB3 HK3 f0 f1 f2 f3 hlt3 w3
  refine (K3.out _ HB4.out).mono ?_
  rintro e w5 ⟨rfl, hb5⟩
  have HB5 := Aside0.mk (HB4.out.trans (hb5.mono HB4.out.size))
  have HK5 := Aside0.mk (blk_below HK4.out hb5)
  have HBL5 := Aside0.mk (HBL.out.below hb5)
  have hbld := bld_WriteString HBL5.out g.headB (by have : (⟨#[]⟩ : ByteArray).size = 0 := rfl; omega) HB5.out.size
  clear HB4 HK4 HBL hb5 K3
  go_wp2_with fail
  refine hbld.mono ?_
  rintro e w6 ⟨rfl, hbl6, hb6, hk6⟩
  have HB6 := Aside0.mk (HB5.out.trans hb6)
  have HK6 := Aside0.mk (hk6 _ _ HK5.out (by simpa using hnb) (fun c fz => by simp))
  have HBL6 : Aside0 (Bld w6 w.heap.size nb (g.headB ++ g.bodyB 0)) := ⟨by
    have : (⟨#[]⟩ : ByteArray) ++ g.headB = g.headB ++ g.bodyB 0 := by
      unfold Gm.bodyB
      exact (ByteArray.empty_append (b := g.headB)).trans ByteArray.append_empty.symm
    rw [← this]
    exact hbl6⟩
  clear HB5 HK5 HBL5 hbld hb6 hk6 hbl6
  obtain ⟨f0, f1, f2, f3⟩ := gcells HK6.out
  go_wp2
  go_loopw [4, 6, 21] (fun la _ i wr => ∃ k : Nat, k ≤ g.rules.length ∧ i = .int .i64 k ∧ la = .int .i64 (g.lastOf k) ∧ Aside0 (Below w.heap.size w wr) ∧ Aside0 (wr.heap[w.heap.size]? = some (.cells #[.slice A0 g.terms.length c0, .slice A1 g.nons.length c1, .slice A2 g.rules.length c2, .int .i64 g.start] 25 (0, 0))) ∧ Aside0 (Bld wr w.heap.size nb (g.headB ++ g.bodyB k))) (fun _ _ i _ => g.rules.length - (intOf i).toNat)
  case atStart => exact ⟨0, Nat.zero_le _, rfl, rfl, HB6, HK6, HBL6⟩
  case round =>
    clear HB6 HK6 HBL6 f0 f1 f2 f3
    obtain ⟨k, hk, rfl, rfl, HB, HK, HBL⟩ := hrel
    by_cases hkl : k < g.rules.length
    · have hkz : (k : Int) < (g.rules.length : Int) := by omega
      have hbd := HS.out.body k
      have hbk : k * 20003000000 ≤ 1000 * 20003000000 := Nat.mul_le_mul_right _ (by omega)
      have hrr := getD_rule HS.out k
      have hri := HS.out.rightB hrr
      have hru := HS.out.ruleB hrr
      have hpos := HLQ.out k hkl
      have hposp : 0 < k → 0 < g.leftOf (k - 1) := fun hk0 => HLQ.out (k - 1) (by omega)
      have HPC := Aside0.mk (show g.headB ++ g.bodyB (k + 1) = (g.headB ++ g.bodyB k) ++ g.pieceB k from by
        show g.headB ++ (g.bodyB k ++ g.pieceB k) = _
        rw [ByteArray.append_assoc])
      have HPD : Aside0 (g.pieceB k = if 0 < k ∧ g.leftOf (k - 1) = g.leftOf k then ⟨#[10, 9, 124]⟩ ++ g.rightB (g.rules.getD k default) else (if 0 < k then (⟨#[10, 9, 59, 10]⟩ : ByteArray) else ⟨#[]⟩) ++ g.ruleB (g.rules.getD k default)) := ⟨rfl⟩
      have HLN : Aside0 (g.lastOf (k + 1) = g.leftOf k) := ⟨by unfold Gm.lastOf; rw [if_neg (by omega)]; rfl⟩
      have HLC : Aside0 (g.lastOf k = if k = 0 then 0 else g.leftOf (k - 1)) := ⟨rfl⟩
      have hsz : (g.headB ++ g.bodyB k).size ≤ 30000000000000 := by rw [ByteArray.size_append]; omega
      clear hbd hbk
      obtain ⟨ad, Ar, cr, rfl, k1, k2, _, q4⟩ := at_rl HR.out k hkl
      have hxl : (g.rules.getD k default).left = g.leftOf k := rfl
      obtain ⟨x, hx⟩ : ∃ x, g.rules.getD k default = x := ⟨_, rfl⟩
      rw [hx] at k1 k2 q4 hrr hri hru HPD hxl
      clear hx
      have hla := World.block_lt_of_cell? _ _ k1
      have m1 := (HB.out.cell (p := ad.add (k * 2)) hla).trans k1
      have m2 := (HB.out.cell (p := ⟨(ad.add (k * 2)).block, (ad.add (k * 2)).off + 1, none⟩) hla).trans k2
      rw [← hxl] at hpos
      have HXL := Aside0.mk hxl
      have Q4 := Aside0.mk q4
      have hng := HBL.out.grew (w' := wr)
      have HBX := Aside0.mk (blk_new wr (.cells #[.int .i64 x.left, .slice Ar x.right.length cr] 40))
      have HB1 := Aside0.mk (below_alloc HB.out (.cells #[.int .i64 x.left, .slice Ar x.right.length cr] 40))
      have HK1 := Aside0.mk (blk_alloc HK.out (.cells #[.int .i64 x.left, .slice Ar x.right.length cr] 40))
      have HBL1 := Aside0.mk (HBL.out.alloc (.cells #[.int .i64 x.left, .slice Ar x.right.length cr] 40))
      have hgw : w.heap.size ≠ wr.heap.size := by have := blk_lt HK.out; omega
      have hgc := gcells HK1.out
      have hgl := blk_lt HK1.out
      have e3 : (⟨#[10, 9, 124]⟩ : ByteArray).size = 3 := rfl
      have e4 : (⟨#[10, 9, 59, 10]⟩ : ByteArray).size = 4 := rfl
      clear hxl q4 k1 k2 hla HB HK HBL hhd HR
      obtain ⟨la, hla⟩ : ∃ la, g.lastOf k = la := ⟨_, rfl⟩
      rw [hla] at HLC ⊢
      clear hla
      by_cases hcase : 0 < k ∧ g.leftOf (k - 1) = g.leftOf k
      · have hq : (la == x.left) = true := by
          rw [HLC.out, if_neg (by omega), hcase.2, ← HXL.out]
          exact beq_self_eq_true _
        have hz : ¬ 9223372036854775807 < 3 + (g.rightB x).size := by omega
        have HCS := Aside0.mk hcase
        have K4x := Aside0.mk (fun W hb => K4.out W Ar cr x hb Q4.out hrr)
        clear hcase hposp
        rw [if_pos HCS.out] at HPD
        generalize g.rightB x = rb at *
        go_wp2_with fail
        refine (K4x.out _ HB1.out).mono ?_
        rintro e w2 ⟨rfl, hb2⟩
        have HB2 := Aside0.mk (HB1.out.trans (hb2.mono HB1.out.size))
        have HK2 := Aside0.mk (blk_below HK1.out hb2)
        have hw := Aside0.mk (bld_WriteString (HBL1.out.below hb2) (⟨#[10, 9, 124]⟩ ++ rb) (by rw [ByteArray.size_append (a := ⟨#[10, 9, 124]⟩)]; omega) HB2.out.size)
        clear hb2
        go_wp2_with (go_at_call 22; refine hw.out.mono ?_; rintro e w3 ⟨rfl, hbl3, hb3, hk3⟩)
        go_roundw
        case rel => exact ⟨k + 1, by omega, by go_num, by rw [HLN.out, HLC.out, if_neg (by have := HCS.out.1; omega), HCS.out.2], ⟨HB2.out.trans hb3⟩, ⟨hk3 _ _ HK2.out (by simpa using hnb) (fun c fz => by simp)⟩, ⟨by rw [HPC.out, HPD.out]; exact hbl3⟩⟩
        case measure => simp [intOf]; omega
      · have K5x := Aside0.mk (fun W hb => K5.out W Ar cr x hb Q4.out hrr)
        rw [if_neg hcase] at HPD
        have hgn : nb ≠ wr.heap.size := by omega
        generalize g.ruleB x = rb at *
        by_cases hk0 : k = 0
        · have hl0 : la = 0 := by rw [HLC.out, if_pos hk0]
          have hq : (la == x.left) = false := beq_false_of_ne (by omega)
          have hz : (la == 0) = true := by rw [hl0]; rfl
          rw [if_neg (by omega)] at HPD
          clear hcase hl0 hposp hk0
          go_wp2_with fail
          refine (K5x.out _ HB1.out).mono ?_
          rintro e w2 ⟨rfl, hb2⟩
          have HB2 := Aside0.mk (HB1.out.trans (hb2.mono HB1.out.size))
          have HK2 := Aside0.mk (blk_below HK1.out hb2)
          have HBX2 := Aside0.mk (blk_below HBX.out hb2)
          have hw := Aside0.mk (bld_WriteString (HBL1.out.below hb2) rb (by omega) HB2.out.size)
          clear hb2
          go_wp2_with (go_at_call 22; refine hw.out.mono ?_; rintro e w3 ⟨rfl, hbl3, hb3, hk3⟩; have hbx := blk_cell (hk3 _ _ HBX2.out (by simpa using fun e => hgn e.symm) (fun c fz => by simp)) 0)
          go_roundw
          case rel => exact ⟨k + 1, by omega, by go_num, by rw [HLN.out, HXL.out], ⟨HB2.out.trans hb3⟩, ⟨hk3 _ _ HK2.out (by simpa using hnb) (fun c fz => by simp)⟩, ⟨by rw [HPC.out, HPD.out]; rw [show (⟨#[]⟩ : ByteArray) ++ rb = rb from ByteArray.empty_append]; exact hbl3⟩⟩
          case measure => simp [intOf]; omega
        · have hl0 : la = g.leftOf (k - 1) := by rw [HLC.out, if_neg hk0]
          have hp := hposp (by omega)
          have hq : (la == x.left) = false := beq_false_of_ne (by intro e; exact hcase ⟨by omega, by rw [← hl0, e, HXL.out]⟩)
          have hz : (la == 0) = false := beq_false_of_ne (by omega)
          rw [if_pos (by omega)] at HPD
          clear hcase hl0 hposp hp
          have hw0 := Aside0.mk (bld_WriteString HBL1.out ⟨#[10, 9, 59, 10]⟩ (by omega) HB1.out.size)
          go_wp2_with fail
          refine hw0.out.mono ?_
          rintro e w2 ⟨rfl, hbl2, hb2, hk2⟩
          have HB2 := Aside0.mk (HB1.out.trans hb2)
          have HK2 := Aside0.mk (hk2 _ _ HK1.out (by simpa using hnb) (fun c fz => by simp))
          have HBX2 := Aside0.mk (hk2 _ _ HBX.out (by simpa using fun e => hgn e.symm) (fun c fz => by simp))
          have hgc2 := gcells HK2.out
          have b0 := blk_cell HBX2.out 0
          have b1 := blk_cell HBX2.out 1
          clear hb2 hk2 hgc
          go_wp2_with fail
          refine (K5x.out _ HB2.out).mono ?_
          rintro e w3 ⟨rfl, hb3⟩
          have HB3 := Aside0.mk (HB2.out.trans (hb3.mono HB2.out.size))
          have HK3 := Aside0.mk (blk_below HK2.out hb3)
          have HBX3 := Aside0.mk (blk_below HBX2.out hb3)
          have hw := Aside0.mk (bld_WriteString (hbl2.below hb3) rb (by rw [ByteArray.size_append (b := ⟨#[10, 9, 59, 10]⟩)]; omega) HB3.out.size)
          clear hb3
          go_wp2_with (go_at_call 22; refine hw.out.mono ?_; rintro e w4 ⟨rfl, hbl4, hb4, hk4⟩; have hbx := blk_cell (hk4 _ _ HBX3.out (by simpa using fun e => hgn e.symm) (fun c fz => by simp)) 0)
          go_roundw
          case rel => exact ⟨k + 1, by omega, by go_num, by rw [HLN.out, HXL.out], ⟨HB3.out.trans hb4⟩, ⟨hk4 _ _ HK3.out (by simpa using hnb) (fun c fz => by simp)⟩, ⟨by rw [HPC.out, HPD.out, ← ByteArray.append_assoc]; exact hbl4⟩⟩
          case measure => simp [intOf]; omega
    · have hkz : ¬ (k : Int) < (g.rules.length : Int) := by omega
      obtain rfl : k = g.rules.length := by omega
      have hbd := HS.out.body g.rules.length
      have hbk : g.rules.length * 20003000000 ≤ 1000 * 20003000000 := Nat.mul_le_mul_right _ (by omega)
      have hsz : (g.headB ++ g.bodyB g.rules.length).size ≤ 30000000000000 := by rw [ByteArray.size_append]; omega
      have e4 : (⟨#[10, 9, 59, 10]⟩ : ByteArray).size = 4 := rfl
      have hw := Aside0.mk (bld_WriteString HBL.out ⟨#[10, 9, 59, 10]⟩ (by omega) HB.out.size)
      go_wp2_with fail
      refine hw.out.mono ?_
      rintro e w7 ⟨rfl, hbl7, hb7, _⟩
      have hst := Aside0.mk (bld_String hbl7 (by rw [ByteArray.size_append]; omega))
      go_wp2_with (go_at_call 25; refine hst.out.mono ?_; rintro e w8 ⟨rfl, hb8⟩)
      go_ret
      exact ⟨by rw [HSS.out, if_pos (by simp)]; rfl, (HB.out.trans hb7).trans hb8⟩
end
end Go.Proofs.YtliofoikejdjeaaGreat
/- Much: what it bounds. -/
namespace Go.Proofs.YtliofoikejdjeaaGreat
open Go.RowKit Go.Proofs.YtliofoikejdjeaaGreatW.PrintWords
set_option linter.unusedVariables false
set_option linter.unusedSimpArgs false
structure Gm.Bulk (g : Gm) : Prop where
  terms : g.terms.length ≤ 1048576
  nons : g.nons.length ≤ 1048576
  rules : g.rules.length ≤ 1048576
  tsz : ∀ s ∈ g.terms, s.size ≤ 1048576
  nsz : ∀ s ∈ g.nons, s.size ≤ 1048576
  right : ∀ r ∈ g.rules, r.right.length ≤ 1048576
section
variable {w : World} {A0 A1 A2 : Option Addr} {c0 c1 c2 : Nat} {g : Gm}
set_option maxHeartbeats 4000000 in
theorem law06_Much (h : GmAt w A0 A1 A2 c0 c1 c2 g) (hk : g.Bulk) : Calls Tryz.prog 5 #[.agg (gv A0 A1 A2 c0 c1 c2 g)] w fun e w' => (∃ n : Int, e = .returned (.int .i64 n) ∧ (n ≤ 300 → g.terms.length + g.nons.length + g.rules.length ≤ 300 ∧ ∀ r ∈ g.rules, r.right.length ≤ 10000)) ∧ Below w.heap.size w w' := by
  have h0 := hk.terms
  have h1 := hk.nons
  have h2 := hk.rules
  have hb0 := below_alloc (Below.refl _ w) (.cells (gv A0 A1 A2 c0 c1 c2 g) 25)
  have hk0 := blk_new w (.cells (gv A0 A1 A2 c0 c1 c2 g) 25)
  have HT := Aside0.mk (Kd.C_below h.terms hb0)
  have HN := Aside0.mk (Kd.C_below h.nons hb0)
  have HR := Aside0.mk (Kd.C_below h.rules hb0)
  have ZT := Aside0.mk hk.tsz
  have ZN := Aside0.mk hk.nsz
  have ZR := Aside0.mk hk.right
  clear h hk
  unfold gv at *
  go_enter Tryz.func5, Tryz.ntmps5
  go_wp2
  generalize w.alloc (.cells #[.slice A0 g.terms.length c0, .slice A1 g.nons.length c1, .slice A2 g.rules.length c2, .int .i64 g.start] 25) = W0 at *
  have HB0 := Aside0.mk hb0
  obtain ⟨f0, f1, f2, f3⟩ := gcells hk0
  clear hb0 hk0
  obtain ⟨T, hT⟩ : ∃ T : Int, T = (g.terms.length : Int) + g.nons.length + g.rules.length := ⟨_, rfl⟩
  have hT2 : T ≤ 3145728 := by omega
  have hT0 : 0 ≤ T := by omega
  go_loop [3, 4] (fun s i => ∃ (k : Nat) (n : Int), k ≤ g.terms.length ∧ k ≤ 200 ∧ i = .int .i64 k ∧ s = .int .i64 n ∧ T ≤ n ∧ n ≤ T + k * 1048576) (fun _ i => g.terms.length - (intOf i).toNat)
  case atStart => exact ⟨0, _, Nat.zero_le _, Nat.zero_le _, rfl, rfl, by omega, by omega⟩
  case round =>
    obtain ⟨k, n, hk, hk2, rfl, rfl, n1, n2⟩ := hrel
    by_cases hlt : k < g.terms.length ∧ k < 200
    · obtain ⟨hl1, hl2⟩ := hlt
      have hltz : (k : Int) < (g.terms.length : Int) := by omega
      have hltw : (k : Int) < 200 := by omega
      obtain ⟨ad, rfl, l2⟩ := at_str HT.out k hl1
      have hys := ZT.out _ (getD_mem hl1)
      obtain ⟨y, hy⟩ : ∃ y, g.terms.getD k default = y := ⟨_, rfl⟩
      rw [hy] at l2 hys
      clear hy
      go_wp2
      go_round
      case rel => exact ⟨k + 1, n + (y.size : Int) / 20, by omega, by omega, by go_num, by go_num, by omega, by omega⟩
      case measure => simp [intOf]; omega
    · have HL := Aside0.mk hlt
      have hcnd : (k : Int) < (g.terms.length : Int) → ¬ (k : Int) < 200 := by omega
      clear hlt
      have HN2 : Aside0 (n ≤ T + 200 * 1048576) := ⟨by omega⟩
      by_cases hltz : (k : Int) < (g.terms.length : Int)
      all_goals
        (first | have hltw : ¬ (k : Int) < 200 := hcnd hltz | skip)
        clear hcnd
        clear n2
        go_wp2
        go_loop [3, 5] (fun s i => ∃ (k : Nat) (n : Int), k ≤ g.nons.length ∧ k ≤ 200 ∧ i = .int .i64 k ∧ s = .int .i64 n ∧ T ≤ n ∧ n ≤ T + 209715200 + k * 1048576) (fun _ i => g.nons.length - (intOf i).toNat)
        case atStart => exact ⟨0, n, Nat.zero_le _, Nat.zero_le _, rfl, rfl, n1, by have := HN2.out; omega⟩
        case round =>
          clear n1 HN2
          obtain ⟨k, n, hk, hk2, rfl, rfl, n1, n2⟩ := hrel
          by_cases hlt : k < g.nons.length ∧ k < 200
          · obtain ⟨hl1, hl2⟩ := hlt
            have hltz : (k : Int) < (g.nons.length : Int) := by omega
            have hltw : (k : Int) < 200 := by omega
            obtain ⟨ad, rfl, l2⟩ := at_str HN.out k hl1
            have hys := ZN.out _ (getD_mem hl1)
            obtain ⟨y, hy⟩ : ∃ y, g.nons.getD k default = y := ⟨_, rfl⟩
            rw [hy] at l2 hys
            clear hy
            go_wp2
            go_round
            case rel => exact ⟨k + 1, n + (y.size : Int) / 20, by omega, by omega, by go_num, by go_num, by omega, by omega⟩
            case measure => simp [intOf]; omega
          · have hcnd : (k : Int) < (g.nons.length : Int) → ¬ (k : Int) < 200 := by omega
            clear hlt
            have HN2 : Aside0 (n ≤ T + 419430400) := ⟨by omega⟩
            by_cases hltz : (k : Int) < (g.nons.length : Int)
            all_goals
              (first | have hltw : ¬ (k : Int) < 200 := hcnd hltz | skip)
              clear hcnd
              clear n2
              go_wp2
              go_loop [3, 6] (fun s i => ∃ (k : Nat) (n : Int), k ≤ g.rules.length ∧ k ≤ 400 ∧ i = .int .i64 k ∧ s = .int .i64 n ∧ T ≤ n ∧ n ≤ T + 419430400 + k * 1048576 ∧ Aside0 (∀ j, j < k → ((g.rules.getD j default).right.length : Int) / 9 ≤ n)) (fun _ i => g.rules.length - (intOf i).toNat)
              case atStart => exact ⟨0, n, Nat.zero_le _, Nat.zero_le _, rfl, rfl, n1, by have := HN2.out; omega, ⟨fun j hj => absurd hj (Nat.not_lt_zero _)⟩⟩
              case round =>
                clear n1 HN2
                obtain ⟨k, n, hk, hk2, rfl, rfl, n1, n2, AF⟩ := hrel
                by_cases hlt : k < g.rules.length ∧ k < 400
                · obtain ⟨hl1, hl2⟩ := hlt
                  have hltz : (k : Int) < (g.rules.length : Int) := by omega
                  have hltw : (k : Int) < 400 := by omega
                  obtain ⟨ad, Ar, cr, rfl, k1, k2, k3, _⟩ := at_rl HR.out k hl1
                  have hys := ZR.out _ (getD_mem hl1)
                  have hmd : ∃ y, g.rules.getD k default = y := ⟨_, rfl⟩
                  obtain ⟨y, hy⟩ := hmd
                  rw [hy] at k1 k2 hys
                  have HY := Aside0.mk hy
                  clear hy k3
                  go_wp2
                  go_round
                  case rel => exact ⟨k + 1, n + (y.right.length : Int) / 9, by omega, by omega, by go_num, by go_num, by omega, by omega, ⟨fun j hj => by
                    rcases Nat.lt_or_ge j k with hj1 | hj1
                    · have := AF.out j hj1; omega
                    · obtain rfl : j = k := by omega
                      rw [HY.out]
                      omega⟩⟩
                  case measure => simp [intOf]; omega
                · have hcnd : (k : Int) < (g.rules.length : Int) → ¬ (k : Int) < 400 := by omega
                  have HL := Aside0.mk hlt
                  clear hlt
                  have HTT := Aside0.mk hT
                  have HQ : Aside0 (n ≤ 300 → g.terms.length + g.nons.length + g.rules.length ≤ 300 ∧ ∀ r ∈ g.rules, r.right.length ≤ 10000) := ⟨fun hn => by
                    have hl := HL.out
                    refine ⟨by omega, fun r hr => ?_⟩
                    obtain ⟨j, hj, rfl⟩ := List.mem_iff_getElem.1 hr
                    have := AF.out j (by omega)
                    rw [List.getD_eq_getElem?_getD, List.getElem?_eq_getElem hj, Option.getD_some] at this
                    omega⟩
                  by_cases hltz : (k : Int) < (g.rules.length : Int)
                  all_goals
                    (first | have hltw : ¬ (k : Int) < 400 := hcnd hltz | skip)
                    clear hcnd
                    go_wp2
                    go_ret
                    exact ⟨⟨n, rfl, HQ.out⟩, HB0.out⟩
end
end Go.Proofs.YtliofoikejdjeaaGreat
/- The grammar that awake shows. -/
namespace Go.Proofs.YtliofoikejdjeaaGreat
open Go.RowKit Go.Proofs.YtliofoikejdjeaaGreatW.PrintWords
set_option linter.unusedVariables false
set_option linter.unusedSimpArgs false
def gA : Gm := { terms := [⟨#[65]⟩], nons := [⟨#[115]⟩], rules := [{ left := 2, right := [1, 2] }, { left := 2, right := [] }], start := 2 }
theorem gA_rule : gA.ruleB { left := 2, right := [1, 2] } = ⟨#[115, 32, 58, 32, 65, 32, 115]⟩ := by kernel_rfl
theorem gA_check : gA.check = 0 := by
  rw [check_ref]
  have h1 : manyB gA = false := by kernel_rfl
  have h2 : (gA.terms.all termOk && gA.nons.all plainOk) = true := by kernel_rfl
  have h3 : decide gA.names.Nodup = true := by decide
  have h4 : gA.knownB = true := by kernel_rfl
  have h5 : unlikeR gA.rules = true := by
    unfold unlikeR
    rw [decide_eq_true_eq]
    intro i hi j hj
    have hl : gA.rules.length = 2 := rfl
    obtain rfl : i = 1 := by omega
    obtain rfl : j = 0 := by omega
    decide
  have h6 : gA.lacks = false := by
    unfold Gm.lacks
    rw [decide_eq_false_iff_not]
    rintro ⟨k, hk, e⟩
    have hl : gA.nons.length = 1 := rfl
    obtain rfl : k = 0 := by omega
    exact absurd e (by decide)
  rw [h1, h2, h3, h4, h5, h6]
  rfl
theorem gA_ordered : gA.ordered = true := by
  rw [ordered_iff]
  intro i hi
  have hl : gA.nons.length = 1 := rfl
  omega
theorem gA_show : gA.showS = ⟨#[37, 116, 111, 107, 101, 110, 32, 65, 10, 37, 115, 116, 97, 114, 116, 32, 115, 10, 37, 37, 10, 115, 32, 58, 32, 65, 32, 115, 10, 9, 124, 10, 9, 59, 10]⟩ := by
  unfold Gm.showS
  rw [if_pos ⟨gA_check, gA_ordered⟩]
  kernel_rfl
theorem name_le {g : Gm} {m : Nat} (h : ∀ s ∈ g.names, s.size ≤ m) (h1 : 1 ≤ m) (s : Int) : (g.nameOf s).size ≤ m := by
  unfold Gm.nameOf
  split
  · exact h1
  · split
    · by_cases hl : s.toNat - 1 < g.names.length
      · exact h _ (getD_mem hl)
      · rw [List.getD_eq_getElem?_getD, List.getElem?_eq_none (by omega)]
        exact Nat.zero_le _
    · exact Nat.zero_le _
theorem gA_small : gA.Small := by
  have hn : ∀ s ∈ gA.names, s.size ≤ 2000000 := by
    intro s hs
    have : s = ⟨#[65]⟩ ∨ s = ⟨#[115]⟩ := by simpa [gA, Gm.names] using hs
    rcases this with rfl | rfl <;> decide
  refine ⟨name_le hn (by decide), by decide, by decide, by decide, ?_, hn⟩
  intro r hr
  have : r = { left := 2, right := [1, 2] } ∨ r = { left := 2, right := [] } := by simpa [gA] using hr
  rcases this with rfl | rfl <;> decide
theorem kRl_mk {w : World} {x : Rl} {A : Option Addr} {c : Nat} (hc : x.right.length ≤ c) (h : Kd.C (Kd.int .i64) w A x.right.length x.right) : kRl.K w x [.int .i64 x.left, .slice A x.right.length c] := ⟨[_], [_], rfl, rfl, A, c, rfl, hc, h⟩
theorem C_one {α : Type} {d : Kd α} {w : World} {b : Nat} {p : α} {v : Value} (hs : d.sz = 1) (hk : d.K w p [v]) (h : w.cell? ⟨b, 0, none⟩ = some v) : Kd.C d w (some ⟨b, 0, none⟩) 1 [p] := by
  refine ⟨rfl, by decide, fun _ => ⟨_, rfl, fun j q hq => ?_⟩⟩
  cases j with
  | succ j => simp at hq
  | zero =>
    simp at hq
    subst hq
    refine ⟨[v], by rw [hs]; rfl, hk, fun i u hu => ?_⟩
    cases i with
    | succ i => simp at hu
    | zero =>
      simp at hu
      subst hu
      simpa [Addr.add] using h
theorem C_none {α : Type} {d : Kd α} {w : World} : Kd.C d w none 0 [] := ⟨rfl, by decide, fun h => absurd h (by decide)⟩
theorem gA_at {W : World} {b0 b1 b2 b3 : Nat} (h0 : W.cell? ⟨b0, 0, none⟩ = some (.string ⟨#[65]⟩)) (h1 : W.cell? ⟨b1, 0, none⟩ = some (.string ⟨#[115]⟩)) (h2 : W.cell? ⟨b2, 0, none⟩ = some (.int .i64 1)) (h3 : W.cell? ⟨b2, 1, none⟩ = some (.int .i64 2))
    (h4 : W.cell? ⟨b3, 0, none⟩ = some (.int .i64 2)) (h5 : W.cell? ⟨b3, 1, none⟩ = some (.slice (some ⟨b2, 0, none⟩) 2 2)) (h6 : W.cell? ⟨b3, 2, none⟩ = some (.int .i64 2)) (h7 : W.cell? ⟨b3, 3, none⟩ = some (.slice none 0 0)) :
    GmAt W (some ⟨b0, 0, none⟩) (some ⟨b1, 0, none⟩) (some ⟨b3, 0, none⟩) 1 1 2 gA := by
  have hi : Kd.C (Kd.int .i64) W (some ⟨b2, 0, none⟩) 2 [1, 2] := by
    refine ⟨rfl, by decide, fun _ => ⟨_, rfl, fun j q hq => ?_⟩⟩
    match j with
    | 0 =>
      simp at hq
      subst hq
      refine ⟨[.int .i64 1], rfl, rfl, fun i u hu => ?_⟩
      cases i with
      | succ i => simp at hu
      | zero => simp at hu; subst hu; simpa [Addr.add] using h2
    | 1 =>
      simp at hq
      subst hq
      refine ⟨[.int .i64 2], rfl, rfl, fun i u hu => ?_⟩
      cases i with
      | succ i => simp at hu
      | zero => simp at hu; subst hu; simpa [Addr.add, Kd.int, Kd.scalar] using h3
    | j + 2 => simp at hq
  refine ⟨C_one rfl rfl h0, C_one rfl rfl h1, ?_, by decide, by decide, by decide, by decide, by decide, by decide⟩
  refine ⟨rfl, by decide, fun _ => ⟨_, rfl, fun j q hq => ?_⟩⟩
  match j with
  | 0 =>
    simp [gA] at hq
    subst hq
    refine ⟨[.int .i64 2, .slice (some ⟨b2, 0, none⟩) 2 2], rfl, kRl_mk (x := { left := 2, right := [1, 2] }) (by decide) hi, fun i u hu => ?_⟩
    match i with
    | 0 => simp at hu; subst hu; simpa [Addr.add] using h4
    | 1 => simp at hu; subst hu; simpa [Addr.add] using h5
    | i + 2 => simp at hu
  | 1 =>
    simp [gA] at hq
    subst hq
    refine ⟨[.int .i64 2, .slice none 0 0], rfl, kRl_mk (x := { left := 2, right := [] }) (by decide) C_none, fun i u hu => ?_⟩
    match i with
    | 0 => simp at hu; subst hu; exact h6
    | 1 => simp at hu; subst hu; exact h7
    | i + 2 => simp at hu
  | j + 2 => simp [gA] at hq
end Go.Proofs.YtliofoikejdjeaaGreat
/- awake. -/
namespace Go.Proofs.YtliofoikejdjeaaGreat
open Go.RowKit Go.Proofs.YtliofoikejdjeaaGreatW.PrintWords
set_option linter.unusedVariables false
set_option maxRecDepth 1000000
set_option linter.unusedSimpArgs false
set_option maxHeartbeats 4000000 in
theorem law08_awake {w : World} : Calls Tryz.prog 8 #[] w fun e w' => e = .returned (.bool true) ∧ Below w.heap.size w w' := by
  go_enter Tryz.func8, Tryz.ntmps8
  go_wp2
  generalize ho1 : Obj.cells #[Value.string { data := #[65] }] 9 = o1
  generalize ho2 : Obj.cells #[Value.string { data := #[115] }] 9 = o2
  generalize ho3 : Obj.cells #[Value.int IntKind.i64 1, Value.int IntKind.i64 2] 3 = o3
  generalize ho4 : Obj.cells #[Value.int IntKind.i64 2, Value.slice (some { block := w.heap.size + 1 + 1, off := 0 }) 2 2, Value.int IntKind.i64 2, Value.slice none 0 0] 40 = o4
  generalize ho5 : Obj.cells #[Value.slice (some { block := w.heap.size, off := 0 }) 1 1, Value.slice (some { block := w.heap.size + 1, off := 0 }) 1 1, Value.slice (some { block := w.heap.size + 1 + 1 + 1, off := 0 }) 2 2, Value.int IntKind.i64 2] 25 = o5
  have hb0 := below_alloc (below_alloc (below_alloc (below_alloc (below_alloc (Below.refl _ w) o1) o2) o3) o4) o5
  have q1 := blk_alloc (blk_alloc (blk_alloc (blk_alloc (blk_new w o1) o2) o3) o4) o5
  have q2 := blk_alloc (blk_alloc (blk_alloc (blk_new (w.alloc o1) o2) o3) o4) o5
  have q3 := blk_alloc (blk_alloc (blk_new ((w.alloc o1).alloc o2) o3) o4) o5
  have q4 := blk_alloc (blk_new (((w.alloc o1).alloc o2).alloc o3) o4) o5
  have q5 := blk_new ((((w.alloc o1).alloc o2).alloc o3).alloc o4) o5
  rw [show (w.alloc o1).heap.size = w.heap.size + 1 from by simp] at q2
  rw [show ((w.alloc o1).alloc o2).heap.size = w.heap.size + 1 + 1 from by simp] at q3
  rw [show (((w.alloc o1).alloc o2).alloc o3).heap.size = w.heap.size + 1 + 1 + 1 from by simp] at q4
  rw [show ((((w.alloc o1).alloc o2).alloc o3).alloc o4).heap.size = w.heap.size + 1 + 1 + 1 + 1 from by simp] at q5
  generalize ((((w.alloc o1).alloc o2).alloc o3).alloc o4).alloc o5 = W0 at *
  subst ho1 ho2 ho3 ho4 ho5
  have hg : GmAt W0 (some ⟨w.heap.size, 0, none⟩) (some ⟨w.heap.size + 1, 0, none⟩) (some ⟨w.heap.size + 1 + 1 + 1, 0, none⟩) 1 1 2 gA :=
    gA_at (blk_cell q1 0) (blk_cell q2 0) (blk_cell q3 0) (blk_cell q3 1) (blk_cell q4 0) (blk_cell q4 1) (blk_cell q4 2) (blk_cell q4 3)
  have KS : Aside0 (∀ W, Below W0.heap.size W0 W → Calls Tryz.prog 9 #[.agg #[.slice (some ⟨w.heap.size, 0, none⟩) 1 1, .slice (some ⟨w.heap.size + 1, 0, none⟩) 1 1, .slice (some ⟨w.heap.size + 1 + 1 + 1, 0, none⟩) 2 2, .int .i64 2]] W fun e w' => e = .returned (.string ⟨#[37, 116, 111, 107, 101, 110, 32, 65, 10, 37, 115, 116, 97, 114, 116, 32, 115, 10, 37, 37, 10, 115, 32, 58, 32, 65, 32, 115, 10, 9, 124, 10, 9, 59, 10]⟩) ∧ Below W.heap.size W w') := ⟨fun W hb => by
    have := gshow_Show (hg.below hb) gA_small
    rw [gA_show] at this
    exact this⟩
  have KR : Aside0 (∀ W, Below W0.heap.size W0 W → Calls Tryz.prog 19 #[.agg #[.slice (some ⟨w.heap.size, 0, none⟩) 1 1, .slice (some ⟨w.heap.size + 1, 0, none⟩) 1 1, .slice (some ⟨w.heap.size + 1 + 1 + 1, 0, none⟩) 2 2, .int .i64 2], .agg #[.int .i64 2, .slice (some ⟨w.heap.size + 1 + 1, 0, none⟩) 2 2]] W fun e w' => e = .returned (.string ⟨#[115, 32, 58, 32, 65, 32, 115]⟩) ∧ Below W.heap.size W w') := ⟨fun W hb => by
    obtain ⟨ad, A1, c1, e, _, k2, _, k4⟩ := at_rl hg.rules 0 (by decide)
    obtain rfl := Option.some.inj e
    have hs : some (Value.slice A1 (gA.rules.getD 0 default).right.length c1) = some (Value.slice (some ⟨w.heap.size + 1 + 1, 0, none⟩) 2 2) := by
      rw [← k2]
      exact (blk_cell q4 1).trans rfl
    simp only [Option.some.injEq, Value.slice.injEq] at hs
    obtain ⟨rfl, _, _⟩ := hs
    have := gshow_Rule (c := 2) (r := { left := 2, right := [1, 2] }) (hg.below hb) (Kd.C_below k4 hb) (by decide) gA_small.name
    rw [gA_rule] at this
    exact this⟩
  have KEY : Aside0 (∀ W, Below W0.heap.size W0 W → (W.cell? ⟨w.heap.size + 1 + 1 + 1 + 1, 0, none⟩ = some (.slice (some ⟨w.heap.size, 0, none⟩) 1 1) ∧ W.cell? ⟨w.heap.size + 1 + 1 + 1 + 1, 1, none⟩ = some (.slice (some ⟨w.heap.size + 1, 0, none⟩) 1 1) ∧ W.cell? ⟨w.heap.size + 1 + 1 + 1 + 1, 2, none⟩ = some (.slice (some ⟨w.heap.size + 1 + 1 + 1, 0, none⟩) 2 2) ∧ W.cell? ⟨w.heap.size + 1 + 1 + 1 + 1, 3, none⟩ = some (.int .i64 2)) ∧ W.cell? ⟨w.heap.size + 1 + 1 + 1, 0, none⟩ = some (.int .i64 2) ∧ W.cell? ⟨w.heap.size + 1 + 1 + 1, 1, none⟩ = some (.slice (some ⟨w.heap.size + 1 + 1, 0, none⟩) 2 2)) :=
    ⟨fun W hb => ⟨gcells (blk_below q5 hb), blk_cell (blk_below q4 hb) 0, blk_cell (blk_below q4 hb) 1⟩⟩
  have HB0 := Aside0.mk hb0
  clear hb0 q1 q2 q3 q4 q5 hg
  refine wp_region_det (vs := [?d1xv0, ?d1xv1, ?d1xv2, ?d1xv3, ?d1xv4, ?d1xv5, ?d1xv6, ?d1xv7, ?d1xv8, ?d1xv9, ?d1xv10, ?d1xv11, ?d1xv12]) (fun w' => Below W0.heap.size W0 w') rfl (by kernel_rfl) (putAll_put (by simp only [Act.put, List.setIfInBounds_toArray, List.set_cons_zero, List.set_cons_succ]; rfl) (putAll_put (by simp only [Act.put, List.setIfInBounds_toArray, List.set_cons_zero, List.set_cons_succ]; rfl) (putAll_put (by simp only [Act.put, List.setIfInBounds_toArray, List.set_cons_zero, List.set_cons_succ]; rfl) (putAll_put (by simp only [Act.put, List.setIfInBounds_toArray, List.set_cons_zero, List.set_cons_succ]; rfl) (putAll_put (by simp only [Act.put, List.setIfInBounds_toArray, List.set_cons_zero, List.set_cons_succ]; rfl) (putAll_put (by simp only [Act.put, List.setIfInBounds_toArray, List.set_cons_zero, List.set_cons_succ]; rfl) (putAll_put (by simp only [Act.put, List.setIfInBounds_toArray, List.set_cons_zero, List.set_cons_succ]; rfl) (putAll_put (by simp only [Act.put, List.setIfInBounds_toArray, List.set_cons_zero, List.set_cons_succ]; rfl) (putAll_put (by simp only [Act.put, List.setIfInBounds_toArray, List.set_cons_zero, List.set_cons_succ]; rfl) (putAll_put (by simp only [Act.put, List.setIfInBounds_toArray, List.set_cons_zero, List.set_cons_succ]; rfl) (putAll_put (by simp only [Act.put, List.setIfInBounds_toArray, List.set_cons_zero, List.set_cons_succ]; rfl) (putAll_put (by simp only [Act.put, List.setIfInBounds_toArray, List.set_cons_zero, List.set_cons_succ]; rfl) (putAll_put (by simp only [Act.put, List.setIfInBounds_toArray, List.set_cons_zero, List.set_cons_succ]; rfl) (putAll_nil _)))))))))))))) (below_drew (Below.refl _ _)) ?d1xOps ?d1xFin
  case d1xOps =>
    refine ⟨fun w' hw => ?d1xo0, fun w' hw => ?d1xo1, fun w' hw => ?d1xo2, fun w' hw => ?d1xo3, fun w' hw => ?d1xo4, fun w' hw => ?d1xo5, fun w' hw => ?d1xo6, fun w' hw => ?d1xo7, fun w' hw => ?d1xo8, fun w' hw => ?d1xo9, fun w' hw => ?d1xo10, fun w' hw => ?d1xo11, fun w' hw => ?d1xo12, trivial⟩
    case d1xo0 => obtain ⟨⟨f0, f1, f2, f3⟩, f4, f5⟩ := KEY.out w' hw; go_simp; rfl
    case d1xo1 => obtain ⟨⟨f0, f1, f2, f3⟩, f4, f5⟩ := KEY.out w' hw; (go_simp; refine (KS.out w' hw).mono ?_; rintro e w2 ⟨rfl, hb2⟩; exact ⟨by rfl, hw.trans (hb2.mono hw.size)⟩)
    case d1xo2 => obtain ⟨⟨f0, f1, f2, f3⟩, f4, f5⟩ := KEY.out w' hw; go_simp; rfl
    case d1xo3 => obtain ⟨⟨f0, f1, f2, f3⟩, f4, f5⟩ := KEY.out w' hw; go_simp; rfl
    case d1xo4 => obtain ⟨⟨f0, f1, f2, f3⟩, f4, f5⟩ := KEY.out w' hw; go_simp; rfl
    case d1xo5 => obtain ⟨⟨f0, f1, f2, f3⟩, f4, f5⟩ := KEY.out w' hw; go_simp; rfl
    case d1xo6 => obtain ⟨⟨f0, f1, f2, f3⟩, f4, f5⟩ := KEY.out w' hw; go_simp; rfl
    case d1xo7 => obtain ⟨⟨f0, f1, f2, f3⟩, f4, f5⟩ := KEY.out w' hw; go_simp; rfl
    case d1xo8 => obtain ⟨⟨f0, f1, f2, f3⟩, f4, f5⟩ := KEY.out w' hw; go_simp; rfl
    case d1xo9 => obtain ⟨⟨f0, f1, f2, f3⟩, f4, f5⟩ := KEY.out w' hw; (go_simp; refine (KR.out w' hw).mono ?_; rintro e w2 ⟨rfl, hb2⟩; exact ⟨by rfl, hw.trans (hb2.mono hw.size)⟩)
    case d1xo10 => obtain ⟨⟨f0, f1, f2, f3⟩, f4, f5⟩ := KEY.out w' hw; go_simp; rfl
    case d1xo11 => obtain ⟨⟨f0, f1, f2, f3⟩, f4, f5⟩ := KEY.out w' hw; go_simp; rfl
    case d1xo12 => obtain ⟨⟨f0, f1, f2, f3⟩, f4, f5⟩ := KEY.out w' hw; go_simp; rfl
  case d1xFin =>
    intro w1 hw1
    go_wp2
    go_ret
    exact ⟨rfl, HB0.out.trans (hw1.mono HB0.out.size)⟩
end Go.Proofs.YtliofoikejdjeaaGreat
/- What gtok.All and gread.Parse answer, in plain Lean. -/
namespace Go.Proofs.YtliofoikejdjeaaGreat
open Go.RowKit Go.Proofs.YtliofoikejdjeaaGreatW.PrintWords
set_option linter.unusedVariables false
/-- A token. -/
structure Tk where
  k : Int
  s : ByteArray
  at_ : Int
  deriving DecidableEq
instance : Inhabited Tk := ⟨⟨0, ⟨#[]⟩, 0⟩⟩
/-- An error's number, and its place. -/
abbrev Ft := Int × Int
def whiteB (c : UInt8) : Bool := decide (c.toNat = 32) || decide (c.toNat = 9) || decide (c.toNat = 10) || decide (c.toNat = 13)
def letterB (c : UInt8) : Bool := decide (cls c.toNat = 4) || decide (cls c.toNat = 3)
def signS (n : Nat) : Int := if n = 58 then 3 else if n = 124 then 4 else if n = 59 then 5 else 0
/-- A comment from a place on: how many bytes; or an error. -/
def commentS (s : ByteArray) (a : Nat) : Int × Int × Int :=
  if byteN s (a + 1) = 42 then
    let n := Lib.index (s.data.toList.drop (a + 2)) [42, 47]
    if n < 0 then (0, 4, s.size) else (n + 4, 0, 0)
  else (0, 2, a)
/-- What stands behind a %: kind, bytes; or an error. -/
def markS (s : ByteArray) (a : Nat) : Int × Int × Int × Int :=
  if byteN s (a + 1) = 37 then (6, 2, 0, 0) else
    let n := spanS letterB s (a + 1)
    let t := (s.data.toList.drop (a + 1)).take n
    if t = [116, 111, 107, 101, 110] then (7, 1 + n, 0, 0) else if t = [115, 116, 97, 114, 116] then (8, 1 + n, 0, 0) else (0, 0, 2, a)
/-- The token at a place: kind (0: passed over), bytes; or an error. -/
def oneS (s : ByteArray) (a : Nat) : Int × Int × Int × Int :=
  if h : a < s.size then
    let c := s[a]'h
    if whiteB c then (0, spanS whiteB s a, 0, 0)
    else if c.toNat = 47 then (0, commentS s a)
    else if c.toNat = 39 then (2, quotedS s a)
    else if c.toNat = 37 then markS s a
    else if cls c.toNat = 4 then
      let n := spanS letterB s a
      if 24 < n then (0, 0, 5, a) else (1, n, 0, 0)
    else if signS c.toNat ≠ 0 then (signS c.toNat, 1, 0, 0)
    else (0, 0, 2, a)
  else (0, 0, 0, 0)
def cutS (s : ByteArray) (a n : Nat) : ByteArray := s.extract a (a + n)
def toksS (s : ByteArray) : Nat → Nat → List Tk × Int × Int
  | 0, _ => ([], 0, 0)
  | f + 1, a => if s.size ≤ a then ([⟨0, ⟨#[]⟩, s.size⟩], 0, 0) else
    let o := oneS s a
    if o.2.2.1 ≠ 0 then ([], o.2.2) else
    let r := toksS s f (a + o.2.1.toNat)
    if r.2.1 ≠ 0 then ([], r.2) else (if o.1 = 0 then r.1 else ⟨o.1, cutS s a o.2.1.toNat, a⟩ :: r.1, 0, 0)
def allS (s : ByteArray) : List Tk × Int × Int := if 8192 < s.size then ([], 5, 0) else toksS s (s.size + 1) 0

/-! the reader -/
structure Sd where
  l : List Tk
  at_ : Int
  deriving DecidableEq
instance : Inhabited Sd := ⟨⟨[], 0⟩⟩
structure Ru where
  left : Tk
  sides : List Sd
  deriving DecidableEq
instance : Inhabited Ru := ⟨⟨default, []⟩⟩
/-- What is declared. -/
structure Hd where
  declared : List Tk
  marks : List Int
  starts : List Tk
def hd (l : List Tk) : Tk := l.headD default
def symB (t : Tk) : Bool := decide (t.k = 1) || decide (t.k = 2)
def badS (l : List Tk) : Ft := if (hd l).k = 0 then (4, (hd l).at_) else (3, (hd l).at_)
def headS (l : List Tk) (x : Hd) : Except Ft (List Tk × Hd) :=
  if (hd l).k = 7 then
    if symB (hd l.tail) then .ok (l.tail.dropWhile symB, { x with declared := x.declared ++ l.tail.takeWhile symB }) else .error (badS l.tail)
  else if (hd l).k = 8 then
    if (hd l.tail).k = 1 then .ok (l.tail.tail, { x with marks := x.marks ++ [(hd l).at_], starts := x.starts ++ [hd l.tail] }) else .error (badS l.tail)
  else .error (badS l)
def sideS (l : List Tk) : Sd := ⟨l.takeWhile symB, (hd l).at_⟩
/-- Right sides, up to the sign behind them. -/
def sidesS : Nat → List Tk → List Sd → Except Ft (List Tk × List Sd)
  | 0, l, _ => .error (badS l)
  | f + 1, l, acc =>
    let l' := l.dropWhile symB
    if (hd l').k = 4 then sidesS f l'.tail (acc ++ [sideS l])
    else if (hd l').k = 5 then .ok (l'.tail, acc ++ [sideS l])
    else .error (badS l')
def ruleS (l : List Tk) : Except Ft (List Tk × Ru) :=
  if (hd l).k = 1 then
    if (hd l.tail).k = 3 then
      match sidesS (l.length + 1) l.tail.tail [] with
      | .ok (l', sd) => .ok (l', ⟨hd l, sd⟩)
      | .error f => .error f
    else .error (badS l.tail)
  else .error (badS l)
def headsS : Nat → List Tk → Hd → Except Ft (List Tk × Hd)
  | 0, l, _ => .error (badS l)
  | f + 1, l, x => if (hd l).k = 6 then .ok (l.tail, x) else
    match headS l x with
    | .ok (l', x') => headsS f l' x'
    | .error e => .error e
def rulesS : Nat → List Tk → List Ru → Except Ft (List Ru)
  | 0, l, _ => .error (badS l)
  | f + 1, l, acc => if (hd l).k = 0 then .ok acc else
    match ruleS l with
    | .ok (l', r) => rulesS f l' (acc ++ [r])
    | .error e => .error e
def formS (l : List Tk) : Except Ft (Hd × List Ru) :=
  match headsS (l.length + 1) l ⟨[], [], []⟩ with
  | .error e => .error e
  | .ok (l', x) =>
    match ruleS l' with
    | .error e => .error e
    | .ok (l'', r) =>
      match rulesS (l.length + 1) l'' [r] with
      | .error e => .error e
      | .ok rs => .ok (x, rs)

/-! the builder -/
def leftsN (rs : List Ru) (s : ByteArray) : Nat := rs.countP fun r => decide (r.left.s = s)
def termB (t : Tk) (ts : List ByteArray) : Except Ft (List ByteArray) := if 120 ≤ ts.length then .error (7, t.at_) else .ok (ts ++ [t.s])
def startB (rs : List Ru) (x : Hd) : Except Ft Unit := if leftsN rs (hd x.starts).s = 0 then .error (9, (hd x.starts).at_) else .ok ()
/-- What is declared: the tokens that are left, whether %start is to be asked yet, the terminals. -/
def declareB (rs : List Ru) (x : Hd) : List Tk → Bool → List ByteArray → Except Ft (List ByteArray)
  | [], p, ts => if p then (match startB rs x with | .ok _ => .ok ts | .error e => .error e) else .ok ts
  | t :: r, p, ts =>
    let q := p && decide (x.marks.headD 0 < t.at_)
    match (if q then startB rs x else .ok ()) with
    | .error e => .error e
    | .ok _ =>
      if 0 ≤ placeS ts t.s then .error (8, t.at_) else
      match termB t ts with
      | .error e => .error e
      | .ok ts' => declareB rs x r (p && !q) ts'
def secondB (x : Hd) : Int := if x.marks.length < 2 then 8193 else x.marks.getD 1 0
def headsB (rs : List Ru) (x : Hd) : Except Ft (List ByteArray) :=
  match declareB rs x x.declared (!x.starts.isEmpty) [] with
  | .ok ts => if secondB x ≤ 8192 then .error (8, secondB x) else .ok ts
  | .error e => if secondB x ≤ 8192 ∧ secondB x < e.2 then .error (8, secondB x) else .error e
def leftB (t : Tk) (declared : Nat) (ts ns : List ByteArray) : Except Ft (List ByteArray) :=
  if 0 ≤ placeS ts t.s ∧ placeS ts t.s < declared then .error (8, t.at_)
  else if 0 ≤ placeS ns t.s then .ok ns
  else if 120 ≤ ns.length then .error (7, t.at_) else .ok (ns ++ [t.s])
def symbolB (rs : List Ru) (t : Tk) (k : Nat) (ts : List ByteArray) : Except Ft (List ByteArray) :=
  if 8 ≤ k then .error (7, t.at_) else if 0 ≤ placeS ts t.s then .ok ts else if t.k = 2 then termB t ts else if leftsN rs t.s = 0 then .error (9, t.at_) else .ok ts
def symbolsB (rs : List Ru) : List Tk → Nat → List ByteArray → Except Ft (List ByteArray)
  | [], _, ts => .ok ts
  | t :: r, k, ts => match symbolB rs t k ts with | .error e => .error e | .ok ts' => symbolsB rs r (k + 1) ts'
/-- What is built: terminals, nonterminals, rules by names. -/
structure Bu where
  ts : List ByteArray
  ns : List ByteArray
  rs : List (List ByteArray)
def sideB (rs : List Ru) (left : ByteArray) (s : Sd) (b : Bu) : Except Ft Bu :=
  if 300 ≤ b.rs.length then .error (7, s.at_) else
  match symbolsB rs s.l 0 b.ts with
  | .error e => .error e
  | .ok ts => if b.rs.any (fun y => decide ((left :: s.l.map (·.s)) = y)) then .error (8, s.at_) else .ok { b with ts := ts, rs := b.rs ++ [left :: s.l.map (·.s)] }
def sidesB (rs : List Ru) (left : ByteArray) : List Sd → Bu → Except Ft Bu
  | [], b => .ok b
  | s :: r, b => match sideB rs left s b with | .error e => .error e | .ok b' => sidesB rs left r b'
def rulesB (rs : List Ru) (declared : Nat) : List Ru → Bu → Except Ft Bu
  | [], b => .ok b
  | x :: r, b =>
    match leftB x.left declared b.ts b.ns with
    | .error e => .error e
    | .ok ns => match sidesB rs x.left.s x.sides { b with ns := ns } with
      | .error e => .error e
      | .ok b' => rulesB rs declared r b'
def findB (ts ns : List ByteArray) (s : ByteArray) : Int := if 0 ≤ placeS ts s then placeS ts s + 1 else if 0 ≤ placeS ns s then ts.length + placeS ns s + 1 else 0
def ruleB (ts ns : List ByteArray) (x : List ByteArray) : Rl := ⟨findB ts ns (x.headD default), x.tail.map (findB ts ns)⟩
def gramB (x : Hd) (b : Bu) : Gm := { terms := b.ts, nons := b.ns, rules := b.rs.map (ruleB b.ts b.ns), start := if x.starts.isEmpty then b.ts.length + 1 else findB b.ts b.ns (hd x.starts).s }
def buildB (x : Hd) (rs : List Ru) : Except Ft Gm :=
  match headsB rs x with
  | .error e => .error e
  | .ok ts => match rulesB rs ts.length rs ⟨ts, [], []⟩ with
    | .error e => .error e
    | .ok b => .ok (gramB x b)
def parseS (s : ByteArray) : Except Ft Gm :=
  if (allS s).2.1 ≠ 0 then .error (allS s).2 else
  match formS (allS s).1 with
  | .error e => .error e
  | .ok (x, rs) => buildB x rs
end Go.Proofs.YtliofoikejdjeaaGreat
/- Tokens of a text that is laid out token by token (plain). -/
namespace Go.Proofs.YtliofoikejdjeaaGreat
open Go.RowKit Go.Proofs.YtliofoikejdjeaaGreatW.PrintWords
set_option linter.unusedVariables false
set_option linter.unusedSimpArgs false
/-- The text from a place on. -/
structure At (s : ByteArray) (a : Nat) (u : List UInt8) : Prop where
  le : a ≤ s.size
  eq : s.data.toList.drop a = u
section
variable {s : ByteArray} {a : Nat} {t u : List UInt8} {c : UInt8}
theorem At.len (h : At s a u) : s.size = a + u.length := by
  have h1 : (s.data.toList.drop a).length = u.length := by rw [h.eq]
  rw [List.length_drop, data_length] at h1
  have := h.le
  omega
theorem At.app (h : At s a (t ++ u)) : At s (a + t.length) u := by
  refine ⟨by have := h.len; rw [List.length_append] at this; omega, ?_⟩
  rw [← List.drop_drop, h.eq, List.drop_left]
theorem At.tail (h : At s a (c :: u)) : At s (a + 1) u := At.app (t := [c]) h
theorem At.lt (h : At s a (c :: u)) : a < s.size := by
  have := h.len
  simp only [List.length_cons] at this
  omega
theorem At.get (h : At s a (c :: u)) : s[a]'h.lt = c := by
  have h2 : a < s.data.toList.length := by rw [data_length]; exact h.lt
  have := h.eq
  rw [List.drop_eq_getElem_cons h2] at this
  injection this
theorem At.byte (h : At s a (c :: u)) : byteN s a = c.toNat := by rw [← byteN_at h.lt, h.get]
theorem At.span {p : UInt8 → Bool} (h : At s a (t ++ u)) (h1 : ∀ c ∈ t, p c = true) (h2 : u.takeWhile p = []) : spanS p s a = t.length := by
  unfold spanS
  rw [h.eq, List.takeWhile_append_of_pos h1, h2, List.append_nil]
theorem At.cut {t : ByteArray} (h : At s a (t.data.toList ++ u)) : cutS s a t.size = t := by
  have hl := h.len
  apply WideShapes.bytes_inj
  unfold cutS
  rw [ByteArray.data_extract, Array.toList_extract, List.extract_eq_take_drop, show a + t.size - a = t.size from by omega, h.eq, ← data_length t, List.take_left]
end
/-- From a place on these are the tokens. -/
def Toks (s : ByteArray) (a : Nat) (l : List Tk) : Prop := ∀ f, s.size < a + f → toksS s f a = (l, 0, 0)
section
variable {s : ByteArray} {a : Nat} {t u : List UInt8} {c : UInt8} {l : List Tk}
theorem Toks.done (h : At s a []) : Toks s a [⟨0, ⟨#[]⟩, s.size⟩] := by
  intro f hf
  have := h.len
  simp only [List.length_nil] at this
  obtain ⟨g, rfl⟩ : ∃ g, f = g + 1 := ⟨f - 1, by omega⟩
  rw [toksS, if_pos (by omega)]
theorem Toks.step {k : Int} {n : Nat} (ha : a < s.size) (h1 : oneS s a = (k, (n : Int), 0, 0)) (hn : 0 < n) (h : Toks s (a + n) l) : Toks s a (if k = 0 then l else ⟨k, cutS s a n, a⟩ :: l) := by
  intro f hf
  obtain ⟨g, rfl⟩ : ∃ g, f = g + 1 := ⟨f - 1, by omega⟩
  rw [toksS, if_neg (by omega)]
  simp only [h1, Int.toNat_natCast, h g (by omega)]
  rw [if_neg (by simp), if_neg (by simp)]
theorem Toks.white (h : At s a (t ++ u)) (ht : t ≠ []) (h1 : ∀ c ∈ t, whiteB c = true) (h2 : u.takeWhile whiteB = []) (hr : Toks s (a + t.length) l) : Toks s a l := by
  have hsp := h.span h1 h2
  cases t with
  | nil => exact absurd rfl ht
  | cons c t =>
    have ho : oneS s a = (0, (((c :: t).length : Nat) : Int), 0, 0) := by
      unfold oneS
      rw [dif_pos (At.lt h)]
      simp only [At.get (u := t ++ u) h]
      rw [if_pos (h1 c (List.mem_cons_self ..)), hsp]
    have := Toks.step (At.lt h) ho (by simp) hr
    rwa [if_pos rfl] at this
theorem name_head : ∀ c : UInt8, cls c.toNat = 4 → whiteB c = false ∧ c.toNat ≠ 47 ∧ c.toNat ≠ 39 ∧ c.toNat ≠ 37 := by
  have h : ∀ n : Fin 256, cls n.val = 4 → (decide (n.val = 32) || decide (n.val = 9) || decide (n.val = 10) || decide (n.val = 13)) = false ∧ n.val ≠ 47 ∧ n.val ≠ 39 ∧ n.val ≠ 37 := by decide +kernel
  intro c
  exact h ⟨c.toNat, c.toNat_lt⟩
theorem name_bytes {t : ByteArray} (h : nameOk t = true) : ∃ c r, t.data.toList = c :: r ∧ cls c.toNat = 4 ∧ ∀ x ∈ c :: r, letterB x = true := by
  unfold nameOk at h
  simp only [Bool.and_eq_true, decide_eq_true_eq] at h
  obtain ⟨h1, h2⟩ := h
  have hl := data_length t
  cases e : t.data.toList with
  | nil => rw [e] at hl; simp at hl; omega
  | cons c r =>
    have hg : ∀ (i : Nat) (hi : i < t.size), t[i]'hi = (c :: r)[i]'(by rw [← e, hl]; exact hi) := by
      intro i hi
      have : t[i]'hi = t.data.toList[i]'(by rw [hl]; exact hi) := rfl
      rw [this]
      congr 1
    refine ⟨c, r, rfl, ?_, fun x hx => ?_⟩
    · have := h2 0 h1
      rw [hg 0 h1] at this
      rcases this with h | h
      · exact h
      · exact absurd h.2 (Nat.lt_irrefl 0)
    · obtain ⟨i, hi, rfl⟩ := List.mem_iff_getElem.1 hx
      have hi' : i < t.size := by rw [← hl, e]; exact hi
      have := h2 i hi'
      rw [hg i hi'] at this
      unfold letterB
      rcases this with h | h
      · simp [h]
      · simp [h.1]
theorem Toks.name {t : ByteArray} (h : At s a (t.data.toList ++ u)) (hn : nameOk t = true) (hs : t.size ≤ 24) (h2 : u.takeWhile letterB = []) (hr : Toks s (a + t.size) l) : Toks s a (⟨1, t, a⟩ :: l) := by
  obtain ⟨c, r, e, hc, hx⟩ := name_bytes hn
  have hcut := h.cut
  have hl := data_length t
  have h3 := h
  rw [e] at h
  have hsp := h.span hx h2
  rw [← e, hl] at hsp
  obtain ⟨n1, n2, n3, n4⟩ := name_head c hc
  have ho : oneS s a = (1, (t.size : Int), 0, 0) := by
    unfold oneS
    rw [dif_pos (At.lt h)]
    simp only [At.get (u := r ++ u) h]
    rw [if_neg (by rw [n1]; decide), if_neg n2, if_neg n3, if_neg n4, if_pos hc, hsp, if_neg (by omega)]
  have hp : 0 < t.size := by rw [← hl, e]; simp
  have := Toks.step (At.lt h) ho hp hr
  rwa [if_neg (by decide), hcut] at this
theorem Toks.sign {k : Int} (h : At s a (c :: u)) (hk : signS c.toNat = k) (hk0 : k ≠ 0) (hr : Toks s (a + 1) l) : Toks s a (⟨k, ⟨#[c]⟩, a⟩ :: l) := by
  have hc : c.toNat = 58 ∨ c.toNat = 124 ∨ c.toNat = 59 := by
    unfold signS at hk
    by_cases h1 : c.toNat = 58
    · exact .inl h1
    · by_cases h2 : c.toNat = 124
      · exact .inr (.inl h2)
      · by_cases h3 : c.toNat = 59
        · exact .inr (.inr h3)
        · rw [if_neg h1, if_neg h2, if_neg h3] at hk
          exact absurd hk.symm hk0
  have hw : whiteB c = false ∧ cls c.toNat ≠ 4 := by
    unfold whiteB
    rcases hc with h | h | h <;> rw [h] <;> decide
  have ho : oneS s a = (k, ((1 : Nat) : Int), 0, 0) := by
    unfold oneS
    rw [dif_pos (At.lt h)]
    simp only [At.get h]
    rw [if_neg (by rw [hw.1]; decide), if_neg (by omega), if_neg (by omega), if_neg (by omega), if_neg hw.2, if_pos (by rw [hk]; exact hk0), hk]
    rfl
  have hcut := At.cut (s := s) (a := a) (t := ⟨#[c]⟩) (u := u) h
  have := Toks.step (At.lt h) ho (by decide) hr
  rw [if_neg hk0] at this
  rw [show cutS s a 1 = ⟨#[c]⟩ from hcut] at this
  exact this
theorem Toks.quoted {t : ByteArray} (h : At s a (t.data.toList ++ u)) (h1 : byteN t 0 = 39) (h2 : (quotedS t 0).2.1 = 0) (h3 : (quotedS t 0).1 = t.size) (hp : 0 < t.size) (hr : Toks s (a + t.size) l) : Toks s a (⟨2, t, a⟩ :: l) := by
  have hl := data_length t
  have hcut := h.cut
  -- what t is
  obtain ⟨m, hm⟩ : ∃ m, spanS insideB t 1 = m := ⟨_, rfl⟩
  have hq : ¬ t.size ≤ 1 + m ∧ byteN t (1 + m) = 39 ∧ m ≠ 0 ∧ ¬ 23 ≤ m ∧ t.size = m + 2 := by
    unfold quotedS at h2 h3
    simp only [Nat.zero_add, hm] at h2 h3
    split at h2
    · exact absurd h2 (by simp)
    · rename_i g1
      rw [if_neg g1] at h3
      split at h2
      · exact absurd h2 (by simp)
      · rename_i g2
        rw [if_neg g2] at h3
        split at h2
        · exact absurd h2 (by simp)
        · rename_i g3
          rw [if_neg g3] at h3
          simp only at h3
          exact ⟨g1, by omega, by omega, g3, by omega⟩
  obtain ⟨q1, q2, q3, q4, q5⟩ := hq
  obtain ⟨c, r, e⟩ : ∃ c r, t.data.toList = c :: r := by
    cases e : t.data.toList with
    | nil => rw [e] at hl; simp at hl; omega
    | cons c r => exact ⟨c, r, rfl⟩
  have hA : At t 0 (c :: r) := ⟨Nat.zero_le _, by rw [List.drop_zero, e]⟩
  have hc : c.toNat = 39 := by rw [← hA.byte, h1]
  have hA1 := hA.tail
  rw [Nat.zero_add] at hA1
  have hrl : r.length = m + 1 := by have := hA1.len; omega
  have hin : r.takeWhile insideB = r.take m := by
    unfold spanS at hm
    rw [hA1.eq] at hm
    have := List.takeWhile_prefix insideB (l := r)
    rw [List.prefix_iff_eq_take] at this
    rw [hm] at this
    exact this
  obtain ⟨d, hd⟩ : ∃ d, r.drop m = [d] := by
    have : (r.drop m).length = 1 := by rw [List.length_drop]; omega
    exact List.length_eq_one_iff.1 this
  have hr2 : r = r.take m ++ [d] := by rw [← hd, List.take_append_drop]
  have htl : (r.take m).length = m := by rw [List.length_take]; omega
  have hA2 : At t (1 + m) [d] := by
    have := hA1
    rw [hr2] at this
    have := this.app
    rwa [htl] at this
  have hd39 : d.toNat = 39 := by rw [← hA2.byte, q2]
  have hall : ∀ x ∈ r.take m, insideB x = true := by
    intro x hx
    rw [← hin] at hx
    exact List.all_eq_true.1 List.all_takeWhile x hx
  rw [e] at h
  have hB1 : At s (a + 1) (r.take m ++ (d :: u)) := by
    have := At.tail (u := r ++ u) h
    rw [hr2, List.append_assoc] at this
    exact this
  have hsp := hB1.span hall (by
    rw [List.takeWhile_cons]
    have : insideB d = false := by simp [insideB, hd39]
    rw [this]
    rfl)
  rw [htl] at hsp
  have hB2 := hB1.app
  rw [htl] at hB2
  have hby : byteN s (a + (1 + m)) = 39 := by
    have := hB2.byte
    rw [Nat.add_assoc] at this
    rw [this, hd39]
  have hqs : quotedS s a = ((t.size : Int), 0, 0) := by
    unfold quotedS
    simp only [hsp]
    have hlt : ¬ s.size ≤ a + (1 + m) := by have := hB2.lt; omega
    rw [if_neg hlt, if_neg (by omega), if_neg q4, q5]
    simp only [Prod.mk.injEq, and_true]
    omega
  have hw : whiteB c = false := by unfold whiteB; rw [hc]; decide
  have ho : oneS s a = (2, (t.size : Int), 0, 0) := by
    unfold oneS
    rw [dif_pos (At.lt h)]
    simp only [At.get (u := r ++ u) h]
    rw [if_neg (by rw [hw]; decide), if_neg (by omega), if_pos hc, hqs]
  have := Toks.step (At.lt h) ho hp hr
  rwa [if_neg (by decide), hcut] at this
theorem mark_head {c : UInt8} (h : At s a (c :: u)) (hc : c.toNat = 37) : oneS s a = markS s a := by
  have hw : whiteB c = false := by unfold whiteB; rw [hc]; decide
  unfold oneS
  rw [dif_pos h.lt]
  simp only [h.get]
  rw [if_neg (by rw [hw]; decide), if_neg (by omega), if_neg (by omega), if_pos hc]
theorem Toks.mark (h : At s a (37 :: 37 :: u)) (hr : Toks s (a + 2) l) : Toks s a (⟨6, ⟨#[37, 37]⟩, a⟩ :: l) := by
  have ho : oneS s a = (6, ((2 : Nat) : Int), 0, 0) := by
    rw [mark_head h rfl]
    unfold markS
    rw [if_pos (by rw [h.tail.byte]; rfl)]
    rfl
  have hcut := At.cut (s := s) (a := a) (t := ⟨#[37, 37]⟩) (u := u) h
  have := Toks.step h.lt ho (by decide) hr
  rw [if_neg (by decide), show cutS s a 2 = ⟨#[37, 37]⟩ from hcut] at this
  exact this
theorem Toks.token (h : At s a ([37, 116, 111, 107, 101, 110] ++ u)) (h2 : u.takeWhile letterB = []) (hr : Toks s (a + 6) l) : Toks s a (⟨7, ⟨#[37, 116, 111, 107, 101, 110]⟩, a⟩ :: l) := by
  have ht : At s (a + 1) ([116, 111, 107, 101, 110] ++ u) := At.tail h
  have hsp := ht.span (p := letterB) (by decide) h2
  have ho : oneS s a = (7, ((6 : Nat) : Int), 0, 0) := by
    rw [mark_head (c := 37) (u := [116, 111, 107, 101, 110] ++ u) h rfl]
    unfold markS
    rw [if_neg (by rw [At.byte (c := 116) (u := [111, 107, 101, 110] ++ u) ht]; decide)]
    simp only [hsp, ht.eq, List.take_left]
    rfl
  have hcut := At.cut (s := s) (a := a) (t := ⟨#[37, 116, 111, 107, 101, 110]⟩) (u := u) h
  have := Toks.step (At.lt (c := 37) (u := [116, 111, 107, 101, 110] ++ u) h) ho (by decide) hr
  rw [if_neg (by decide), show cutS s a 6 = ⟨#[37, 116, 111, 107, 101, 110]⟩ from hcut] at this
  exact this
theorem Toks.start (h : At s a ([37, 115, 116, 97, 114, 116] ++ u)) (h2 : u.takeWhile letterB = []) (hr : Toks s (a + 6) l) : Toks s a (⟨8, ⟨#[37, 115, 116, 97, 114, 116]⟩, a⟩ :: l) := by
  have ht : At s (a + 1) ([115, 116, 97, 114, 116] ++ u) := At.tail h
  have hsp := ht.span (p := letterB) (by decide) h2
  have ho : oneS s a = (8, ((6 : Nat) : Int), 0, 0) := by
    rw [mark_head (c := 37) (u := [115, 116, 97, 114, 116] ++ u) h rfl]
    unfold markS
    rw [if_neg (by rw [At.byte (c := 115) (u := [116, 97, 114, 116] ++ u) ht]; decide)]
    simp only [hsp, ht.eq, List.take_left]
    rw [if_neg (by decide)]
    rfl
  have hcut := At.cut (s := s) (a := a) (t := ⟨#[37, 115, 116, 97, 114, 116]⟩) (u := u) h
  have := Toks.step (At.lt (c := 37) (u := [115, 116, 97, 114, 116] ++ u) h) ho (by decide) hr
  rw [if_neg (by decide), show cutS s a 6 = ⟨#[37, 115, 116, 97, 114, 116]⟩ from hcut] at this
  exact this
end
end Go.Proofs.YtliofoikejdjeaaGreat
