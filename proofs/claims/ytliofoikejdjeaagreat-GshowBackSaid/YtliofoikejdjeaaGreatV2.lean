/- Texts laid one behind the other: GM, Gram2, Gram3, Gram4, Gram5, Once, Check, Check2, MuchW, Det2. -/
import Derived.Test.YtliofoikejdjeaaGreatV1
/- The document's Top, Place, Ints, SameRule. -/
namespace Go.Proofs.YtliofoikejdjeaaGreat
open Go.RowKit Go.Proofs.YtliofoikejdjeaaGreatW.PrintWords
set_option linter.unusedVariables false
set_option maxRecDepth 100000
set_option linter.unusedSimpArgs false
section
variable {w : World} {A0 A1 A2 : Option Addr} {c0 c1 c2 : Nat} {g : Gm}
theorem ref06_Top (h : GmAt w A0 A1 A2 c0 c1 c2 g) : Calls Tryz.prog 70 #[.agg (gv A0 A1 A2 c0 c1 c2 g)] w fun e w' => e = .returned (.int .i64 g.top) ∧ Below w.heap.size w w' := by
  have h0 := h.m0
  have h1 := h.m1
  clear h
  unfold gv Gm.top
  go_enter Tryz.func70, Tryz.ntmps70
  go_wp2
  go_ret
  exact ⟨rfl, (Below.refl _ _).alloc (Nat.le_refl _) _⟩

end
set_option linter.unusedVariables false
set_option linter.unusedSimpArgs false
theorem ref04_Place {w : World} {A : Option Addr} {c : Nat} {xs : List ByteArray} (hx : Kd.C Kd.string w A xs.length xs) (s : ByteArray) :
    Calls Tryz.prog 35 #[.slice A xs.length c, .string s] w fun e w' => e = .returned (.int .i64 (placeS xs s)) ∧ w' = w := by
  have hm := Kd.C_max hx
  have HX := Aside0.mk hx
  clear hx
  go_enter Tryz.func35, Tryz.ntmps35
  go_wp2
  go_loop [5] (fun i => ∃ k : Nat, k ≤ xs.length ∧ i = .int .i64 k ∧ Aside0 (∀ j, j < k → decide (xs.getD j default = s) = false)) (fun i => xs.length - (intOf i).toNat)
  case atStart => exact ⟨0, Nat.zero_le _, rfl, ⟨fun j hj => absurd hj (Nat.not_lt_zero _)⟩⟩
  case round =>
    obtain ⟨k, hk, rfl, AF⟩ := hrel
    by_cases hlt : k < xs.length
    · have hltz : (k : Int) < (xs.length : Int) := by omega
      obtain ⟨ad, rfl, l2⟩ := at_str HX.out k hlt
      obtain ⟨y, hy⟩ : ∃ y, xs.getD k default = y := ⟨_, rfl⟩
      rw [hy] at l2
      have HY := Aside0.mk hy
      clear hy
      by_cases e : y = s
      · subst e
        go_wp2
        go_ret
        exact ⟨rint (idxF_hit hlt (decide_eq_true HY.out) AF.out).symm, rfl⟩
      · have hne := str_ne e
        have HE := Aside0.mk e
        clear e
        go_wp2
        go_round
        case rel =>
          refine ⟨k + 1, by omega, by go_num, ⟨fun j hj => ?_⟩⟩
          by_cases e : j = k
          · subst e
            exact decide_eq_false (by rw [HY.out]; exact HE.out)
          · exact AF.out j (by omega)
        case measure => simp [intOf]; omega
    · have hltz : ¬ (k : Int) < (xs.length : Int) := by omega
      obtain rfl : k = xs.length := by omega
      go_wp2
      go_ret
      exact ⟨rint (idxF_miss AF.out).symm, rfl⟩
theorem eq_lists {α : Type} [Inhabited α] [DecidableEq α] {a b : List α} (hl : a.length = b.length) (h : ∀ j, j < a.length → a.getD j default = b.getD j default) : a = b := by
  apply List.ext_getElem hl
  intro j h1 h2
  have := h j h1
  simpa [List.getD_eq_getElem?_getD, h1, h2] using this
section
variable {w : World} {A B : Option Addr} {c d : Nat} {xs ys : List Int}
set_option maxHeartbeats 1000000 in
theorem ref06_Ints (hx : Kd.C (Kd.int .i64) w A xs.length xs) (hy : Kd.C (Kd.int .i64) w B ys.length ys) :
    Calls Tryz.prog 67 #[.slice A xs.length c, .slice B ys.length d] w fun e w' => e = .returned (.bool (decide (xs = ys))) ∧ ∃ n, w' = w.drewN n := by
  have hm := Kd.C_max hx
  have hm2 := Kd.C_max hy
  have HX := Aside0.mk hx
  have HY := Aside0.mk hy
  clear hx hy
  by_cases hl : xs.length = ys.length
  · have HL := Aside0.mk hl
    rw [← hl]
    clear hl
    go_enter Tryz.func67, Tryz.ntmps67
    go_wp2
    go_loopw [5] (fun i wr => ∃ k : Nat, k ≤ xs.length ∧ i = .int .i64 k ∧ Aside0 (∃ n, wr = w.drewN n) ∧ Aside0 (∀ j, j < k → xs.getD j default = ys.getD j default)) (fun i _ => xs.length - (intOf i).toNat)
    case atStart => exact ⟨0, Nat.zero_le _, rfl, ⟨0, rfl⟩, ⟨fun j hj => absurd hj (Nat.not_lt_zero _)⟩⟩
    case round =>
      obtain ⟨k, hk, rfl, ⟨n, rfl⟩, AF⟩ := hrel
      by_cases hlt : k < xs.length
      · have hltz : (k : Int) < (xs.length : Int) := by omega
        obtain ⟨ad, rfl, l2⟩ := at_int HX.out k hlt
        obtain ⟨bd, rfl, l3⟩ := at_int HY.out k (by rw [← HL.out]; exact hlt)
        obtain ⟨u, hu⟩ : ∃ u, xs.getD k default = u := ⟨_, rfl⟩
        obtain ⟨v, hv⟩ : ∃ v, ys.getD k default = v := ⟨_, rfl⟩
        rw [hu] at l2
        rw [hv] at l3
        have HU := Aside0.mk hu
        have HV := Aside0.mk hv
        clear hu hv
        by_cases huv : u = v
        · subst huv
          go_wp2
          go_quiet (fail)
          go_wp2
          go_roundw
          case rel =>
            refine ⟨k + 1, by omega, by go_num, ⟨_, rfl⟩, ⟨fun j hj => ?_⟩⟩
            by_cases e : j = k
            · subst e
              rw [HU.out, HV.out]
            · exact AF.out j (by omega)
          case measure => simp [intOf]; omega
        · have huv' : (u != v) = true := by simpa using huv
          have HN := Aside0.mk huv
          clear huv
          go_wp2
          go_quiet (fail)
          go_wp2
          go_ret
          exact ⟨rbool (decide_eq_false fun h => HN.out (by rw [← HU.out, ← HV.out, h])).symm, _, World.drewN_drewN ..⟩
      · have hltz : ¬ (k : Int) < (xs.length : Int) := by omega
        go_wp2
        go_ret
        exact ⟨rbool (decide_eq_true (eq_lists HL.out fun j hj => AF.out j (by omega))).symm, _, rfl⟩
  · have hl' : ((xs.length : Int) != (ys.length : Int)) = true := by simp; omega
    have HN := Aside0.mk hl
    clear hl
    go_enter Tryz.func67, Tryz.ntmps67
    go_wp2
    go_ret
    exact ⟨rbool (decide_eq_false fun h => HN.out (by rw [h])).symm, 0, rfl⟩
end
/-- Two rules as the callee is given them. -/
theorem rl_eq (a b : Rl) : decide (a = b) = (decide (a.left = b.left) && decide (a.right = b.right)) := by
  obtain ⟨a1, a2⟩ := a
  obtain ⟨b1, b2⟩ := b
  rw [Bool.eq_iff_iff]
  simp
set_option maxHeartbeats 1000000 in
theorem ref06_SameRule {w : World} {A B : Option Addr} {c d : Nat} {x y : Rl} (hx : Kd.C (Kd.int .i64) w A x.right.length x.right) (hy : Kd.C (Kd.int .i64) w B y.right.length y.right) :
    Calls Tryz.prog 32 #[.agg #[.int .i64 x.left, .slice A x.right.length c], .agg #[.int .i64 y.left, .slice B y.right.length d]] w fun e w' => e = .returned (.bool (decide (x = y))) ∧ Below w.heap.size w w' := by
  have hb0 := below_alloc (below_alloc (Below.refl _ w) (.cells #[.int .i64 x.left, .slice A x.right.length c] 40)) (.cells #[.int .i64 y.left, .slice B y.right.length d] 40)
  have he := ref06_Ints (c := c) (d := d) (Kd.C_below hx hb0) (Kd.C_below hy hb0)
  rw [rl_eq]
  clear hx hy hb0
  generalize decide (x.right = y.right) = b at *
  obtain ⟨x1, x2⟩ := x
  obtain ⟨y1, y2⟩ := y
  simp only at *
  by_cases h1 : x1 = y1
  · subst h1
    go_enter Tryz.func32, Tryz.ntmps32
    go_wp2_with (go_at_call 67; refine he.mono ?_; rintro e w' ⟨rfl, n, rfl⟩)
    go_ret
    exact ⟨rbool (by simp), pw_below_drewN (below_alloc (below_alloc (Below.refl _ _) _) _) _⟩
  · have h1' : (x1 == y1) = false := by simpa using h1
    have HN := Aside0.mk h1
    clear h1
    go_enter Tryz.func32, Tryz.ntmps32
    go_wp2
    go_ret
    exact ⟨rbool (by simp [HN.out]), below_alloc (below_alloc (Below.refl _ _) _) _⟩
end Go.Proofs.YtliofoikejdjeaaGreat
/- Equality of lists of numbers, of rules: the library's and the document's. -/
namespace Go.Proofs.YtliofoikejdjeaaGreat
open Go.RowKit Go.Proofs.YtliofoikejdjeaaGreatW.PrintWords
set_option linter.unusedVariables false
set_option maxRecDepth 100000
set_option linter.unusedSimpArgs false
section
variable {w : World} {A B : Option Addr} {c d : Nat} {xs ys : List Int}
set_option maxHeartbeats 1000000 in
theorem equal_int (hx : Kd.C (Kd.int .i64) w A xs.length xs) (hy : Kd.C (Kd.int .i64) w B ys.length ys) :
    Calls Tryz.prog 82 #[.slice A xs.length c, .slice B ys.length d] w fun e w' => e = .returned (.bool (decide (xs = ys))) ∧ ∃ n, w' = w.drewN n := by
  have hm := Kd.C_max hx
  have hm2 := Kd.C_max hy
  have HX := Aside0.mk hx
  have HY := Aside0.mk hy
  clear hx hy
  by_cases hl : xs.length = ys.length
  · have HL := Aside0.mk hl
    rw [← hl]
    clear hl
    go_enter Tryz.func82, Tryz.ntmps82
    go_wp2
    go_loopw [5, 13] (fun _ i wr => ∃ k : Nat, k ≤ xs.length ∧ i = .int .i64 k ∧ Aside0 (∃ n, wr = w.drewN n) ∧ Aside0 (∀ j, j < k → xs.getD j default = ys.getD j default)) (fun _ i _ => xs.length - (intOf i).toNat)
    case atStart => exact ⟨0, Nat.zero_le _, rfl, ⟨0, rfl⟩, ⟨fun j hj => absurd hj (Nat.not_lt_zero _)⟩⟩
    case round =>
      obtain ⟨k, hk, rfl, ⟨n, rfl⟩, AF⟩ := hrel
      by_cases hlt : k < xs.length
      · have hltz : (k : Int) < (xs.length : Int) := by omega
        obtain ⟨ad, rfl, l2⟩ := at_int HX.out k hlt
        obtain ⟨bd, rfl, l3⟩ := at_int HY.out k (by rw [← HL.out]; exact hlt)
        obtain ⟨u, hu⟩ : ∃ u, xs.getD k default = u := ⟨_, rfl⟩
        obtain ⟨v, hv⟩ : ∃ v, ys.getD k default = v := ⟨_, rfl⟩
        rw [hu] at l2
        rw [hv] at l3
        have HU := Aside0.mk hu
        have HV := Aside0.mk hv
        clear hu hv
        by_cases huv : u = v
        · subst huv
          go_wp2
          go_quiet (fail)
          go_wp2
          go_roundw
          case rel =>
            refine ⟨k + 1, by omega, by go_num, ⟨_, rfl⟩, ⟨fun j hj => ?_⟩⟩
            by_cases e : j = k
            · subst e
              rw [HU.out, HV.out]
            · exact AF.out j (by omega)
          case measure => simp [intOf]; omega
        · have huv' : (u != v) = true := by simpa using huv
          have HN := Aside0.mk huv
          clear huv
          go_wp2
          go_quiet (fail)
          go_wp2
          go_ret
          exact ⟨rbool (decide_eq_false fun h => HN.out (by rw [← HU.out, ← HV.out, h])).symm, _, World.drewN_drewN ..⟩
      · have hltz : ¬ (k : Int) < (xs.length : Int) := by omega
        go_wp2
        go_ret
        exact ⟨rbool (decide_eq_true (eq_lists HL.out fun j hj => AF.out j (by omega))).symm, _, rfl⟩
  · have hl' : ((xs.length : Int) != (ys.length : Int)) = true := by simp; omega
    have HN := Aside0.mk hl
    clear hl
    go_enter Tryz.func82, Tryz.ntmps82
    go_wp2
    go_ret
    exact ⟨rbool (decide_eq_false fun h => HN.out (by rw [h])).symm, 0, rfl⟩
end
set_option maxHeartbeats 1000000 in
theorem gram_sameRule {w : World} {A B : Option Addr} {c d : Nat} {x y : Rl} (hx : Kd.C (Kd.int .i64) w A x.right.length x.right) (hy : Kd.C (Kd.int .i64) w B y.right.length y.right) :
    Calls Tryz.prog 50 #[.agg #[.int .i64 x.left, .slice A x.right.length c], .agg #[.int .i64 y.left, .slice B y.right.length d]] w fun e w' => e = .returned (.bool (decide (x = y))) ∧ Below w.heap.size w w' := by
  have hb0 := below_alloc (below_alloc (Below.refl _ w) (.cells #[.int .i64 x.left, .slice A x.right.length c] 40)) (.cells #[.int .i64 y.left, .slice B y.right.length d] 40)
  have he := equal_int (c := c) (d := d) (Kd.C_below hx hb0) (Kd.C_below hy hb0)
  rw [rl_eq]
  clear hx hy hb0
  generalize decide (x.right = y.right) = b at *
  obtain ⟨x1, x2⟩ := x
  obtain ⟨y1, y2⟩ := y
  simp only at *
  by_cases h1 : x1 = y1
  · subst h1
    go_enter Tryz.func50, Tryz.ntmps50
    go_wp2_with (go_at_call 82; refine he.mono ?_; rintro e w' ⟨rfl, n, rfl⟩)
    go_ret
    exact ⟨rbool (by simp), pw_below_drewN (below_alloc (below_alloc (Below.refl _ _) _) _) _⟩
  · have h1' : (x1 == y1) = false := by simpa using h1
    have HN := Aside0.mk h1
    clear h1
    go_enter Tryz.func50, Tryz.ntmps50
    go_wp2
    go_ret
    exact ⟨rbool (by simp [HN.out]), below_alloc (below_alloc (Below.refl _ _) _) _⟩
end Go.Proofs.YtliofoikejdjeaaGreat
/- unlike: no two rules are the same. -/
namespace Go.Proofs.YtliofoikejdjeaaGreat
open Go.RowKit Go.Proofs.YtliofoikejdjeaaGreatW.PrintWords
set_option linter.unusedVariables false
set_option maxRecDepth 100000
set_option linter.unusedSimpArgs false
/-- No two are the same. -/
def unlikeR (rs : List Rl) : Bool := decide (∀ i, i < rs.length → ∀ j, j < i → rs.getD j default ≠ rs.getD i default)
def ruleVal (A : Option Addr) (c : Nat) (r : Rl) : Value := .agg #[.int .i64 r.left, .slice A r.right.length c]
/-- The closure of unlike: the i-th rule against the one that it is given. -/
theorem unlike1 {W : World} {A : Option Addr} {c b1 b2 b3 : Nat} {rs : List Rl} (hr : Kd.C kRl W A rs.length rs) (hm : rs.length ≤ 8796093022208) (i : Nat) (hi : i < rs.length) (x : Rl) (v : Value) (hv : Vrl W x v)
    (h1 : W.cell? ⟨b1, 0, none⟩ = some (.func (.func 50) #[] #[])) (h2 : W.cell? ⟨b2, 0, none⟩ = some (.slice A rs.length c)) (h3 : W.cell? ⟨b3, 0, none⟩ = some (.int .i64 i))
    (l1 : b1 < W.heap.size) (l2 : b2 < W.heap.size) (l3 : b3 < W.heap.size) :
    Calls Tryz.prog 81 #[v, .pointer (some ⟨b1, 0, none⟩), .pointer (some ⟨b2, 0, none⟩), .pointer (some ⟨b3, 0, none⟩)] W fun e w' => e = .returned (.bool (decide (x = rs.getD i default))) ∧ Below W.heap.size W w' := by
  obtain ⟨Ax, cx, rfl, hlx, hx⟩ := hv
  obtain ⟨ad, A1, c1, rfl, k1, k2, k3, k4⟩ := at_rl hr i hi
  obtain ⟨y, hy⟩ : ∃ y, rs.getD i default = y := ⟨_, rfl⟩
  rw [hy] at k1 k2 k3 k4 ⊢
  clear hy
  have HX := Aside0.mk hx
  have HK := Aside0.mk k4
  have hin : (i : Int) < (rs.length : Int) := by omega
  have hlad := World.block_lt_of_cell? _ _ k1
  have hlad2 := World.block_lt_of_cell? _ _ k2
  clear hx k4 hr
  go_enter Tryz.func81, Tryz.ntmps81
  go_wp2
  obtain ⟨W0, hW0⟩ : ∃ W0, W0 = W.alloc (.cells #[.int .i64 x.left, .slice Ax x.right.length cx] 40) := ⟨_, rfl⟩
  have hb0 := below_alloc (Below.refl _ W) (.cells #[.int .i64 x.left, .slice Ax x.right.length cx] 40)
  have hbx := blk_new W (.cells #[.int .i64 x.left, .slice Ax x.right.length cx] 40)
  rw [← hW0] at hb0 hbx ⊢
  have q1 : W0.cell? ⟨b1, 0, none⟩ = _ := (hb0.cell (p := ⟨b1, 0, none⟩) l1).trans h1
  have q2 : W0.cell? ⟨b2, 0, none⟩ = _ := (hb0.cell (p := ⟨b2, 0, none⟩) l2).trans h2
  have q3 : W0.cell? ⟨b3, 0, none⟩ = _ := (hb0.cell (p := ⟨b3, 0, none⟩) l3).trans h3
  have q4 : W0.cell? (ad.add (i * 2)) = _ := (hb0.cell (p := ad.add (i * 2)) hlad).trans k1
  have q5 : W0.cell? ⟨(ad.add (i * 2)).block, (ad.add (i * 2)).off + 1, none⟩ = _ := (hb0.cell (p := ⟨(ad.add (i * 2)).block, (ad.add (i * 2)).off + 1, none⟩) hlad2).trans k2
  clear hW0 h1 h2 h3 k1 k2
  have m1 := Nat.lt_of_lt_of_le l1 hb0.size
  have m2 := Nat.lt_of_lt_of_le l2 hb0.size
  have m3 := Nat.lt_of_lt_of_le l3 hb0.size
  have m4 := Nat.lt_of_lt_of_le hlad hb0.size
  have e0 := blk_cell hbx 0
  have e1 := blk_cell hbx 1
  have m5 := blk_lt hbx
  have key : ∀ w', Below W0.heap.size W0 w' → w'.cell? ⟨b1, 0, none⟩ = _ ∧ w'.cell? ⟨b2, 0, none⟩ = _ ∧ w'.cell? ⟨b3, 0, none⟩ = _ ∧ w'.cell? (ad.add (i * 2)) = _ ∧ w'.cell? ⟨(ad.add (i * 2)).block, (ad.add (i * 2)).off + 1, none⟩ = _ ∧ w'.cell? ⟨W.heap.size, 0, none⟩ = _ ∧ w'.cell? ⟨W.heap.size, 1, none⟩ = _ := fun w' hw =>
    ⟨(hw.cell (p := ⟨b1, 0, none⟩) m1).trans q1, (hw.cell (p := ⟨b2, 0, none⟩) m2).trans q2, (hw.cell (p := ⟨b3, 0, none⟩) m3).trans q3, (hw.cell (p := ad.add (i * 2)) m4).trans q4, (hw.cell (p := ⟨(ad.add (i * 2)).block, (ad.add (i * 2)).off + 1, none⟩) m4).trans q5, (hw.cell (p := ⟨W.heap.size, 0, none⟩) m5).trans e0, (hw.cell (p := ⟨W.heap.size, 1, none⟩) m5).trans e1⟩
  clear q1 q2 q3 q4 q5 e0 e1
  have HKEY := Aside0.mk key
  clear key hbx
  refine wp_region_det (vs := [?dv0, ?dv1, ?dv2, ?dv3, ?dv4, ?dv5, ?dv6, ?dv7]) (fun w' => Below W0.heap.size W0 w') rfl (by kernel_rfl) (by simp only [putAll, Act.put, List.setIfInBounds_toArray, List.set_cons_zero, List.set_cons_succ]; rfl) (below_drew (Below.refl _ _)) ?dOps ?dFin
  case dOps =>
    refine ⟨fun w' hw => ?do0, fun w' hw => ?do1, fun w' hw => ?do2, fun w' hw => ?do3, fun w' hw => ?do4, fun w' hw => ?do5, fun w' hw => ?do6, fun w' hw => ?do7, trivial⟩
    case do0 => obtain ⟨f1, f2, f3, f4, f5, f6, f7⟩ := HKEY.out w' hw; go_simp; rfl
    case do1 => obtain ⟨f1, f2, f3, f4, f5, f6, f7⟩ := HKEY.out w' hw; go_simp; rfl
    case do2 => obtain ⟨f1, f2, f3, f4, f5, f6, f7⟩ := HKEY.out w' hw; go_simp; rfl
    case do3 => obtain ⟨f1, f2, f3, f4, f5, f6, f7⟩ := HKEY.out w' hw; go_simp; rfl
    case do4 => go_simp; rfl
    case do5 => obtain ⟨f1, f2, f3, f4, f5, f6, f7⟩ := HKEY.out w' hw; go_simp; rfl
    case do6 =>
      go_simp
      refine (gram_sameRule (Kd.C_below HX.out (hb0.trans (hw.mono hb0.size))) (Kd.C_below HK.out (hb0.trans (hw.mono hb0.size)))).mono ?_
      rintro e w2 ⟨rfl, hb2⟩
      exact ⟨by rfl, hw.trans (hb2.mono hw.size)⟩
    case do7 => go_simp; rfl
  case dFin =>
    intro w' hw
    go_wp2
    go_ret
    exact ⟨rfl, hb0.trans (hw.mono hb0.size)⟩
theorem unlike_any {rs : List Rl} {i : Nat} (hi : i < rs.length) : (rs.take i).any (fun x => decide (x = rs.getD i default)) = !decide (∀ j, j < i → rs.getD j default ≠ rs.getD i default) := by
  rw [Bool.eq_iff_iff]
  simp only [List.any_eq_true, decide_eq_true_eq, Bool.not_eq_true', decide_eq_false_iff_not, Classical.not_forall, Classical.not_not]
  constructor
  · rintro ⟨x, hx, e⟩
    obtain ⟨j, hj, rfl⟩ := List.mem_iff_getElem.1 hx
    rw [List.length_take] at hj
    refine ⟨j, by omega, ?_⟩
    rw [← e, List.getElem_take, List.getD_eq_getElem?_getD, List.getElem?_eq_getElem (by omega)]
    rfl
  · rintro ⟨j, hj, e⟩
    refine ⟨rs.getD j default, ?_, e⟩
    rw [List.getD_eq_getElem?_getD, List.getElem?_eq_getElem (by omega)]
    exact List.mem_iff_getElem.2 ⟨j, by rw [List.length_take]; omega, by rw [List.getElem_take]; rfl⟩
set_option maxHeartbeats 1000000 in
theorem gram_unlike {w : World} {A : Option Addr} {c : Nat} {rs : List Rl} (hr : Kd.C kRl w A rs.length rs) (hm : rs.length ≤ 8796093022208) (hc : rs.length ≤ c) :
    Calls Tryz.prog 49 #[.slice A rs.length c, .func (.func 50) #[] #[]] w fun e w' => e = .returned (.bool (unlikeR rs)) ∧ Below w.heap.size w w' := by
  have HR := Aside0.mk hr
  clear hr
  go_enter Tryz.func49, Tryz.ntmps49
  go_wp2
  have HB0 := Aside0.mk (below_alloc (below_alloc (Below.refl _ w) (.cells #[.slice A rs.length c] 23)) (.cells #[.func (.func 50) #[] #[]] 69))
  have K1 := Aside0.mk (blk_alloc (blk_new w (.cells #[.slice A rs.length c] 23)) (.cells #[.func (.func 50) #[] #[]] 69))
  have K2 := Aside0.mk (blk_new (w.alloc (.cells #[.slice A rs.length c] 23)) (.cells #[.func (.func 50) #[] #[]] 69))
  rw [show (w.alloc (.cells #[.slice A rs.length c] 23)).heap.size = w.heap.size + 1 from by simp] at K2
  have hlt0 : w.heap.size + 1 < ((w.alloc (.cells #[.slice A rs.length c] 23)).alloc (.cells #[.func (.func 50) #[] #[]] 69)).heap.size := by simp
  generalize ((w.alloc (.cells #[.slice A rs.length c] 23)).alloc (.cells #[.func (.func 50) #[] #[]] 69)) = W0 at *
  go_loopw [5, 8] (fun _ i wr => ∃ k : Nat, k ≤ rs.length ∧ i = .int .i64 k ∧ w.heap.size + 1 < wr.heap.size ∧ Aside0 (Below w.heap.size w wr) ∧ Aside0 (wr.heap[w.heap.size]? = some (.cells #[.slice A rs.length c] 23 (0, 0))) ∧ Aside0 (wr.heap[w.heap.size + 1]? = some (.cells #[.func (.func 50) #[] #[]] 69 (0, 0))) ∧ Aside0 (∀ i, i < k → ∀ j, j < i → rs.getD j default ≠ rs.getD i default)) (fun _ i _ => rs.length - (intOf i).toNat)
  case atStart => exact ⟨0, Nat.zero_le _, rfl, hlt0, HB0, K1, K2, ⟨fun i hi => absurd hi (Nat.not_lt_zero _)⟩⟩
  case round =>
    clear HB0 K1 K2 hlt0
    obtain ⟨k, hk, rfl, hlt, BW, K1, K2, AF⟩ := hrel
    by_cases hkl : k < rs.length
    · have hkz : (k : Int) < (rs.length : Int) := by omega
      have hlt2 : w.heap.size < wr.heap.size := by omega
      have hC := Kd.C_take HR.out hk
      have hl : (rs.take k).length = k := by rw [List.length_take]; omega
      obtain ⟨ad, _, _, rfl, _⟩ := at_rl HR.out k hkl
      have f1 : wr.cell? ⟨w.heap.size, 0, none⟩ = some (.slice (some ad) rs.length c) := (blk_cell K1.out 0).trans rfl
      have hw1 := below_alloc (Below.refl _ wr) (.cells #[.int .i64 k] 3)
      have hP : PredV (wr.alloc (.cells #[.int .i64 k] 3)) (.func (.func 81) #[] #[.pointer (some ⟨w.heap.size + 1, 0, none⟩), .pointer (some ⟨w.heap.size, 0, none⟩), .pointer (some ⟨wr.heap.size, 0, none⟩)]) (fun W x v => Vrl W x v ∧ x ∈ rs.take k) (fun x => decide (x = rs.getD k default)) := by
        refine ⟨_, _, rfl, fun _ _ => rfl, fun W x v hW hV => ?_⟩
        have hW1 := hw1.trans (hW.mono hw1.size)
        have hsz := hW.size
        simp at hsz
        exact unlike1 (Kd.C_below HR.out (BW.out.trans (hW1.mono BW.out.size))) hm k hkl x v hV.1 ((blk_cell (blk_below K2.out hW1) 0).trans rfl) ((blk_cell (blk_below K1.out hW1) 0).trans rfl)
          ((blk_cell (blk_below (blk_new wr _) hW) 0).trans rfl) (by omega) (by omega) (by omega)
      have hcall := contains_rl (c := c) (Kd.C_below hC (BW.out.trans (hw1.mono BW.out.size))) (by omega) hP
      rw [hl, unlike_any hkl] at hcall
      clear hP hC hl
      by_cases hq : ∀ j, j < k → rs.getD j default ≠ rs.getD k default
      · have HQ := Aside0.mk hq
        rw [decide_eq_true hq] at hcall
        clear hq
        go_wp2_with (go_at_call 72; refine hcall.mono ?_; rintro e w2 ⟨rfl, hb2⟩)
        go_roundw
        case rel =>
          have h3 := hw1.trans (hb2.mono hw1.size)
          have h4 := h3.size
          refine ⟨k + 1, by omega, by go_num, by omega, ⟨BW.out.trans (h3.mono BW.out.size)⟩, ⟨blk_below K1.out h3⟩, ⟨blk_below K2.out h3⟩, ⟨fun i hi j hj => ?_⟩⟩
          by_cases e : i = k
          · subst e
            exact HQ.out j hj
          · exact AF.out i (by omega) j hj
        case measure => simp [intOf]; omega
      · have HQ := Aside0.mk hq
        rw [decide_eq_false hq] at hcall
        clear hq
        go_wp2_with (go_at_call 72; refine hcall.mono ?_; rintro e w2 ⟨rfl, hb2⟩)
        go_ret
        have h3 := hw1.trans (hb2.mono hw1.size)
        exact ⟨rbool (decide_eq_false fun h => HQ.out (h k hkl)).symm, BW.out.trans (h3.mono BW.out.size)⟩
    · have hkz : ¬ (k : Int) < (rs.length : Int) := by omega
      go_wp2
      go_ret
      exact ⟨rbool (decide_eq_true fun i hi => AF.out i (by omega)).symm, BW.out⟩
end Go.Proofs.YtliofoikejdjeaaGreat
/- gram.Of, the document's Of. -/
namespace Go.Proofs.YtliofoikejdjeaaGreat
open Go.RowKit Go.Proofs.YtliofoikejdjeaaGreatW.PrintWords
set_option linter.unusedVariables false
set_option maxRecDepth 100000
set_option linter.unusedSimpArgs false
/-- The rules of a left side, of the first n. -/
def ofN (rs : List Rl) (s : Int) (n : Nat) : List Int := ((List.range n).filter fun i => decide ((rs.getD i default).left = s)).map (fun (i : Nat) => (i : Int))
theorem ofN_succ (rs : List Rl) (s : Int) (n : Nat) : ofN rs s (n + 1) = ofN rs s n ++ if (rs.getD n default).left = s then [(n : Int)] else [] := by
  unfold ofN
  rw [List.range_succ, List.filter_append, List.map_append]
  congr 1
  rw [List.filter_cons, List.filter_nil]
  by_cases h : (rs.getD n default).left = s
  · rw [if_pos h, decide_eq_true h]; rfl
  · rw [if_neg h, decide_eq_false h]; rfl
theorem ofN_len (rs : List Rl) (s : Int) (n : Nat) : (ofN rs s n).length ≤ n := by
  unfold ofN
  rw [List.length_map]
  exact Nat.le_trans (List.length_filter_le _ _) (Nat.le_of_eq List.length_range)
def Gm.ofS (g : Gm) (s : Int) : List Int := ofN g.rules s g.rules.length
set_option maxHeartbeats 2000000 in
theorem gram_Of {w : World} {A0 A1 A2 : Option Addr} {c0 c1 c2 : Nat} {g : Gm} (h : GmAt w A0 A1 A2 c0 c1 c2 g) (s : Int) :
    Calls Tryz.prog 52 #[.agg (gv A0 A1 A2 c0 c1 c2 g), .int .i64 s] w fun e w' => ∃ v, e = .returned v ∧ Kd.R (Kd.int .i64) 3 w' w.heap.size (fun _ => True) v (g.ofS s) ∧ Below w.heap.size w w' := by
  have h2 := h.m2
  have HR := Aside0.mk h.rules
  clear h
  unfold gv
  go_enter Tryz.func52, Tryz.ntmps52
  go_wp2
  have HB0 := Aside0.mk (below_alloc (Below.refl _ w) (.cells #[.slice A0 g.terms.length c0, .slice A1 g.nons.length c1, .slice A2 g.rules.length c2, .int .i64 g.start] 25))
  generalize w.alloc (.cells #[.slice A0 g.terms.length c0, .slice A1 g.nons.length c1, .slice A2 g.rules.length c2, .int .i64 g.start] 25) = W0 at *
  go_loopw [5, 6, 7, 11] (fun v5 _ _ i wr => ∃ k : Nat, k ≤ g.rules.length ∧ i = .int .i64 k ∧ Aside0 (Kd.R (Kd.int .i64) 3 wr w.heap.size (fun _ => True) v5 (ofN g.rules s k)) ∧ Aside0 (Below w.heap.size w wr)) (fun _ _ _ i _ => g.rules.length - (intOf i).toNat)
  case atStart => exact ⟨0, Nat.zero_le _, rfl, ⟨Kd.R_nil _ _ _ _ _⟩, HB0⟩
  case round =>
    clear HB0
    obtain ⟨k, hk, rfl, HO, HB⟩ := hrel
    by_cases hkl : k < g.rules.length
    · have hkz : (k : Int) < (g.rules.length : Int) := by omega
      have hsu := ofN_succ g.rules s k
      have hln := ofN_len g.rules s k
      obtain ⟨ad, A1, c1, rfl, k1, k2, k3, k4⟩ := at_rl (Kd.C_below HR.out HB.out) k hkl
      obtain ⟨y, hy⟩ : ∃ y, g.rules.getD k default = y := ⟨_, rfl⟩
      rw [hy] at k1 k2 hsu
      clear hy k3 k4
      have HSU := Aside0.mk hsu
      clear hsu
      by_cases hq : y.left = s
      · have HQ := Aside0.mk hq
        have hq' : (y.left == s) = true := by simpa using hq
        clear hq
        go_wp2_with (first | (at_builtin; go_loud (refine Kd.R_append (Kd.int .i64) (w0 := w) w.heap.size rfl (.tmp 20) (.tmp 22) 38 3 (.int .i64 0) 8 rfl Tryz.underlying38 info3 rfl (by decide) (by omega) u5 (ofN g.rules s k) k [.int .i64 k] (fun _ => True) (fun _ => False) rfl ?aX ?aP (fun _ hk => hk.elim) ?aF ?aO ?aB ?aS ?aL ?_); (case aX => simp [Act.eval]); (case aP => exact rfl); (case aF => exact (fun _ _ => trivial)); (case aO => exact Kd.R_alloc HO.out _); (case aB => exact below_alloc HB.out _); (case aS => exact (below_alloc HB.out _).size); (case aL => omega); intro v1 w1 ho hb hg hat))
        go_roundw
        case rel =>
          refine ⟨k + 1, by omega, by go_num, ⟨?_⟩, ⟨hb⟩⟩
          rw [HSU.out, if_pos HQ.out]
          exact ho
        case measure => simp [intOf]; omega
      · have HQ := Aside0.mk hq
        have hq' : (y.left == s) = false := by simpa using hq
        clear hq
        go_wp2
        go_roundw
        case rel =>
          refine ⟨k + 1, by omega, by go_num, ⟨?_⟩, ⟨below_alloc HB.out _⟩⟩
          rw [HSU.out, if_neg HQ.out, List.append_nil]
          exact Kd.R_alloc HO.out _
        case measure => simp [intOf]; omega
    · have hkz : ¬ (k : Int) < (g.rules.length : Int) := by omega
      obtain rfl : k = g.rules.length := by omega
      go_wp2
      go_ret
      exact ⟨_, rfl, HO.out, HB.out⟩
set_option maxHeartbeats 2000000 in
theorem ref06_Of {w : World} {A0 A1 A2 : Option Addr} {c0 c1 c2 : Nat} {g : Gm} (h : GmAt w A0 A1 A2 c0 c1 c2 g) (s : Int) :
    Calls Tryz.prog 18 #[.agg (gv A0 A1 A2 c0 c1 c2 g), .int .i64 s] w fun e w' => ∃ v, e = .returned v ∧ Kd.R (Kd.int .i64) 3 w' w.heap.size (fun _ => True) v (g.ofS s) ∧ Below w.heap.size w w' := by
  have h2 := h.m2
  have HR := Aside0.mk h.rules
  clear h
  unfold gv
  go_enter Tryz.func18, Tryz.ntmps18
  go_wp2
  have HB0 := Aside0.mk (below_alloc (Below.refl _ w) (.cells #[.slice A0 g.terms.length c0, .slice A1 g.nons.length c1, .slice A2 g.rules.length c2, .int .i64 g.start] 25))
  have K0 := Aside0.mk (blk_new w (.cells #[.slice A0 g.terms.length c0, .slice A1 g.nons.length c1, .slice A2 g.rules.length c2, .int .i64 g.start] 25))
  generalize w.alloc (.cells #[.slice A0 g.terms.length c0, .slice A1 g.nons.length c1, .slice A2 g.rules.length c2, .int .i64 g.start] 25) = W0 at *
  go_loopw [5, 6] (fun v5 i wr => ∃ k : Nat, k ≤ g.rules.length ∧ i = .int .i64 k ∧ Aside0 (Kd.R (Kd.int .i64) 3 wr w.heap.size (fun _ => True) v5 (ofN g.rules s k)) ∧ Aside0 (Below w.heap.size w wr) ∧ Aside0 (wr.heap[w.heap.size]? = some (.cells #[.slice A0 g.terms.length c0, .slice A1 g.nons.length c1, .slice A2 g.rules.length c2, .int .i64 g.start] 25 (0, 0)))) (fun _ i _ => g.rules.length - (intOf i).toNat)
  case atStart => exact ⟨0, Nat.zero_le _, rfl, ⟨Kd.R_nil _ _ _ _ _⟩, HB0, K0⟩
  case round =>
    clear HB0 K0
    obtain ⟨k, hk, rfl, HO, HB, K0⟩ := hrel
    have f2 := (blk_cell K0.out 2).trans rfl
    have hbl := blk_lt K0.out
    by_cases hkl : k < g.rules.length
    · have hkz : (k : Int) < (g.rules.length : Int) := by omega
      have hsu := ofN_succ g.rules s k
      have hln := ofN_len g.rules s k
      obtain ⟨ad, A1, c1, rfl, k1, k2, k3, k4⟩ := at_rl (Kd.C_below HR.out HB.out) k hkl
      obtain ⟨y, hy⟩ : ∃ y, g.rules.getD k default = y := ⟨_, rfl⟩
      rw [hy] at k1 k2 hsu
      clear hy k3 k4
      have HSU := Aside0.mk hsu
      clear hsu
      by_cases hq : y.left = s
      · have HQ := Aside0.mk hq
        have hq' : (y.left == s) = true := by simpa using hq
        clear hq
        go_wp2_with (first | (at_builtin; go_loud (refine Kd.R_append (Kd.int .i64) (w0 := w) w.heap.size rfl (.tmp 22) (.tmp 24) 38 3 (.int .i64 0) 8 rfl Tryz.underlying38 info3 rfl (by decide) (by omega) u5 (ofN g.rules s k) k [.int .i64 k] (fun _ => True) (fun _ => False) rfl ?aX ?aP (fun _ hk => hk.elim) ?aF ?aO ?aB ?aS ?aL ?_); (case aX => simp [Act.eval]); (case aP => exact rfl); (case aF => exact (fun _ _ => trivial)); (case aO => exact HO.out); (case aB => exact HB.out); (case aS => exact HB.out.size); (case aL => omega); intro v1 w1 ho hb hg hat))
        go_roundw
        case rel =>
          refine ⟨k + 1, by omega, by go_num, ⟨?_⟩, ⟨hb⟩, ⟨blk_grown K0.out hg (Kd.R_ne HO.out K0.out (by decide))⟩⟩
          rw [HSU.out, if_pos HQ.out]
          exact ho
        case measure => simp [intOf]; omega
      · have HQ := Aside0.mk hq
        have hq' : (y.left == s) = false := by simpa using hq
        clear hq
        go_wp2
        go_roundw
        case rel =>
          refine ⟨k + 1, by omega, by go_num, ⟨?_⟩, HB, K0⟩
          rw [HSU.out, if_neg HQ.out, List.append_nil]
          exact HO.out
        case measure => simp [intOf]; omega
    · have hkz : ¬ (k : Int) < (g.rules.length : Int) := by omega
      obtain rfl : k = g.rules.length := by omega
      go_wp2
      go_ret
      exact ⟨_, rfl, HO.out, HB.out⟩
end Go.Proofs.YtliofoikejdjeaaGreat
/- The document's Top, Term, Non; gram's known; names of symbols. -/
namespace Go.Proofs.YtliofoikejdjeaaGreat
open Go.RowKit Go.Proofs.YtliofoikejdjeaaGreatW.PrintWords
set_option linter.unusedVariables false
set_option maxRecDepth 100000
set_option linter.unusedSimpArgs false
section
variable {w : World} {A0 A1 A2 : Option Addr} {c0 c1 c2 : Nat} {g : Gm}
theorem ref06_Term (h : GmAt w A0 A1 A2 c0 c1 c2 g) (s : Int) : Calls Tryz.prog 37 #[.agg (gv A0 A1 A2 c0 c1 c2 g), .int .i64 s] w fun e w' => e = .returned (.bool (g.isTerm s)) ∧ Below w.heap.size w w' := by
  have h0 := h.m0
  have h1 := h.m1
  clear h
  unfold gv Gm.isTerm
  by_cases hs : 1 ≤ s
  all_goals
    go_enter Tryz.func37, Tryz.ntmps37
    go_wp2
    go_ret
    exact ⟨rbool (by first | (simp [hs]; done) | (simp; omega)), (Below.refl _ _).alloc (Nat.le_refl _) _⟩

theorem ref06_Non (h : GmAt w A0 A1 A2 c0 c1 c2 g) (s : Int) : Calls Tryz.prog 36 #[.agg (gv A0 A1 A2 c0 c1 c2 g), .int .i64 s] w fun e w' => e = .returned (.bool (g.isNon s)) ∧ Below w.heap.size w w' := by
  have h0 := h.m0
  have h1 := h.m1
  have ht := ref06_Top (h.below ((Below.refl _ _).alloc (Nat.le_refl _) (.cells (gv A0 A1 A2 c0 c1 c2 g) 25)))
  clear h
  unfold gv at *
  by_cases hs : (g.terms.length : Int) < s
  · go_enter Tryz.func36, Tryz.ntmps36
    go_wp2_with (go_at_call 70; refine ht.mono ?_; rintro e w' ⟨rfl, hb⟩)
    go_ret
    exact ⟨by simp [Gm.isNon, hs], below_new hb⟩
  · go_enter Tryz.func36, Tryz.ntmps36
    go_wp2
    go_ret
    exact ⟨rbool (by simp [Gm.isNon]; omega), (Below.refl _ _).alloc (Nat.le_refl _) _⟩

/-- The block of a grammar that is boxed. -/
def gb (A0 A1 A2 : Option Addr) (c0 c1 c2 : Nat) (g : Gm) : Obj := .cells (gv A0 A1 A2 c0 c1 c2 g) 25 (0, 0)
def Gm.sym (g : Gm) (s : Int) : Bool := g.isTerm s || g.isNon s
theorem known1 {W : World} {b : Nat} (hb : W.heap[b]? = some (gb A0 A1 A2 c0 c1 c2 g)) (h : GmAt W A0 A1 A2 c0 c1 c2 g) (s : Int) :
    Calls Tryz.prog 80 #[.int .i64 s, .pointer (some ⟨b, 0, none⟩)] W fun e w' => e = .returned (.bool (g.sym s)) ∧ Below W.heap.size W w' := by
  have ht := gram_Term h s
  have hn := fun W' (hw : Below W.heap.size W W') => gram_Non (h.below hw) s
  have hlt := blk_lt hb
  have f0 : W.cell? ⟨b, 0, none⟩ = _ := blk_cell hb 0
  have f1 : W.cell? ⟨b, 1, none⟩ = _ := blk_cell hb 1
  have f2 : W.cell? ⟨b, 2, none⟩ = _ := blk_cell hb 2
  have f3 : W.cell? ⟨b, 3, none⟩ = _ := blk_cell hb 3
  have HBK := Aside0.mk hb
  clear hb h
  unfold gv at *
  unfold Gm.sym
  obtain ⟨p, hp⟩ : ∃ p, g.isTerm s = p := ⟨_, rfl⟩
  rw [hp] at ht ⊢
  clear hp
  cases p with
  | true =>
    clear hn
    go_enter Tryz.func80, Tryz.ntmps80
    go_wp2_with (go_at_call 71; refine ht.mono ?_; rintro e w1 ⟨rfl, hb1⟩)
    go_ret
    exact ⟨rfl, hb1⟩
  | false =>
    go_enter Tryz.func80, Tryz.ntmps80
    have HN := Aside0.mk hn
    clear hn
    go_wp2_with (first | (go_at_call 71; refine ht.mono ?_; rintro e w1 ⟨rfl, hb1⟩; have g0 := (hb1.cell (p := ⟨b, 0, none⟩) hlt).trans f0; have g1 := (hb1.cell (p := ⟨b, 1, none⟩) hlt).trans f1; have g2 := (hb1.cell (p := ⟨b, 2, none⟩) hlt).trans f2; have g3 := (hb1.cell (p := ⟨b, 3, none⟩) hlt).trans f3) | (go_at_call 46; refine (HN.out _ hb1).mono ?_; rintro e w2 ⟨rfl, hb2⟩))
    go_ret
    exact ⟨rfl, hb1.trans (hb2.mono hb1.size)⟩
def Gm.knownR (g : Gm) (r : Rl) : Bool := g.isNon r.left && r.right.all fun s => g.sym s
set_option maxHeartbeats 1000000 in
theorem gram_known {A : Option Addr} {c : Nat} {r : Rl} (h : GmAt w A0 A1 A2 c0 c1 c2 g) (hr : Kd.C (Kd.int .i64) w A r.right.length r.right) (hm : r.right.length ≤ 9223372036854775807) :
    Calls Tryz.prog 48 #[.agg (gv A0 A1 A2 c0 c1 c2 g), .agg #[.int .i64 r.left, .slice A r.right.length c]] w fun e w' => e = .returned (.bool (g.knownR r)) ∧ Below w.heap.size w w' := by
  have hb0 := below_alloc (below_alloc (Below.refl _ w) (.cells (gv A0 A1 A2 c0 c1 c2 g) 25)) (.cells #[.int .i64 r.left, .slice A r.right.length c] 40)
  have hbk := blk_alloc (blk_new w (.cells (gv A0 A1 A2 c0 c1 c2 g) 25)) (.cells #[.int .i64 r.left, .slice A r.right.length c] 40)
  have hbr : ((w.alloc (.cells (gv A0 A1 A2 c0 c1 c2 g) 25)).alloc (.cells #[.int .i64 r.left, .slice A r.right.length c] 40)).heap[w.heap.size + 1]? = some (.cells #[.int .i64 r.left, .slice A r.right.length c] 40) := by
    have := blk_new (w.alloc (.cells (gv A0 A1 A2 c0 c1 c2 g) 25)) (.cells #[.int .i64 r.left, .slice A r.right.length c] 40)
    simpa using this
  have hn := gram_Non (h.below hb0) r.left
  have H := Aside0.mk (h.below hb0)
  have HR := Aside0.mk (Kd.C_below hr hb0)
  have HBK := Aside0.mk hbk
  have HBR := Aside0.mk hbr
  have HB0 := Aside0.mk hb0
  have hl1 := blk_lt hbr
  clear h hr hbk hbr hb0
  unfold Gm.knownR
  obtain ⟨p, hp⟩ : ∃ p, g.isNon r.left = p := ⟨_, rfl⟩
  rw [hp] at hn ⊢
  clear hp
  unfold gv at *
  cases p with
  | false =>
    go_enter Tryz.func48, Tryz.ntmps48
    go_wp2_with (go_at_call 46; refine hn.mono ?_; rintro e w1 ⟨rfl, hb1⟩)
    go_ret
    exact ⟨rfl, HB0.out.trans (hb1.mono HB0.out.size)⟩
  | true =>
    go_enter Tryz.func48, Tryz.ntmps48
    go_wp2_with (first | (go_at_call 46; refine hn.mono ?_; rintro e w1 ⟨rfl, hb1⟩; have g1 : w1.cell? ⟨w.heap.size + 1, 1, none⟩ = some (.slice A r.right.length c) := (blk_cell (blk_below HBR.out hb1) 1).trans rfl) | (go_at_call 79; refine (all_int (p := fun s => g.sym s) (Kd.C_below HR.out hb1) hm ⟨_, _, rfl, fun _ _ => rfl, fun W x v hW hV => ?hcl⟩).mono ?_; (case hcl => obtain rfl : v = .int .i64 x := hV.1; have hb3 := hb1.trans (hW.mono hb1.size); exact known1 (blk_below HBK.out hb3) (H.out.below hb3) x); rintro e w2 ⟨rfl, hb2⟩))
    go_ret
    have hb3 := hb1.trans (hb2.mono hb1.size)
    exact ⟨rfl, HB0.out.trans (hb3.mono HB0.out.size)⟩
end
end Go.Proofs.YtliofoikejdjeaaGreat
/- slices.Grow of nil, slices.Concat of two, gram.once. -/
namespace Go.Proofs.YtliofoikejdjeaaGreat
open Go.RowKit Go.Proofs.YtliofoikejdjeaaGreatW.PrintWords
set_option linter.unusedVariables false
set_option maxRecDepth 100000
set_option linter.unusedSimpArgs false
set_option maxHeartbeats 1000000 in
theorem grow_nil (n : Nat) (hn : n ≤ 8796093022207) (w : World) : Calls Tryz.prog 113 #[.slice none 0 0, .int .i64 n] w fun e w' => ∃ v, e = .returned v ∧ Kd.R Kd.string 9 w' w.heap.size (fun _ => True) v [] ∧ Below w.heap.size w w' := by
  by_cases h0 : n = 0
  · subst h0
    go_enter Tryz.func113, Tryz.ntmps113
    go_wp2
    go_ret
    exact ⟨_, rfl, Kd.R_nil _ _ _ _ _, Below.refl _ _⟩
  · have hp : (0 : Int) < n := by omega
    clear h0
    go_enter Tryz.func113, Tryz.ntmps113
    go_wp2_with (first | (at_builtin; refine Kd.R_append_zeros Kd.string (w0 := w) w.heap.size rfl (.tmp 20) (.tmp 21) 22 3 9 (.string ⟨#[]⟩) 16 rfl Tryz.underlying22 Tryz.underlying3 info9 rfl (by decide) (by omega) (.slice none 0 0) [] (⟨#[]⟩ : ByteArray) (n : Int) (fun _ => True) rfl rfl rfl (fun _ _ => trivial) (Kd.R_nil _ _ _ _ _) (by omega) (Below.refl _ _) (Nat.le_refl _) (by simp; omega) ?_; intro v1 w1 ho hb hg hat; (obtain ⟨A1, cap1, rfl, hle1, _⟩ := Kd.R_reads ho); have HT := Aside0.mk (Kd.R_take (m := 0) ho (Nat.zero_le _)); have HB := Aside0.mk hb; clear ho hb hg hat hle1))
    go_ret
    exact ⟨_, rfl, HT.out, HB.out⟩
set_option maxHeartbeats 2000000 in
theorem concat2 {w : World} {b : Nat} {A0 A1 : Option Addr} {c0 c1 : Nat} {xs ys : List ByteArray} (hb : w.heap[b]? = some (.cells #[.slice A0 xs.length c0, .slice A1 ys.length c1] 22 (0, 0))) (hx : Kd.C Kd.string w A0 xs.length xs) (hy : Kd.C Kd.string w A1 ys.length ys) (mx : xs.length ≤ 2199023255552) (my : ys.length ≤ 2199023255552) :
    Calls Tryz.prog 78 #[.slice (some ⟨b, 0, none⟩) 2 2] w fun e w' => ∃ v, e = .returned v ∧ Kd.R Kd.string 9 w' w.heap.size (fun _ => True) v (xs ++ ys) ∧ Below w.heap.size w w' := by
  have f0 : w.cell? ⟨b, 0, none⟩ = _ := blk_cell hb 0
  have f1 : w.cell? ⟨b, 1, none⟩ = _ := blk_cell hb 1
  have HX := Aside0.mk hx
  have HY := Aside0.mk hy
  have hlt := blk_lt hb
  clear hb hx hy
  have hgr := grow_nil (xs.length + ys.length) (by omega) w
  rw [show ((xs.length + ys.length : Nat) : Int) = (xs.length : Int) + ys.length from by omega] at hgr
  go_enter Tryz.func78, Tryz.ntmps78
  go_wp2
  refine wp_loop_rounds 3 ?_
  rw [rounds_succ]
  go_wp2
  rw [rounds_succ]
  go_wp2
  rw [rounds_succ]
  go_wp2_with (go_at_call 113; refine hgr.mono ?_; rintro e w1 ⟨v, rfl, ho1, hb1⟩)
  have g0 := (hb1.cell (p := ⟨b, 0, none⟩) hlt).trans f0
  have g1 := (hb1.cell (p := ⟨b, 1, none⟩) hlt).trans f1
  have HO1 := Aside0.mk ho1
  have HB1 := Aside0.mk hb1
  clear ho1 hb1 hgr f0 f1
  refine wp_loop_rounds 3 ?_
  rw [rounds_succ]
  go_wp2_with (first | (at_builtin; refine Kd.R_append_rows Kd.string (w0 := w) w.heap.size rfl (.tmp 31) (.tmp 32) 22 9 (.string ⟨#[]⟩) 16 rfl Tryz.underlying22 info9 rfl (by decide) (by omega) v [] xs A0 xs.length c0 (fun _ => True) (fun _ => False) rfl rfl HO1.out (Kd.C_below HX.out HB1.out) (fun _ _ h => h) (fun _ h => h.elim) (fun _ _ => trivial) HB1.out HB1.out.size (by simp; omega) ?_; intro v2 w2 ho2 hb2 hg2 hat2))
  have g0' := (hb2.cell (p := ⟨b, 0, none⟩) hlt).trans ((HB1.out.cell (p := ⟨b, 0, none⟩) hlt).symm.trans g0)
  have g1' := (hb2.cell (p := ⟨b, 1, none⟩) hlt).trans ((HB1.out.cell (p := ⟨b, 1, none⟩) hlt).symm.trans g1)
  have HO2 := Aside0.mk ho2
  have HB2 := Aside0.mk hb2
  clear ho2 hb2 hg2 hat2 g0 g1
  rw [rounds_succ]
  go_wp2_with (first | (at_builtin; refine Kd.R_append_rows Kd.string (w0 := w) w.heap.size rfl (.tmp 31) (.tmp 32) 22 9 (.string ⟨#[]⟩) 16 rfl Tryz.underlying22 info9 rfl (by decide) (by omega) v2 ([] ++ xs) ys A1 ys.length c1 (fun _ => True) (fun _ => False) rfl rfl HO2.out (Kd.C_below HY.out HB2.out) (fun _ _ h => h) (fun _ h => h.elim) (fun _ _ => trivial) HB2.out HB2.out.size (by simp; omega) ?_; intro v3 w3 ho3 hb3 hg3 hat3))
  rw [rounds_succ]
  have HO3 := Aside0.mk ho3
  have HB3 := Aside0.mk hb3
  clear ho3 hb3 hg3 hat3 g0' g1'
  go_wp2
  go_ret
  exact ⟨_, rfl, HO3.out, HB3.out⟩
/-- What the map of names says behind k of them. -/
structure Met (l : List ByteArray) (k c : Nat) (f : ByteArray → Option Int) : Prop where
  mem : ∀ s, (f s).isSome = true ↔ s ∈ l.take k
  val : ∀ s q, f s = some q → 0 ≤ q ∧ q ≤ k
  le : c ≤ k
  dup : c = k ↔ (l.take k).Nodup
theorem Met.start (l : List ByteArray) : Met l 0 0 (fun _ => none) := ⟨fun s => by simp, fun s q h => by simp at h, Nat.le_refl _, by simp⟩
theorem Met.step {l : List ByteArray} {k c : Nat} {f : ByteArray → Option Int} (h : Met l k c f) (hk : k < l.length) :
    Met l (k + 1) (if (f (l.getD k default)).isSome then c else c + 1) (fun u => if u = l.getD k default then some ((f (l.getD k default)).getD 0 + 1) else f u) := by
  have hl : l.getD k default = l[k] := by rw [List.getD_eq_getElem?_getD, List.getElem?_eq_getElem hk]; rfl
  have ht : l.take (k + 1) = l.take k ++ [l[k]] := List.take_succ_eq_append_getElem hk
  rw [hl]
  refine ⟨fun s => ?_, fun s q hq => ?_, ?_, ?_⟩
  · by_cases e : s = l[k]
    · rw [ht, List.mem_append, List.mem_singleton, if_pos e]
      exact ⟨fun _ => .inr e, fun _ => rfl⟩
    · rw [ht, List.mem_append, List.mem_singleton, if_neg e, h.mem s]
      exact ⟨fun h => .inl h, fun h => h.resolve_right e⟩
  · by_cases e : s = l[k]
    · simp [e] at hq
      cases hf : f l[k] with
      | none => simp [hf] at hq; omega
      | some v => have := h.val _ _ hf; simp [hf] at hq; omega
    · simp [e] at hq
      have := h.val _ _ hq
      omega
  · have := h.le
    split <;> omega
  · rw [ht, List.nodup_append]
    by_cases e : (f l[k]).isSome = true
    · have hm := (h.mem _).1 e
      have := h.le
      rw [if_pos e]
      constructor
      · intro hc; omega
      · rintro ⟨_, _, hd⟩
        exact absurd rfl (hd _ hm _ (by simp))
    · have hm := mt (h.mem _).2 e
      rw [if_neg e]
      constructor
      · intro hc
        refine ⟨h.dup.1 (by omega), by simp, fun a ha b hb => ?_⟩
        rw [List.mem_singleton] at hb
        subst hb
        intro e2
        subst e2
        exact hm ha
      · rintro ⟨hn, _, _⟩
        have := h.dup.2 hn
        omega
set_option maxHeartbeats 2000000 in
theorem gram_once {w : World} {A0 A1 A2 : Option Addr} {c0 c1 c2 : Nat} {g : Gm} (h : GmAt w A0 A1 A2 c0 c1 c2 g) (m0 : g.terms.length ≤ 2199023255552) (m1 : g.nons.length ≤ 2199023255552) (hsz : ∀ s ∈ g.names, s.size ≤ 140737488351232) :
    Calls Tryz.prog 45 #[.agg (gv A0 A1 A2 c0 c1 c2 g)] w fun e w' => e = .returned (.bool (decide g.names.Nodup)) ∧ Below w.heap.size w w' := by
  have H := Aside0.mk h
  have HSZ := Aside0.mk hsz
  clear h hsz
  have hmm := @run_makeMap Tryz.prog
  unfold gv
  go_enter Tryz.func45, Tryz.ntmps45
  go_wp2_with fail
  have hb0 := below_alloc (below_alloc (below_alloc (Below.refl _ w) (.cells #[.slice A0 g.terms.length c0, .slice A1 g.nons.length c1, .slice A2 g.rules.length c2, .int .i64 g.start] 25)) (.map #[] 0)) (.cells #[.slice A0 g.terms.length c0, .slice A1 g.nons.length c1] 22)
  have hk0 := blk_alloc (blk_alloc (blk_new w (.cells #[.slice A0 g.terms.length c0, .slice A1 g.nons.length c1, .slice A2 g.rules.length c2, .int .i64 g.start] 25)) (.map #[] 0)) (.cells #[.slice A0 g.terms.length c0, .slice A1 g.nons.length c1] 22)
  have hms := (MapSI.made (w.alloc (.cells #[.slice A0 g.terms.length c0, .slice A1 g.nons.length c1, .slice A2 g.rules.length c2, .int .i64 g.start] 25))).below (below_alloc (Below.refl _ _) (.cells #[.slice A0 g.terms.length c0, .slice A1 g.nons.length c1] 22))
  have hbs := blk_new ((w.alloc (.cells #[.slice A0 g.terms.length c0, .slice A1 g.nons.length c1, .slice A2 g.rules.length c2, .int .i64 g.start] 25)).alloc (.map #[] 0)) (.cells #[.slice A0 g.terms.length c0, .slice A1 g.nons.length c1] 22)
  simp only [World.size_alloc] at hms hbs
  generalize ((w.alloc (.cells #[.slice A0 g.terms.length c0, .slice A1 g.nons.length c1, .slice A2 g.rules.length c2, .int .i64 g.start] 25)).alloc (.map #[] 0)).alloc (.cells #[.slice A0 g.terms.length c0, .slice A1 g.nons.length c1] 22) = W0 at *
  refine (concat2 hbs (Kd.C_below H.out.terms hb0) (Kd.C_below H.out.nons hb0) m0 m1).mono ?_
  rintro e w1 ⟨v, rfl, ho1, hb1⟩
  obtain ⟨A, cap, rfl, hle, hC⟩ := Kd.R_reads ho1
  have HB1 := Aside0.mk (hb0.trans (hb1.mono hb0.size))
  have HK1 := Aside0.mk (blk_below hk0 hb1)
  have HM1 := Aside0.mk (hms.below hb1)
  have HC := Aside0.mk hC
  have hmm1 := blk_lt hbs
  have hlt1 := hb1.size
  clear ho1 hb0 hk0 hms hbs hC hle hmm
  have hN : g.terms ++ g.nons = g.names := rfl
  rw [hN] at HC ⊢
  have hNl : g.names.length = g.terms.length + g.nons.length := by unfold Gm.names; rw [List.length_append]
  go_wp2_with fail
  go_loopw [5, 14] (fun _ i wr => ∃ (k c : Nat) (f : ByteArray → Option Int), k ≤ g.names.length ∧ i = .int .i64 k ∧ Aside0 (Below w.heap.size w wr) ∧ Aside0 (wr.heap[w.heap.size]? = some (.cells #[.slice A0 g.terms.length c0, .slice A1 g.nons.length c1, .slice A2 g.rules.length c2, .int .i64 g.start] 25 (0, 0))) ∧ Aside0 (MapSI wr (w.heap.size + 1) k f c) ∧ Aside0 (Met g.names k c f) ∧ Aside0 (Kd.C Kd.string wr A g.names.length g.names)) (fun _ i _ => g.names.length - (intOf i).toNat)
  case atStart => exact ⟨0, 0, _, Nat.zero_le _, rfl, HB1, HK1, HM1, ⟨Met.start _⟩, HC⟩
  case round =>
    clear HB1 HK1 HM1 HC
    obtain ⟨k, c, f, hk, rfl, HB, HK, HM, HT, HC⟩ := hrel
    by_cases hkl : k < g.names.length
    · have hkz : (k : Int) < (g.terms.length : Int) + g.nons.length := by omega
      obtain ⟨ad, rfl, l2⟩ := at_str HC.out k hkl
      have hss := HSZ.out (g.names.getD k default) (by rw [List.getD_eq_getElem?_getD, List.getElem?_eq_getElem hkl]; exact List.getElem_mem hkl)
      have HST := Aside0.mk (HT.out.step hkl)
      have hv1 : 0 ≤ (f (g.names.getD k default)).getD 0 ∧ (f (g.names.getD k default)).getD 0 ≤ k := by
        cases hf : f (g.names.getD k default) with
        | none => exact ⟨Int.le_refl _, by show (0 : Int) ≤ k; omega⟩
        | some q => exact HT.out.val _ _ hf
      obtain ⟨y, hy⟩ : ∃ y, g.names.getD k default = y := ⟨_, rfl⟩
      rw [hy] at l2 hss HST hv1
      clear hy
      obtain ⟨q, hq⟩ : ∃ q, (f y).getD 0 = q := ⟨_, rfl⟩
      have HQ := Aside0.mk hq
      rw [hq] at hv1
      clear hq
      obtain ⟨hv1, hv2⟩ := hv1
      obtain ⟨es, clock, hmap⟩ := HM.out.map_
      have HMAP := Aside0.mk hmap
      clear hmap
      go_wp2_with (first | (at_lookup; refine msi_lookup rfl _ _ 59 rfl Tryz.underlying59 rfl HM.out y rfl hss ?_; rw [HQ.out]) | (refine msi_update rfl (.tmp 18) (.tmp 19) (.tmp 21) 59 rfl Tryz.underlying59 rfl HM.out (by omega) y rfl hss (q + 1) rfl (WalkArith.wf_i64 (by omega)) ?_; intro w2 hm2 hg2))
      go_roundw
      case rel =>
        refine ⟨k + 1, _, _, by omega, by go_num, ⟨HB.out.grown hg2 (by have := HB.out.size; omega) (by intro b hb; injection hb with hb; omega)⟩, ⟨blk_grown HK.out hg2 (by intro e; injection e with e; omega)⟩, ⟨hm2⟩, ?_, ⟨C_str_map HMAP.out hg2 HC.out⟩⟩
        rw [← HQ.out]
        exact HST
      case measure => simp [intOf]; omega
    · have hkz : ¬ (k : Int) < (g.terms.length : Int) + g.nons.length := by omega
      have hkl2 : k = g.names.length := by omega
      have ht := gram_Top (H.out.below HB.out)
      have f0 : wr.cell? ⟨w.heap.size, 0, none⟩ = _ := blk_cell HK.out 0
      have f1 : wr.cell? ⟨w.heap.size, 1, none⟩ = _ := blk_cell HK.out 1
      have f2 : wr.cell? ⟨w.heap.size, 2, none⟩ = _ := blk_cell HK.out 2
      have f3 : wr.cell? ⟨w.heap.size, 3, none⟩ = _ := blk_cell HK.out 3
      unfold gv at ht
      have HKL := Aside0.mk hkl2
      clear hkl2 hkl
      go_wp2_with (first | (at_len; refine msi_len rfl _ 59 rfl Tryz.underlying59 rfl HM.out ?_) | (go_at_call 51; refine ht.mono ?_; rintro e w2 ⟨rfl, hb2⟩))
      go_ret
      refine ⟨rbool ?_, HB.out.trans (hb2.mono HB.out.size)⟩
      have hd := HT.out.dup
      rw [HKL.out, List.take_length] at hd
      rw [Bool.eq_iff_iff]
      simp only [beq_iff_eq, decide_eq_true_eq]
      rw [← hd]
      unfold Gm.top
      omega
end Go.Proofs.YtliofoikejdjeaaGreat
/- gram.Check. -/
namespace Go.Proofs.YtliofoikejdjeaaGreat
open Go.RowKit Go.Proofs.YtliofoikejdjeaaGreatW.PrintWords
def shortR (r : Rl) : Bool := decide (r.right.length ≤ 8)
def termOk (s : ByteArray) : Bool := plainOk s || isQuoted s
/-- The order of gram.Check's questions. -/
def checkB (l0 l1 l2 : Nat) (short form0 form1 once non known unlike none_ : Bool) : Int :=
  if 120 < l0 ∨ 120 < l1 ∨ 300 < l2 ∨ short = false then 7 else if form0 = false ∨ form1 = false then 10 else if once = false then 8
  else if non = false ∨ known = false then 1 else if unlike = false then 8 else if none_ then 9 else 0
/-- Has a nonterminal no rule? -/
def Gm.lacks (g : Gm) : Bool := decide (∃ k, k < g.nons.length ∧ g.ofS (g.terms.length + 1 + k) = [])
def Gm.check (g : Gm) : Int :=
  checkB g.terms.length g.nons.length g.rules.length (g.rules.all shortR) (g.terms.all termOk) (g.nons.all plainOk) (decide g.names.Nodup) (g.isNon g.start) (g.rules.all fun r => g.knownR r) (unlikeR g.rules) g.lacks
section
variable {w : World}
theorem check1 (W : World) (x : Rl) (v : Value) (hv : Vrl W x v) : Calls Tryz.prog 39 #[v] W fun e w' => e = .returned (.bool (shortR x)) ∧ Below W.heap.size W w' := by
  obtain ⟨A, c, rfl, hl, hC⟩ := hv
  have hm := Kd.C_max hC
  clear hC
  go_enter Tryz.func39, Tryz.ntmps39
  go_wp2
  go_ret
  exact ⟨rbool (by rw [Bool.eq_iff_iff]; simp [shortR]; omega), below_alloc (Below.refl _ _) _⟩
theorem check2 (W : World) (s : ByteArray) (hs : s.size ≤ 140737488351232) : Calls Tryz.prog 42 #[.string s] W fun e w' => e = .returned (.bool (termOk s)) ∧ Below W.heap.size W w' := by
  have hp := gram_plain s hs W
  have hq := fun W' => gtok_Quoted s hs W'
  unfold termOk
  generalize plainOk s = p at *
  cases p with
  | true =>
    clear hq
    go_enter Tryz.func42, Tryz.ntmps42
    go_wp2_with (go_at_call 43; refine hp.mono ?_; rintro e w1 ⟨rfl, hb1⟩)
    go_ret
    exact ⟨rfl, hb1⟩
  | false =>
    go_enter Tryz.func42, Tryz.ntmps42
    go_wp2_with (first | (go_at_call 43; refine hp.mono ?_; rintro e w1 ⟨rfl, hb1⟩) | (go_at_call 44; refine (hq _).mono ?_; rintro e w2 ⟨rfl, hb2⟩))
    go_ret
    exact ⟨rfl, hb1.trans (hb2.mono hb1.size)⟩
theorem check3 {W : World} {A0 A1 A2 : Option Addr} {c0 c1 c2 b : Nat} {g : Gm} (hb : W.heap[b]? = some (.cells (gv A0 A1 A2 c0 c1 c2 g) 25 (0, 0))) (h : GmAt W A0 A1 A2 c0 c1 c2 g) (x : Rl) (v : Value) (hv : Vrl W x v) :
    Calls Tryz.prog 47 #[v, .pointer (some ⟨b, 0, none⟩)] W fun e w' => e = .returned (.bool (g.knownR x)) ∧ Below W.heap.size W w' := by
  obtain ⟨A, c, rfl, hl, hC⟩ := hv
  have hb0 := below_alloc (Below.refl _ W) (.cells #[.int .i64 x.left, .slice A x.right.length c] 40)
  have hk := gram_known (c := c) (h.below hb0) (Kd.C_below hC hb0) (Kd.C_max hC)
  have hlt := blk_lt hb
  unfold gv at *
  obtain ⟨f0, f1, f2, f3⟩ := gcells hb
  clear hC hb h
  go_enter Tryz.func47, Tryz.ntmps47
  go_wp2_with (go_at_call 48; refine hk.mono ?_; rintro e w1 ⟨rfl, hb1⟩)
  go_ret
  exact ⟨rfl, below_new hb1⟩
end
end Go.Proofs.YtliofoikejdjeaaGreat
/- gram.Check: the walk. -/
namespace Go.Proofs.YtliofoikejdjeaaGreat
open Go.RowKit Go.Proofs.YtliofoikejdjeaaGreatW.PrintWords
set_option linter.unusedVariables false
set_option maxRecDepth 100000
set_option linter.unusedSimpArgs false
theorem lacks_true {g : Gm} {k : Nat} (hk : k < g.nons.length) (h : g.ofS ((g.terms.length : Int) + 1 + k) = []) : g.lacks = true := decide_eq_true ⟨k, hk, h⟩
theorem lacks_false {g : Gm} (h : ∀ k : Nat, k < g.nons.length → g.ofS ((g.terms.length : Int) + 1 + k) ≠ []) : g.lacks = false := decide_eq_false fun ⟨k, hk, e⟩ => h k hk e
set_option maxHeartbeats 8000000 in
theorem gram_Check {w : World} {A0 A1 A2 : Option Addr} {c0 c1 c2 : Nat} {g : Gm} (h : GmAt w A0 A1 A2 c0 c1 c2 g) (hsz : ∀ s ∈ g.names, s.size ≤ 140737488351232) :
    Calls Tryz.prog 20 #[.agg (gv A0 A1 A2 c0 c1 c2 g)] w fun e w' => e = .returned (.int .i64 g.check) ∧ Below w.heap.size w w' := by
  have h0 := h.m0
  have h1 := h.m1
  have h2 := h.m2
  by_cases b0 : 120 < g.terms.length
  · have hr : g.check = 7 := by unfold Gm.check checkB; rw [if_pos (.inl b0)]
    rw [hr]
    clear hr h hsz
    unfold gv
    go_enter Tryz.func20, Tryz.ntmps20
    go_wp2
    go_ret
    exact ⟨rfl, below_alloc (Below.refl _ _) _⟩
  by_cases b1 : 120 < g.nons.length
  · have hr : g.check = 7 := by unfold Gm.check checkB; rw [if_pos (.inr (.inl b1))]
    rw [hr]
    clear hr h hsz
    unfold gv
    go_enter Tryz.func20, Tryz.ntmps20
    go_wp2
    go_ret
    exact ⟨rfl, below_alloc (Below.refl _ _) _⟩
  by_cases b2 : 300 < g.rules.length
  · have hr : g.check = 7 := by unfold Gm.check checkB; rw [if_pos (.inr (.inr (.inl b2)))]
    rw [hr]
    clear hr h hsz
    unfold gv
    go_enter Tryz.func20, Tryz.ntmps20
    go_wp2
    go_ret
    exact ⟨rfl, below_alloc (Below.refl _ _) _⟩
  obtain ⟨W0, hW0⟩ : ∃ W0, W0 = w.alloc (.cells (gv A0 A1 A2 c0 c1 c2 g) 25) := ⟨_, rfl⟩
  have hb0 := below_alloc (Below.refl _ w) (.cells (gv A0 A1 A2 c0 c1 c2 g) 25)
  have hk0 := blk_new w (.cells (gv A0 A1 A2 c0 c1 c2 g) 25)
  rw [← hW0] at hb0 hk0
  have H := h.below hb0
  have hlt := blk_lt hk0
  have GC : Aside0 (∀ W, Below W0.heap.size W0 W → _ ∧ _ ∧ _ ∧ _) := ⟨fun W hb => gcells (blk_below hk0 hb)⟩
  have K1 : Aside0 (∀ W, Below W0.heap.size W0 W → Calls Tryz.prog 40 #[.slice A2 g.rules.length c2, .func (.func 39) #[] #[]] W fun e w' => e = .returned (.bool (g.rules.all shortR)) ∧ Below W.heap.size W w') :=
    ⟨fun W hb => all_rl (Kd.C_below H.rules hb) (by omega) ⟨_, _, rfl, fun _ _ => rfl, fun W' x v hW hV => check1 W' x v hV.1⟩⟩
  have K2 : Aside0 (∀ W, Below W0.heap.size W0 W → Calls Tryz.prog 41 #[.slice A0 g.terms.length c0, .func (.func 42) #[] #[]] W fun e w' => e = .returned (.bool (g.terms.all termOk)) ∧ Below W.heap.size W w') :=
    ⟨fun W hb => all_str (Kd.C_below H.terms hb) (by omega) ⟨_, _, rfl, fun _ _ => rfl, fun W' x v hW hV => by
      obtain rfl : v = .string x := hV.1
      exact check2 W' x (hsz x (List.mem_append_left _ hV.2))⟩⟩
  have K3 : Aside0 (∀ W, Below W0.heap.size W0 W → Calls Tryz.prog 41 #[.slice A1 g.nons.length c1, .func (.func 43) #[] #[]] W fun e w' => e = .returned (.bool (g.nons.all plainOk)) ∧ Below W.heap.size W w') :=
    ⟨fun W hb => all_str (Kd.C_below H.nons hb) (by omega) ⟨_, _, rfl, fun _ _ => rfl, fun W' x v hW hV => by
      obtain rfl : v = .string x := hV.1
      exact gram_plain x (hsz x (List.mem_append_right _ hV.2)) W'⟩⟩
  have K4 : Aside0 (∀ W, Below W0.heap.size W0 W → Calls Tryz.prog 45 #[.agg #[.slice A0 g.terms.length c0, .slice A1 g.nons.length c1, .slice A2 g.rules.length c2, .int .i64 g.start]] W fun e w' => e = .returned (.bool (decide g.names.Nodup)) ∧ Below W.heap.size W w') :=
    ⟨fun W hb => gram_once (H.below hb) (by omega) (by omega) hsz⟩
  have K5 : Aside0 (∀ W, Below W0.heap.size W0 W → Calls Tryz.prog 46 #[.agg #[.slice A0 g.terms.length c0, .slice A1 g.nons.length c1, .slice A2 g.rules.length c2, .int .i64 g.start], .int .i64 g.start] W fun e w' => e = .returned (.bool (g.isNon g.start)) ∧ Below W.heap.size W w') :=
    ⟨fun W hb => gram_Non (H.below hb) g.start⟩
  have K6 : Aside0 (∀ W, Below W0.heap.size W0 W → Calls Tryz.prog 40 #[.slice A2 g.rules.length c2, .func (.func 47) #[] #[.pointer (some ⟨w.heap.size, 0, none⟩)]] W fun e w' => e = .returned (.bool (g.rules.all fun r => g.knownR r)) ∧ Below W.heap.size W w') :=
    ⟨fun W hb => all_rl (Kd.C_below H.rules hb) (by omega) ⟨_, _, rfl, fun _ _ => rfl, fun W' x v hW hV => check3 (blk_below hk0 (hb.trans (hW.mono hb.size))) (H.below (hb.trans (hW.mono hb.size))) x v hV.1⟩⟩
  have K7 : Aside0 (∀ W, Below W0.heap.size W0 W → Calls Tryz.prog 49 #[.slice A2 g.rules.length c2, .func (.func 50) #[] #[]] W fun e w' => e = .returned (.bool (unlikeR g.rules)) ∧ Below W.heap.size W w') :=
    ⟨fun W hb => gram_unlike (Kd.C_below H.rules hb) (by omega) H.l2⟩
  have K8 : Aside0 (∀ W, Below W0.heap.size W0 W → Calls Tryz.prog 51 #[.agg #[.slice A0 g.terms.length c0, .slice A1 g.nons.length c1, .slice A2 g.rules.length c2, .int .i64 g.start]] W fun e w' => e = .returned (.int .i64 ((g.terms.length : Int) + g.nons.length)) ∧ Below W.heap.size W w') :=
    ⟨fun W hb => gram_Top (H.below hb)⟩
  have K9 : Aside0 (∀ W (s : Int), Below W0.heap.size W0 W → Calls Tryz.prog 52 #[.agg #[.slice A0 g.terms.length c0, .slice A1 g.nons.length c1, .slice A2 g.rules.length c2, .int .i64 g.start], .int .i64 s] W fun e w' => ∃ A c, e = .returned (.slice A (g.ofS s).length c) ∧ Below W.heap.size W w') :=
    ⟨fun W s hb => (gram_Of (H.below hb) s).mono fun e w' ⟨v, he, hv, hb⟩ => by
      obtain ⟨A, c, rfl⟩ := Kd.R_slice hv
      exact ⟨A, c, he, hb⟩⟩
  have LT : Aside0 (∀ k : Nat, k < g.nons.length → g.ofS ((g.terms.length : Int) + 1 + k) = [] → g.lacks = true) := ⟨fun k => lacks_true⟩
  have LF : Aside0 ((∀ k : Nat, k < g.nons.length → g.ofS ((g.terms.length : Int) + 1 + k) ≠ []) → g.lacks = false) := ⟨lacks_false⟩
  have HW := Aside0.mk hW0
  have HB := Aside0.mk (Below.refl W0.heap.size W0)
  have HB0 := Aside0.mk hb0
  have HCH : Aside0 (g.check = checkB g.terms.length g.nons.length g.rules.length (g.rules.all shortR) (g.terms.all termOk) (g.nons.all plainOk) (decide g.names.Nodup) (g.isNon g.start) (g.rules.all fun r => g.knownR r) (unlikeR g.rules) g.lacks) := ⟨rfl⟩
  generalize g.check = CH at *
  generalize g.rules.all shortR = p1 at *
  generalize g.terms.all termOk = p2 at *
  generalize g.nons.all plainOk = p3 at *
  generalize decide g.names.Nodup = p4 at *
  generalize g.isNon g.start = p5 at *
  generalize (g.rules.all fun r => g.knownR r) = p6 at *
  generalize unlikeR g.rules = p7 at *
  generalize g.lacks = p8 at *
  clear h hsz hk0 hb0 H h0 h1 h2
  unfold gv at *
  by_cases e1 : p1 = false
  · subst e1
    go_enter Tryz.func20, Tryz.ntmps20
    go_wp2_with fail
    rw [← HW.out]
    refine (K1.out _ HB.out).mono ?_
    rintro e w1 ⟨rfl, hb1⟩
    have HN := Aside0.mk (HB.out.trans (hb1.mono HB.out.size))
    clear HB hb1
    have HB := HN
    clear HN
    obtain ⟨f0, f1, f2, f3⟩ := GC.out w1 HB.out
    go_wp2_with (first | (go_at_call 41; ((with_reducible refine (K2.out _ HB.out).mono ?_); rintro e w2 ⟨rfl, hb2⟩; have HN := Aside0.mk (HB.out.trans (hb2.mono HB.out.size)); clear HB hb2; have HB := HN; clear HN; (obtain ⟨f0, f1, f2, f3⟩ := GC.out w2 HB.out))) | (go_at_call 41; ((with_reducible refine (K3.out _ HB.out).mono ?_); rintro e w3 ⟨rfl, hb3⟩; have HN := Aside0.mk (HB.out.trans (hb3.mono HB.out.size)); clear HB hb3; have HB := HN; clear HN; (obtain ⟨f0, f1, f2, f3⟩ := GC.out w3 HB.out))) | (go_at_call 45; ((with_reducible refine (K4.out _ HB.out).mono ?_); rintro e w4 ⟨rfl, hb4⟩; have HN := Aside0.mk (HB.out.trans (hb4.mono HB.out.size)); clear HB hb4; have HB := HN; clear HN; (obtain ⟨f0, f1, f2, f3⟩ := GC.out w4 HB.out))) | (go_at_call 46; ((with_reducible refine (K5.out _ HB.out).mono ?_); rintro e w5 ⟨rfl, hb5⟩; have HN := Aside0.mk (HB.out.trans (hb5.mono HB.out.size)); clear HB hb5; have HB := HN; clear HN; (obtain ⟨f0, f1, f2, f3⟩ := GC.out w5 HB.out))) | (go_at_call 40; ((with_reducible refine (K6.out _ HB.out).mono ?_); rintro e w6 ⟨rfl, hb6⟩; have HN := Aside0.mk (HB.out.trans (hb6.mono HB.out.size)); clear HB hb6; have HB := HN; clear HN; (obtain ⟨f0, f1, f2, f3⟩ := GC.out w6 HB.out))) | (go_at_call 49; ((with_reducible refine (K7.out _ HB.out).mono ?_); rintro e w7 ⟨rfl, hb7⟩; have HN := Aside0.mk (HB.out.trans (hb7.mono HB.out.size)); clear HB hb7; have HB := HN; clear HN; (obtain ⟨f0, f1, f2, f3⟩ := GC.out w7 HB.out))))
    go_ret
    exact ⟨rint (by rw [HCH.out]; first | (simp [checkB]; done) | (simp [checkB]; omega)), HB0.out.trans (HB.out.mono HB0.out.size)⟩
  obtain rfl : p1 = true := by simpa using e1
  clear e1
  by_cases e2 : p2 = false
  · subst e2
    go_enter Tryz.func20, Tryz.ntmps20
    go_wp2_with fail
    rw [← HW.out]
    refine (K1.out _ HB.out).mono ?_
    rintro e w1 ⟨rfl, hb1⟩
    have HN := Aside0.mk (HB.out.trans (hb1.mono HB.out.size))
    clear HB hb1
    have HB := HN
    clear HN
    obtain ⟨f0, f1, f2, f3⟩ := GC.out w1 HB.out
    go_wp2_with (first | (go_at_call 41; ((with_reducible refine (K2.out _ HB.out).mono ?_); rintro e w2 ⟨rfl, hb2⟩; have HN := Aside0.mk (HB.out.trans (hb2.mono HB.out.size)); clear HB hb2; have HB := HN; clear HN; (obtain ⟨f0, f1, f2, f3⟩ := GC.out w2 HB.out))) | (go_at_call 41; ((with_reducible refine (K3.out _ HB.out).mono ?_); rintro e w3 ⟨rfl, hb3⟩; have HN := Aside0.mk (HB.out.trans (hb3.mono HB.out.size)); clear HB hb3; have HB := HN; clear HN; (obtain ⟨f0, f1, f2, f3⟩ := GC.out w3 HB.out))) | (go_at_call 45; ((with_reducible refine (K4.out _ HB.out).mono ?_); rintro e w4 ⟨rfl, hb4⟩; have HN := Aside0.mk (HB.out.trans (hb4.mono HB.out.size)); clear HB hb4; have HB := HN; clear HN; (obtain ⟨f0, f1, f2, f3⟩ := GC.out w4 HB.out))) | (go_at_call 46; ((with_reducible refine (K5.out _ HB.out).mono ?_); rintro e w5 ⟨rfl, hb5⟩; have HN := Aside0.mk (HB.out.trans (hb5.mono HB.out.size)); clear HB hb5; have HB := HN; clear HN; (obtain ⟨f0, f1, f2, f3⟩ := GC.out w5 HB.out))) | (go_at_call 40; ((with_reducible refine (K6.out _ HB.out).mono ?_); rintro e w6 ⟨rfl, hb6⟩; have HN := Aside0.mk (HB.out.trans (hb6.mono HB.out.size)); clear HB hb6; have HB := HN; clear HN; (obtain ⟨f0, f1, f2, f3⟩ := GC.out w6 HB.out))) | (go_at_call 49; ((with_reducible refine (K7.out _ HB.out).mono ?_); rintro e w7 ⟨rfl, hb7⟩; have HN := Aside0.mk (HB.out.trans (hb7.mono HB.out.size)); clear HB hb7; have HB := HN; clear HN; (obtain ⟨f0, f1, f2, f3⟩ := GC.out w7 HB.out))))
    go_ret
    exact ⟨rint (by rw [HCH.out]; first | (simp [checkB]; done) | (simp [checkB]; omega)), HB0.out.trans (HB.out.mono HB0.out.size)⟩
  obtain rfl : p2 = true := by simpa using e2
  clear e2
  by_cases e3 : p3 = false
  · subst e3
    go_enter Tryz.func20, Tryz.ntmps20
    go_wp2_with fail
    rw [← HW.out]
    refine (K1.out _ HB.out).mono ?_
    rintro e w1 ⟨rfl, hb1⟩
    have HN := Aside0.mk (HB.out.trans (hb1.mono HB.out.size))
    clear HB hb1
    have HB := HN
    clear HN
    obtain ⟨f0, f1, f2, f3⟩ := GC.out w1 HB.out
    go_wp2_with (first | (go_at_call 41; ((with_reducible refine (K2.out _ HB.out).mono ?_); rintro e w2 ⟨rfl, hb2⟩; have HN := Aside0.mk (HB.out.trans (hb2.mono HB.out.size)); clear HB hb2; have HB := HN; clear HN; (obtain ⟨f0, f1, f2, f3⟩ := GC.out w2 HB.out))) | (go_at_call 41; ((with_reducible refine (K3.out _ HB.out).mono ?_); rintro e w3 ⟨rfl, hb3⟩; have HN := Aside0.mk (HB.out.trans (hb3.mono HB.out.size)); clear HB hb3; have HB := HN; clear HN; (obtain ⟨f0, f1, f2, f3⟩ := GC.out w3 HB.out))) | (go_at_call 45; ((with_reducible refine (K4.out _ HB.out).mono ?_); rintro e w4 ⟨rfl, hb4⟩; have HN := Aside0.mk (HB.out.trans (hb4.mono HB.out.size)); clear HB hb4; have HB := HN; clear HN; (obtain ⟨f0, f1, f2, f3⟩ := GC.out w4 HB.out))) | (go_at_call 46; ((with_reducible refine (K5.out _ HB.out).mono ?_); rintro e w5 ⟨rfl, hb5⟩; have HN := Aside0.mk (HB.out.trans (hb5.mono HB.out.size)); clear HB hb5; have HB := HN; clear HN; (obtain ⟨f0, f1, f2, f3⟩ := GC.out w5 HB.out))) | (go_at_call 40; ((with_reducible refine (K6.out _ HB.out).mono ?_); rintro e w6 ⟨rfl, hb6⟩; have HN := Aside0.mk (HB.out.trans (hb6.mono HB.out.size)); clear HB hb6; have HB := HN; clear HN; (obtain ⟨f0, f1, f2, f3⟩ := GC.out w6 HB.out))) | (go_at_call 49; ((with_reducible refine (K7.out _ HB.out).mono ?_); rintro e w7 ⟨rfl, hb7⟩; have HN := Aside0.mk (HB.out.trans (hb7.mono HB.out.size)); clear HB hb7; have HB := HN; clear HN; (obtain ⟨f0, f1, f2, f3⟩ := GC.out w7 HB.out))))
    go_ret
    exact ⟨rint (by rw [HCH.out]; first | (simp [checkB]; done) | (simp [checkB]; omega)), HB0.out.trans (HB.out.mono HB0.out.size)⟩
  obtain rfl : p3 = true := by simpa using e3
  clear e3
  by_cases e4 : p4 = false
  · subst e4
    go_enter Tryz.func20, Tryz.ntmps20
    go_wp2_with fail
    rw [← HW.out]
    refine (K1.out _ HB.out).mono ?_
    rintro e w1 ⟨rfl, hb1⟩
    have HN := Aside0.mk (HB.out.trans (hb1.mono HB.out.size))
    clear HB hb1
    have HB := HN
    clear HN
    obtain ⟨f0, f1, f2, f3⟩ := GC.out w1 HB.out
    go_wp2_with (first | (go_at_call 41; ((with_reducible refine (K2.out _ HB.out).mono ?_); rintro e w2 ⟨rfl, hb2⟩; have HN := Aside0.mk (HB.out.trans (hb2.mono HB.out.size)); clear HB hb2; have HB := HN; clear HN; (obtain ⟨f0, f1, f2, f3⟩ := GC.out w2 HB.out))) | (go_at_call 41; ((with_reducible refine (K3.out _ HB.out).mono ?_); rintro e w3 ⟨rfl, hb3⟩; have HN := Aside0.mk (HB.out.trans (hb3.mono HB.out.size)); clear HB hb3; have HB := HN; clear HN; (obtain ⟨f0, f1, f2, f3⟩ := GC.out w3 HB.out))) | (go_at_call 45; ((with_reducible refine (K4.out _ HB.out).mono ?_); rintro e w4 ⟨rfl, hb4⟩; have HN := Aside0.mk (HB.out.trans (hb4.mono HB.out.size)); clear HB hb4; have HB := HN; clear HN; (obtain ⟨f0, f1, f2, f3⟩ := GC.out w4 HB.out))) | (go_at_call 46; ((with_reducible refine (K5.out _ HB.out).mono ?_); rintro e w5 ⟨rfl, hb5⟩; have HN := Aside0.mk (HB.out.trans (hb5.mono HB.out.size)); clear HB hb5; have HB := HN; clear HN; (obtain ⟨f0, f1, f2, f3⟩ := GC.out w5 HB.out))) | (go_at_call 40; ((with_reducible refine (K6.out _ HB.out).mono ?_); rintro e w6 ⟨rfl, hb6⟩; have HN := Aside0.mk (HB.out.trans (hb6.mono HB.out.size)); clear HB hb6; have HB := HN; clear HN; (obtain ⟨f0, f1, f2, f3⟩ := GC.out w6 HB.out))) | (go_at_call 49; ((with_reducible refine (K7.out _ HB.out).mono ?_); rintro e w7 ⟨rfl, hb7⟩; have HN := Aside0.mk (HB.out.trans (hb7.mono HB.out.size)); clear HB hb7; have HB := HN; clear HN; (obtain ⟨f0, f1, f2, f3⟩ := GC.out w7 HB.out))))
    go_ret
    exact ⟨rint (by rw [HCH.out]; first | (simp [checkB]; done) | (simp [checkB]; omega)), HB0.out.trans (HB.out.mono HB0.out.size)⟩
  obtain rfl : p4 = true := by simpa using e4
  clear e4
  by_cases e5 : p5 = false
  · subst e5
    go_enter Tryz.func20, Tryz.ntmps20
    go_wp2_with fail
    rw [← HW.out]
    refine (K1.out _ HB.out).mono ?_
    rintro e w1 ⟨rfl, hb1⟩
    have HN := Aside0.mk (HB.out.trans (hb1.mono HB.out.size))
    clear HB hb1
    have HB := HN
    clear HN
    obtain ⟨f0, f1, f2, f3⟩ := GC.out w1 HB.out
    go_wp2_with (first | (go_at_call 41; ((with_reducible refine (K2.out _ HB.out).mono ?_); rintro e w2 ⟨rfl, hb2⟩; have HN := Aside0.mk (HB.out.trans (hb2.mono HB.out.size)); clear HB hb2; have HB := HN; clear HN; (obtain ⟨f0, f1, f2, f3⟩ := GC.out w2 HB.out))) | (go_at_call 41; ((with_reducible refine (K3.out _ HB.out).mono ?_); rintro e w3 ⟨rfl, hb3⟩; have HN := Aside0.mk (HB.out.trans (hb3.mono HB.out.size)); clear HB hb3; have HB := HN; clear HN; (obtain ⟨f0, f1, f2, f3⟩ := GC.out w3 HB.out))) | (go_at_call 45; ((with_reducible refine (K4.out _ HB.out).mono ?_); rintro e w4 ⟨rfl, hb4⟩; have HN := Aside0.mk (HB.out.trans (hb4.mono HB.out.size)); clear HB hb4; have HB := HN; clear HN; (obtain ⟨f0, f1, f2, f3⟩ := GC.out w4 HB.out))) | (go_at_call 46; ((with_reducible refine (K5.out _ HB.out).mono ?_); rintro e w5 ⟨rfl, hb5⟩; have HN := Aside0.mk (HB.out.trans (hb5.mono HB.out.size)); clear HB hb5; have HB := HN; clear HN; (obtain ⟨f0, f1, f2, f3⟩ := GC.out w5 HB.out))) | (go_at_call 40; ((with_reducible refine (K6.out _ HB.out).mono ?_); rintro e w6 ⟨rfl, hb6⟩; have HN := Aside0.mk (HB.out.trans (hb6.mono HB.out.size)); clear HB hb6; have HB := HN; clear HN; (obtain ⟨f0, f1, f2, f3⟩ := GC.out w6 HB.out))) | (go_at_call 49; ((with_reducible refine (K7.out _ HB.out).mono ?_); rintro e w7 ⟨rfl, hb7⟩; have HN := Aside0.mk (HB.out.trans (hb7.mono HB.out.size)); clear HB hb7; have HB := HN; clear HN; (obtain ⟨f0, f1, f2, f3⟩ := GC.out w7 HB.out))))
    go_ret
    exact ⟨rint (by rw [HCH.out]; first | (simp [checkB]; done) | (simp [checkB]; omega)), HB0.out.trans (HB.out.mono HB0.out.size)⟩
  obtain rfl : p5 = true := by simpa using e5
  clear e5
  by_cases e6 : p6 = false
  · subst e6
    go_enter Tryz.func20, Tryz.ntmps20
    go_wp2_with fail
    rw [← HW.out]
    refine (K1.out _ HB.out).mono ?_
    rintro e w1 ⟨rfl, hb1⟩
    have HN := Aside0.mk (HB.out.trans (hb1.mono HB.out.size))
    clear HB hb1
    have HB := HN
    clear HN
    obtain ⟨f0, f1, f2, f3⟩ := GC.out w1 HB.out
    go_wp2_with (first | (go_at_call 41; ((with_reducible refine (K2.out _ HB.out).mono ?_); rintro e w2 ⟨rfl, hb2⟩; have HN := Aside0.mk (HB.out.trans (hb2.mono HB.out.size)); clear HB hb2; have HB := HN; clear HN; (obtain ⟨f0, f1, f2, f3⟩ := GC.out w2 HB.out))) | (go_at_call 41; ((with_reducible refine (K3.out _ HB.out).mono ?_); rintro e w3 ⟨rfl, hb3⟩; have HN := Aside0.mk (HB.out.trans (hb3.mono HB.out.size)); clear HB hb3; have HB := HN; clear HN; (obtain ⟨f0, f1, f2, f3⟩ := GC.out w3 HB.out))) | (go_at_call 45; ((with_reducible refine (K4.out _ HB.out).mono ?_); rintro e w4 ⟨rfl, hb4⟩; have HN := Aside0.mk (HB.out.trans (hb4.mono HB.out.size)); clear HB hb4; have HB := HN; clear HN; (obtain ⟨f0, f1, f2, f3⟩ := GC.out w4 HB.out))) | (go_at_call 46; ((with_reducible refine (K5.out _ HB.out).mono ?_); rintro e w5 ⟨rfl, hb5⟩; have HN := Aside0.mk (HB.out.trans (hb5.mono HB.out.size)); clear HB hb5; have HB := HN; clear HN; (obtain ⟨f0, f1, f2, f3⟩ := GC.out w5 HB.out))) | (go_at_call 40; ((with_reducible refine (K6.out _ HB.out).mono ?_); rintro e w6 ⟨rfl, hb6⟩; have HN := Aside0.mk (HB.out.trans (hb6.mono HB.out.size)); clear HB hb6; have HB := HN; clear HN; (obtain ⟨f0, f1, f2, f3⟩ := GC.out w6 HB.out))) | (go_at_call 49; ((with_reducible refine (K7.out _ HB.out).mono ?_); rintro e w7 ⟨rfl, hb7⟩; have HN := Aside0.mk (HB.out.trans (hb7.mono HB.out.size)); clear HB hb7; have HB := HN; clear HN; (obtain ⟨f0, f1, f2, f3⟩ := GC.out w7 HB.out))))
    go_ret
    exact ⟨rint (by rw [HCH.out]; first | (simp [checkB]; done) | (simp [checkB]; omega)), HB0.out.trans (HB.out.mono HB0.out.size)⟩
  obtain rfl : p6 = true := by simpa using e6
  clear e6
  by_cases e7 : p7 = false
  · subst e7
    go_enter Tryz.func20, Tryz.ntmps20
    go_wp2_with fail
    rw [← HW.out]
    refine (K1.out _ HB.out).mono ?_
    rintro e w1 ⟨rfl, hb1⟩
    have HN := Aside0.mk (HB.out.trans (hb1.mono HB.out.size))
    clear HB hb1
    have HB := HN
    clear HN
    obtain ⟨f0, f1, f2, f3⟩ := GC.out w1 HB.out
    go_wp2_with (first | (go_at_call 41; ((with_reducible refine (K2.out _ HB.out).mono ?_); rintro e w2 ⟨rfl, hb2⟩; have HN := Aside0.mk (HB.out.trans (hb2.mono HB.out.size)); clear HB hb2; have HB := HN; clear HN; (obtain ⟨f0, f1, f2, f3⟩ := GC.out w2 HB.out))) | (go_at_call 41; ((with_reducible refine (K3.out _ HB.out).mono ?_); rintro e w3 ⟨rfl, hb3⟩; have HN := Aside0.mk (HB.out.trans (hb3.mono HB.out.size)); clear HB hb3; have HB := HN; clear HN; (obtain ⟨f0, f1, f2, f3⟩ := GC.out w3 HB.out))) | (go_at_call 45; ((with_reducible refine (K4.out _ HB.out).mono ?_); rintro e w4 ⟨rfl, hb4⟩; have HN := Aside0.mk (HB.out.trans (hb4.mono HB.out.size)); clear HB hb4; have HB := HN; clear HN; (obtain ⟨f0, f1, f2, f3⟩ := GC.out w4 HB.out))) | (go_at_call 46; ((with_reducible refine (K5.out _ HB.out).mono ?_); rintro e w5 ⟨rfl, hb5⟩; have HN := Aside0.mk (HB.out.trans (hb5.mono HB.out.size)); clear HB hb5; have HB := HN; clear HN; (obtain ⟨f0, f1, f2, f3⟩ := GC.out w5 HB.out))) | (go_at_call 40; ((with_reducible refine (K6.out _ HB.out).mono ?_); rintro e w6 ⟨rfl, hb6⟩; have HN := Aside0.mk (HB.out.trans (hb6.mono HB.out.size)); clear HB hb6; have HB := HN; clear HN; (obtain ⟨f0, f1, f2, f3⟩ := GC.out w6 HB.out))) | (go_at_call 49; ((with_reducible refine (K7.out _ HB.out).mono ?_); rintro e w7 ⟨rfl, hb7⟩; have HN := Aside0.mk (HB.out.trans (hb7.mono HB.out.size)); clear HB hb7; have HB := HN; clear HN; (obtain ⟨f0, f1, f2, f3⟩ := GC.out w7 HB.out))))
    go_ret
    exact ⟨rint (by rw [HCH.out]; first | (simp [checkB]; done) | (simp [checkB]; omega)), HB0.out.trans (HB.out.mono HB0.out.size)⟩
  obtain rfl : p7 = true := by simpa using e7
  clear e7
  go_enter Tryz.func20, Tryz.ntmps20
  go_wp2_with fail
  rw [← HW.out]
  refine (K1.out _ HB.out).mono ?_
  rintro e w1 ⟨rfl, hb1⟩
  have HN := Aside0.mk (HB.out.trans (hb1.mono HB.out.size))
  clear HB hb1
  have HB := HN
  clear HN
  obtain ⟨f0, f1, f2, f3⟩ := GC.out w1 HB.out
  go_wp2_with (first | (go_at_call 41; ((with_reducible refine (K2.out _ HB.out).mono ?_); rintro e w2 ⟨rfl, hb2⟩; have HN := Aside0.mk (HB.out.trans (hb2.mono HB.out.size)); clear HB hb2; have HB := HN; clear HN; (obtain ⟨f0, f1, f2, f3⟩ := GC.out w2 HB.out))) | (go_at_call 41; ((with_reducible refine (K3.out _ HB.out).mono ?_); rintro e w3 ⟨rfl, hb3⟩; have HN := Aside0.mk (HB.out.trans (hb3.mono HB.out.size)); clear HB hb3; have HB := HN; clear HN; (obtain ⟨f0, f1, f2, f3⟩ := GC.out w3 HB.out))) | (go_at_call 45; ((with_reducible refine (K4.out _ HB.out).mono ?_); rintro e w4 ⟨rfl, hb4⟩; have HN := Aside0.mk (HB.out.trans (hb4.mono HB.out.size)); clear HB hb4; have HB := HN; clear HN; (obtain ⟨f0, f1, f2, f3⟩ := GC.out w4 HB.out))) | (go_at_call 46; ((with_reducible refine (K5.out _ HB.out).mono ?_); rintro e w5 ⟨rfl, hb5⟩; have HN := Aside0.mk (HB.out.trans (hb5.mono HB.out.size)); clear HB hb5; have HB := HN; clear HN; (obtain ⟨f0, f1, f2, f3⟩ := GC.out w5 HB.out))) | (go_at_call 40; ((with_reducible refine (K6.out _ HB.out).mono ?_); rintro e w6 ⟨rfl, hb6⟩; have HN := Aside0.mk (HB.out.trans (hb6.mono HB.out.size)); clear HB hb6; have HB := HN; clear HN; (obtain ⟨f0, f1, f2, f3⟩ := GC.out w6 HB.out))) | (go_at_call 49; ((with_reducible refine (K7.out _ HB.out).mono ?_); rintro e w7 ⟨rfl, hb7⟩; have HN := Aside0.mk (HB.out.trans (hb7.mono HB.out.size)); clear HB hb7; have HB := HN; clear HN; (obtain ⟨f0, f1, f2, f3⟩ := GC.out w7 HB.out))))
  go_loopw [4] (fun v wr => ∃ k : Nat, k ≤ g.nons.length ∧ v = .int .i64 ((g.terms.length : Int) + 1 + k) ∧ Aside0 (Below W0.heap.size W0 wr) ∧ Aside0 (∀ j : Nat, j < k → g.ofS ((g.terms.length : Int) + 1 + j) ≠ [])) (fun v _ => g.terms.length + g.nons.length + 2 - (intOf v).toNat)
  case atStart => exact ⟨0, Nat.zero_le _, by simp, HB, ⟨fun j hj => absurd hj (Nat.not_lt_zero _)⟩⟩
  case round =>
    clear HB f0 f1 f2 f3
    obtain ⟨k, hk, rfl, HB, HL⟩ := hrel
    obtain ⟨f0, f1, f2, f3⟩ := GC.out wr HB.out
    by_cases hkl : k < g.nons.length
    · have hkz : (g.terms.length : Int) + 1 + k ≤ (g.terms.length : Int) + g.nons.length := by omega
      by_cases hz : g.ofS ((g.terms.length : Int) + 1 + k) = []
      · have hlen : (g.ofS ((g.terms.length : Int) + 1 + k)).length = 0 := by rw [hz]; rfl
        have h8 := LT.out k hkl hz
        have K9' := Aside0.mk (fun W hb => K9.out W ((g.terms.length : Int) + 1 + k) hb)
        rw [hlen] at K9'
        clear hz hlen
        go_wp2_with (first | (go_at_call 51; (with_reducible refine (K8.out _ HB.out).mono ?_); rintro e w8 ⟨rfl, hb8⟩; have HN := Aside0.mk (HB.out.trans (hb8.mono HB.out.size)); clear HB hb8; have HB := HN; clear HN; (obtain ⟨f0, f1, f2, f3⟩ := GC.out w8 HB.out)) | (go_at_call 52; (with_reducible refine (K9'.out _ HB.out).mono ?_); rintro e w9 ⟨A9, c9, rfl, hb9⟩; have HN := Aside0.mk (HB.out.trans (hb9.mono HB.out.size)); clear HB hb9; have HB := HN; clear HN))
        go_ret
        refine ⟨rint ?_, HB0.out.trans (HB.out.mono HB0.out.size)⟩
        rw [HCH.out]
        subst h8
        simp [checkB]
        omega
      · have HZ := Aside0.mk hz
        have hlen : ((g.ofS ((g.terms.length : Int) + 1 + k)).length : Int) ≠ 0 := by
          intro e
          exact hz (List.eq_nil_of_length_eq_zero (by omega))
        obtain ⟨q, hq⟩ : ∃ q, (g.ofS ((g.terms.length : Int) + 1 + k)).length = q := ⟨_, rfl⟩
        have K9' := Aside0.mk (fun W hb => K9.out W ((g.terms.length : Int) + 1 + k) hb)
        rw [hq] at K9' hlen
        have hq0 : ((q : Int) == 0) = false := by simpa using hlen
        clear hz hq hlen
        go_wp2_with (first | (go_at_call 51; (with_reducible refine (K8.out _ HB.out).mono ?_); rintro e w8 ⟨rfl, hb8⟩; have HN := Aside0.mk (HB.out.trans (hb8.mono HB.out.size)); clear HB hb8; have HB := HN; clear HN; (obtain ⟨f0, f1, f2, f3⟩ := GC.out w8 HB.out)) | (go_at_call 52; (with_reducible refine (K9'.out _ HB.out).mono ?_); rintro e w9 ⟨A9, c9, rfl, hb9⟩; have HN := Aside0.mk (HB.out.trans (hb9.mono HB.out.size)); clear HB hb9; have HB := HN; clear HN))
        go_roundw
        case rel =>
          refine ⟨k + 1, by omega, by go_num, HB, ⟨fun j hj => ?_⟩⟩
          by_cases e : j = k
          · subst e
            exact HZ.out
          · exact HL.out j (by omega)
        case measure => simp [intOf]; omega
    · have hkz : ¬ (g.terms.length : Int) + 1 + k ≤ (g.terms.length : Int) + g.nons.length := by omega
      have h8 := LF.out fun j hj => HL.out j (by omega)
      go_wp2_with (go_at_call 51; (with_reducible refine (K8.out _ HB.out).mono ?_); rintro e w8 ⟨rfl, hb8⟩; have HN := Aside0.mk (HB.out.trans (hb8.mono HB.out.size)); clear HB hb8; have HB := HN; clear HN)
      go_ret
      refine ⟨rint ?_, HB0.out.trans (HB.out.mono HB0.out.size)⟩
      rw [HCH.out]
      subst h8
      simp [checkB]
      omega
end Go.Proofs.YtliofoikejdjeaaGreat
/- Much: what it bounds, whatever the grammar. -/
namespace Go.Proofs.YtliofoikejdjeaaGreat
open Go.RowKit Go.Proofs.YtliofoikejdjeaaGreatW.PrintWords
set_option linter.unusedVariables false
set_option linter.unusedSimpArgs false
section
variable {w : World} {A0 A1 A2 : Option Addr} {c0 c1 c2 : Nat} {g : Gm}
set_option maxHeartbeats 4000000 in
theorem law06_MuchW (h : GmAt w A0 A1 A2 c0 c1 c2 g) (hk : ∀ s ∈ g.names, s.size ≤ 140737488355328) (hkr : ∀ r ∈ g.rules, r.right.length ≤ 140737488355328) : Calls Tryz.prog 5 #[.agg (gv A0 A1 A2 c0 c1 c2 g)] w fun e w' => (∃ n : Int, e = .returned (.int .i64 n) ∧ (n ≤ 300 → g.terms.length + g.nons.length + g.rules.length ≤ 300 ∧ ∀ r ∈ g.rules, r.right.length ≤ 10000)) ∧ Below w.heap.size w w' := by
  have h0 := h.m0
  have h1 := h.m1
  have h2 := h.m2
  have hb0 := below_alloc (Below.refl _ w) (.cells (gv A0 A1 A2 c0 c1 c2 g) 25)
  have hk0 := blk_new w (.cells (gv A0 A1 A2 c0 c1 c2 g) 25)
  have HT := Aside0.mk (Kd.C_below h.terms hb0)
  have HN := Aside0.mk (Kd.C_below h.nons hb0)
  have HR := Aside0.mk (Kd.C_below h.rules hb0)
  have ZT := Aside0.mk (fun s (hs : s ∈ g.terms) => hk s (List.mem_append_left _ hs))
  have ZN := Aside0.mk (fun s (hs : s ∈ g.nons) => hk s (List.mem_append_right _ hs))
  have ZR := Aside0.mk hkr
  clear h hk hkr
  unfold gv at *
  go_enter Tryz.func5, Tryz.ntmps5
  go_wp2
  generalize w.alloc (.cells #[.slice A0 g.terms.length c0, .slice A1 g.nons.length c1, .slice A2 g.rules.length c2, .int .i64 g.start] 25) = W0 at *
  have HB0 := Aside0.mk hb0
  obtain ⟨f0, f1, f2, f3⟩ := gcells hk0
  clear hb0 hk0
  obtain ⟨T, hT⟩ : ∃ T : Int, T = (g.terms.length : Int) + g.nons.length + g.rules.length := ⟨_, rfl⟩
  have hT2 : T ≤ 26388279066624 := by omega
  have hT0 : 0 ≤ T := by omega
  go_loop [3, 4] (fun s i => ∃ (k : Nat) (n : Int), k ≤ g.terms.length ∧ k ≤ 200 ∧ i = .int .i64 k ∧ s = .int .i64 n ∧ T ≤ n ∧ n ≤ T + k * 140737488355328) (fun _ i => g.terms.length - (intOf i).toNat)
  case atStart => exact ⟨0, _, Nat.zero_le _, Nat.zero_le _, rfl, rfl, by omega, by omega⟩
  case round =>
    obtain ⟨k, n, hk, hk2, rfl, rfl, n1, n2⟩ := hrel
    by_cases hlt : k < g.terms.length ∧ k < 200
    · obtain ⟨hl1, hl2⟩ := hlt
      have hltz : (k : Int) < (g.terms.length : Int) := by omega
      have hltw : (k : Int) < 200 := by omega
      obtain ⟨ad, rfl, l2⟩ := at_str HT.out k hl1
      have hys := ZT.out _ (getD_mem hl1)
      obtain ⟨y, hy⟩ : ∃ y, g.terms.getD k default = y := ⟨_, rfl⟩
      rw [hy] at l2 hys
      clear hy
      go_wp2
      go_round
      case rel => exact ⟨k + 1, n + (y.size : Int) / 20, by omega, by omega, by go_num, by go_num, by omega, by omega⟩
      case measure => simp [intOf]; omega
    · have HL := Aside0.mk hlt
      have hcnd : (k : Int) < (g.terms.length : Int) → ¬ (k : Int) < 200 := by omega
      clear hlt
      have HN2 : Aside0 (n ≤ T + 200 * 140737488355328) := ⟨by omega⟩
      by_cases hltz : (k : Int) < (g.terms.length : Int)
      all_goals
        (first | have hltw : ¬ (k : Int) < 200 := hcnd hltz | skip)
        clear hcnd
        clear n2
        go_wp2
        go_loop [3, 5] (fun s i => ∃ (k : Nat) (n : Int), k ≤ g.nons.length ∧ k ≤ 200 ∧ i = .int .i64 k ∧ s = .int .i64 n ∧ T ≤ n ∧ n ≤ T + 28147497671065600 + k * 140737488355328) (fun _ i => g.nons.length - (intOf i).toNat)
        case atStart => exact ⟨0, n, Nat.zero_le _, Nat.zero_le _, rfl, rfl, n1, by have := HN2.out; omega⟩
        case round =>
          clear n1 HN2
          obtain ⟨k, n, hk, hk2, rfl, rfl, n1, n2⟩ := hrel
          by_cases hlt : k < g.nons.length ∧ k < 200
          · obtain ⟨hl1, hl2⟩ := hlt
            have hltz : (k : Int) < (g.nons.length : Int) := by omega
            have hltw : (k : Int) < 200 := by omega
            obtain ⟨ad, rfl, l2⟩ := at_str HN.out k hl1
            have hys := ZN.out _ (getD_mem hl1)
            obtain ⟨y, hy⟩ : ∃ y, g.nons.getD k default = y := ⟨_, rfl⟩
            rw [hy] at l2 hys
            clear hy
            go_wp2
            go_round
            case rel => exact ⟨k + 1, n + (y.size : Int) / 20, by omega, by omega, by go_num, by go_num, by omega, by omega⟩
            case measure => simp [intOf]; omega
          · have hcnd : (k : Int) < (g.nons.length : Int) → ¬ (k : Int) < 200 := by omega
            clear hlt
            have HN2 : Aside0 (n ≤ T + 56294995342131200) := ⟨by omega⟩
            by_cases hltz : (k : Int) < (g.nons.length : Int)
            all_goals
              (first | have hltw : ¬ (k : Int) < 200 := hcnd hltz | skip)
              clear hcnd
              clear n2
              go_wp2
              go_loop [3, 6] (fun s i => ∃ (k : Nat) (n : Int), k ≤ g.rules.length ∧ k ≤ 400 ∧ i = .int .i64 k ∧ s = .int .i64 n ∧ T ≤ n ∧ n ≤ T + 56294995342131200 + k * 140737488355328 ∧ Aside0 (∀ j, j < k → ((g.rules.getD j default).right.length : Int) / 9 ≤ n)) (fun _ i => g.rules.length - (intOf i).toNat)
              case atStart => exact ⟨0, n, Nat.zero_le _, Nat.zero_le _, rfl, rfl, n1, by have := HN2.out; omega, ⟨fun j hj => absurd hj (Nat.not_lt_zero _)⟩⟩
              case round =>
                clear n1 HN2
                obtain ⟨k, n, hk, hk2, rfl, rfl, n1, n2, AF⟩ := hrel
                by_cases hlt : k < g.rules.length ∧ k < 400
                · obtain ⟨hl1, hl2⟩ := hlt
                  have hltz : (k : Int) < (g.rules.length : Int) := by omega
                  have hltw : (k : Int) < 400 := by omega
                  obtain ⟨ad, Ar, cr, rfl, k1, k2, k3, _⟩ := at_rl HR.out k hl1
                  have hys := ZR.out _ (getD_mem hl1)
                  have hmd : ∃ y, g.rules.getD k default = y := ⟨_, rfl⟩
                  obtain ⟨y, hy⟩ := hmd
                  rw [hy] at k1 k2 hys
                  have HY := Aside0.mk hy
                  clear hy k3
                  go_wp2
                  go_round
                  case rel => exact ⟨k + 1, n + (y.right.length : Int) / 9, by omega, by omega, by go_num, by go_num, by omega, by omega, ⟨fun j hj => by
                    rcases Nat.lt_or_ge j k with hj1 | hj1
                    · have := AF.out j hj1; omega
                    · obtain rfl : j = k := by omega
                      rw [HY.out]
                      omega⟩⟩
                  case measure => simp [intOf]; omega
                · have hcnd : (k : Int) < (g.rules.length : Int) → ¬ (k : Int) < 400 := by omega
                  have HL := Aside0.mk hlt
                  clear hlt
                  have HTT := Aside0.mk hT
                  have HQ : Aside0 (n ≤ 300 → g.terms.length + g.nons.length + g.rules.length ≤ 300 ∧ ∀ r ∈ g.rules, r.right.length ≤ 10000) := ⟨fun hn => by
                    have hl := HL.out
                    refine ⟨by omega, fun r hr => ?_⟩
                    obtain ⟨j, hj, rfl⟩ := List.mem_iff_getElem.1 hr
                    have := AF.out j (by omega)
                    rw [List.getD_eq_getElem?_getD, List.getElem?_eq_getElem hj, Option.getD_some] at this
                    omega⟩
                  by_cases hltz : (k : Int) < (g.rules.length : Int)
                  all_goals
                    (first | have hltw : ¬ (k : Int) < 400 := hcnd hltz | skip)
                    clear hcnd
                    go_wp2
                    go_ret
                    exact ⟨⟨n, rfl, HQ.out⟩, HB0.out⟩
end
end Go.Proofs.YtliofoikejdjeaaGreat
/- A region that draws its order and ends in one assignment that waits for all else: XDet's law, the assignment apart: it may write a slot that the others read. -/
namespace Go.Proofs.YtliofoikejdjeaaGreat
open Go
set_option linter.unusedVariables false
set_option linter.unusedSimpArgs false
set_option linter.unnecessarySimpa false
def detOk2 (ops : Array Oper) : Bool :=
  noDup (ops.toList.dropLast.filterMap (·.dst)) &&
  ops.toList.dropLast.all (fun o => !isSel o.op && (o.looksAt ops).all fun t => (List.range (ops.size - 1)).all fun j =>
    (ops[j]?.bind (·.dst)) != some t || o.after.any fun e => Region.binds .any e && e.on == j) &&
  ((ops[ops.size - 1]?).map fun o => (List.range (ops.size - 1)).all fun j => o.after.any fun e => Region.binds .any e && e.on == j).getD false
structure Midway2 (ops : Array Oper) (c a : Act) (listed : Array Bool) : Prop where
  size : a.tmps.size = c.tmps.size
  defers : a.defers = c.defers
  done : ∀ (j : Nat) (o : Oper) t, j < ops.size - 1 → ops[j]? = some o → o.dst = some t → listed.getD j false = true → a.tmps[t]? = c.tmps[t]?
  rest : ∀ t, (∀ (j : Nat) (o : Oper), j < ops.size - 1 → ops[j]? = some o → o.dst ≠ some t) → a.tmps[t]? = c.tmps[t]?
section
variable {P : Program} {ops : Array Oper} {Q : Exit → Act → World → Prop}
theorem drop_get {i : Nat} {o : Oper} (hn : i < ops.size - 1) (hi : ops[i]? = some o) : ops.toList.dropLast[i]? = some o := by
  rw [List.getElem?_dropLast, if_pos (by simpa using hn)]
  simpa using hi
theorem det_reads2 (hck : detOk2 ops = true) {c a : Act} {listed : Array Bool} (hm : Midway2 ops c a listed) {i : Nat} {o : Oper} (hn : i < ops.size - 1) (hi : ops[i]? = some o)
    (hr : ∀ e ∈ o.after, Region.binds .any e = true → listed.getD e.on false = true) : ∀ t ∈ o.looksAt ops, a.tmps[t]? = c.tmps[t]? := by
  intro t ht
  by_cases hw : ∃ (j : Nat) (oj : Oper), j < ops.size - 1 ∧ ops[j]? = some oj ∧ oj.dst = some t
  · obtain ⟨j, oj, hjn, hj, hd⟩ := hw
    refine hm.done j oj t hjn hj hd ?_
    unfold detOk2 at hck
    simp only [Bool.and_eq_true] at hck
    have ho := List.all_eq_true.1 hck.1.2 o (List.mem_of_getElem? (drop_get hn hi))
    have ho2 := List.all_eq_true.1 ((Bool.and_eq_true _ _ ▸ ho).2) t ht
    have ho3 := List.all_eq_true.1 ho2 j (List.mem_range.2 hjn)
    simp only [hj, Option.bind_some, hd, bne_self_eq_false, Bool.false_or] at ho3
    obtain ⟨q, hq, hb⟩ := Array.any_eq_true.1 ho3
    obtain ⟨e, he, hb⟩ : ∃ e, e ∈ o.after ∧ (Region.binds .any e && e.on == j) = true := ⟨o.after[q], Array.getElem_mem hq, hb⟩
    simp only [Bool.and_eq_true, beq_iff_eq] at hb
    rw [← hb.2]
    exact hr e he hb.1
  · exact hm.rest t fun j oj hjn hj hd => hw ⟨j, oj, hjn, hj, hd⟩
theorem midway_put2 (hnd : noDup (ops.toList.dropLast.filterMap (·.dst)) = true) {c a : Act} {listed : Array Bool} (hm : Midway2 ops c a listed) {i : Nat} {o : Oper} (hn : i < ops.size - 1) (hi : ops[i]? = some o) {v : Value}
    (hv : c.put o.dst v = c) : Midway2 ops c (a.put o.dst v) (listed.setIfInBounds i true) := by
  refine ⟨by rw [put_size]; exact hm.size, by rw [← hm.defers]; unfold Act.put; cases o.dst <;> rfl, fun j oj t hjn hj hd hl => ?_, fun t ht => ?_⟩
  · by_cases e : j = i
    · subst e
      obtain rfl : oj = o := Option.some.inj (hj.symm.trans hi)
      rw [hd] at hv ⊢
      by_cases hlt : t < c.tmps.size
      · rw [put_fix hv hlt]
        simp [Act.put, hm.size, hlt]
      · have h1 := put_size a (some t) v
        have h2 := hm.size
        rw [Array.getElem?_eq_none (Nat.le_trans (Nat.le_of_eq (h1.trans h2)) (Nat.le_of_not_lt hlt)), Array.getElem?_eq_none (Nat.le_of_not_lt hlt)]
    · have hne : o.dst ≠ some t := fun h => e (noDup_idx ops.toList.dropLast hnd j i oj o t (drop_get hjn hj) (drop_get hn hi) hd h)
      rw [put_other _ _ _ _ hne]
      refine hm.done j oj t hjn hj hd ?_
      rwa [getD_set_ne false (fun h => e h.symm)] at hl
  · rw [put_other _ _ _ _ (ht i o hn hi)]
    exact hm.rest t ht
theorem det_any2 (hck : detOk2 ops = true) {d c : Act} {Inv : World → Prop} {ol : Oper} {x : Operand} (h0 : 0 < ops.size) (hol : ops[ops.size - 1]? = some ol) (hx : ol.op = .assign x) (hg : ol.guard = none) (hc : d.put ol.dst (d.eval x) = c)
    (hops : ∀ o ∈ ops.toList.dropLast, Det1 P ops d Inv o) (hQ : ∀ W, Inv W → Q .normal c W) (hw : ∀ tm, Region.wanted ol (yielded ops tm) = true)
    (hend : ∀ l : Array Bool, l.size = ops.size → Region.ready .any ops l = [] → ∀ j, j < ops.size → l.getD j false = true) :
    ∀ (fuel : Nat) (listed : Array Bool) (a : Act) (W : World), listed.size = ops.size → listed.getD (ops.size - 1) false = false → Midway2 ops d a listed → Inv W →
      (fuel + (listed.toList.filter id).length = ops.size) → wpAny P .any ops Q fuel listed a W := by
  have hck0 := hck
  unfold detOk2 at hck0
  simp only [Bool.and_eq_true] at hck0
  obtain ⟨⟨hnd, hlooks⟩, hwait⟩ := hck0
  rw [hol] at hwait
  simp only [Option.map_some, Option.getD_some] at hwait
  have fin : ∀ (listed : Array Bool) (a : Act), Midway2 ops d a listed → (∀ j, j < ops.size - 1 → listed.getD j false = true) → a = d := by
    intro listed a hm hall
    have ht : a.tmps = d.tmps := by
      apply Array.ext_getElem?
      intro t
      by_cases hw : ∃ (j : Nat) (oj : Oper), j < ops.size - 1 ∧ ops[j]? = some oj ∧ oj.dst = some t
      · obtain ⟨j, oj, hjn, hj, hd⟩ := hw
        exact hm.done j oj t hjn hj hd (hall j hjn)
      · exact hm.rest t fun j oj hjn hj hd => hw ⟨j, oj, hjn, hj, hd⟩
    obtain ⟨t1, d1⟩ := a
    obtain ⟨t2, d2⟩ := d
    simp only at ht
    have hd := hm.defers
    simp only at hd
    rw [ht, hd]
  have key : ∀ (l : List Bool) (k : Nat) (hk : k < l.length), l[k] = false → ((l.set k true).filter id).length = (l.filter id).length + 1 := by
    intro l
    induction l with
    | nil => intro k hk; simp at hk
    | cons b l ihl =>
      intro k hk hb
      cases k with
      | zero => simp at hb; subst hb; simp
      | succ k =>
        simp at hb hk
        have := ihl k hk hb
        cases b <;> simp [this]
  intro fuel
  induction fuel with
  | zero =>
    intro listed a W hs hl hm hI hf
    exfalso
    have h1 : (listed.toList.filter id).length = listed.toList.length := by simp at hf ⊢; omega
    have hfl := List.length_filter_eq_length_iff.1 h1
    have hj' : ops.size - 1 < listed.size := by omega
    have := hfl (listed[ops.size - 1]'hj') (by simp)
    simp [Array.getD, hj'] at hl this
    rw [hl] at this
    cases this
  | succ fuel ih =>
    intro listed a W hs hl hm hI hf
    refine ⟨fun h => ?_, fun i hi => ?_⟩
    · have := hend listed hs h (ops.size - 1) (by omega)
      rw [hl] at this
      cases this
    obtain ⟨h00, o, ho, hrd⟩ := mem_ready.1 hi
    have hlt : i < ops.size := (Array.getElem?_eq_some_iff.1 ho).1
    have hi' : i < listed.size := by omega
    have hfalse : listed[i] = false := by simpa [Array.getD, hi'] using h00
    have hcount : ((listed.setIfInBounds i true).toList.filter id).length = (listed.toList.filter id).length + 1 := by
      rw [Array.toList_setIfInBounds]
      exact key listed.toList i (by simpa using hi') (by simpa using hfalse)
    by_cases hin : i = ops.size - 1
    · subst hin
      obtain rfl : o = ol := Option.some.inj (ho.symm.trans hol)
      have hall : ∀ j, j < ops.size - 1 → listed.getD j false = true := by
        intro j hj
        have h3 := List.all_eq_true.1 hwait j (List.mem_range.2 hj)
        obtain ⟨q, hq, hb⟩ := Array.any_eq_true.1 h3
        simp only [Bool.and_eq_true, beq_iff_eq] at hb
        rw [← hb.2]
        exact hrd _ (Array.getElem_mem hq) hb.1
      obtain rfl := fin listed a hm hall
      unfold wpOp
      simp only [ho]
      rw [hw, if_pos rfl]
      refine .inl ?_
      unfold Oper.wp
      rw [show execOp a.eval o = pure (.value (a.eval x)) from by unfold execOp; rw [hx]]
      show wpAny P .any ops Q fuel (listed.setIfInBounds (ops.size - 1) true) (a.put o.dst (a.eval x)) W
      rw [hc]
      have hdone : ∀ j, j < ops.size → (listed.setIfInBounds (ops.size - 1) true).getD j false = true := by
        intro j hj
        by_cases e : j = ops.size - 1
        · subst e
          simp [Array.getD, hs, hj]
        · rw [getD_set_ne false (fun h => e h.symm)]
          exact hall j (by omega)
      have hno : Region.ready .any ops (listed.setIfInBounds (ops.size - 1) true) = [] := by
        apply List.eq_nil_iff_forall_not_mem.2
        intro j hj
        obtain ⟨q0, oj, hoj, _⟩ := mem_ready.1 hj
        have hjl : j < ops.size := (Array.getElem?_eq_some_iff.1 hoj).1
        have h1 := hdone j hjl
        have hj' : j < (listed.setIfInBounds (ops.size - 1) true).size := by simp; omega
        simp only [Array.getD, hj', dite_true] at q0 h1
        rw [h1] at q0
        simp at q0
      cases fuel with
      | zero => exact ⟨hno, hQ W hI⟩
      | succ fuel => exact ⟨fun _ => hQ W hI, fun k hk => by rw [hno] at hk; cases hk⟩
    · have hn : i < ops.size - 1 := by omega
      have hsame := det_reads2 hck hm hn ho hrd
      have hmem : o ∈ ops.toList.dropLast := List.mem_of_getElem? (drop_get hn ho)
      have hsel : ∀ cs b, o.op ≠ .select cs b := by
        intro cs b h
        have hoo := List.all_eq_true.1 hlooks o hmem
        simp [h, isSel] at hoo
      have he : execOp a.eval o = execOp d.eval o := execOp_congr o hsel fun y hy => eval_same fun t ht => hsame t (by
        subst ht
        exact List.mem_append_left _ (List.mem_filterMap.2 ⟨.tmp t, by simpa using hy, rfl⟩))
      have hwn : Region.wanted o (yielded ops a.tmps) = Region.wanted o (yielded ops d.tmps) := by
        unfold Region.wanted
        cases hgg : o.guard with
        | none => rfl
        | some gw =>
          obtain ⟨g, want⟩ := gw
          have : yielded ops a.tmps g = yielded ops d.tmps g := by
            unfold yielded
            cases ht : (ops[g]?).bind (·.dst) with
            | none => rfl
            | some t =>
              simp only [Option.bind_some]
              rw [hsame t (by simp [Oper.looksAt, hgg, ht])]
          simp only [this]
      have hD := hops o hmem W hI
      have hnext : ∀ v W', d.put o.dst v = d → Inv W' → wpAny P .any ops Q fuel (listed.setIfInBounds i true) (a.put o.dst v) W' := by
        intro v W' hv hI'
        refine ih _ _ _ (by simpa using hs) ?_ (midway_put2 hnd hm hn ho hv) hI' (by omega)
        rw [getD_set_ne false (fun h => hin h)]
        exact hl
      unfold wpOp
      simp only [ho]
      rw [hwn]
      split
      · rename_i hw
        rw [if_pos hw] at hD
        exact .inl (det_wp he hD hm.defers hnext)
      · rename_i hw
        rw [if_neg hw] at hD
        exact hnext _ _ hD hI
theorem wp_region_det2 {id : Nat} {l : List Oper} {a0 d c : Act} {w : World} {ol : Oper} {x : Operand} (vs : List Value) (Inv : World → Prop) (hm : P.follows .mixedOrders = true) (hck : (detOk2 l.toArray && backOk l.toArray) = true)
    (hol : l.getLast? = some ol) (hx : ol.op = .assign x) (hg : ol.guard = none) (hd : putAll l.dropLast vs a0 = d) (hc : d.put ol.dst (d.eval x) = c)
    (hI : Inv { w with drawn := w.drawn + 1 }) (hops : DetAll P l.toArray d Inv l.dropLast) (hQ : ∀ W, Inv W → Q .normal c W) : (Code.region id l.toArray true).wp P Q a0 w := by
  simp only [Bool.and_eq_true] at hck
  refine wp_region_any hm ?_
  have hne : l ≠ [] := by intro e; rw [e] at hol; simp at hol
  have hlen : 0 < l.length := List.length_pos_iff.2 hne
  refine det_any2 (d := d) (c := c) hck.1 (by simpa using hlen) (by rw [List.getLast?_eq_getElem?] at hol; simpa using hol) hx hg hc (by simpa using detAll_mem hops) hQ (fun tm => by simp [Region.wanted, hg]) (back_ready hck.2) _ _ _ _ (by simp) ?_ ?_ hI (by simp)
  · simp only [Array.getD_eq_getD_getElem?, Array.getElem?_replicate]
    split <;> rfl
  · refine ⟨by rw [← hd, putAll_size], by rw [← hd, putAll_defers], fun j o t hjn hj hdd hl => ?_, fun t ht => ?_⟩
    · simp only [Array.getD_eq_getD_getElem?, Array.getElem?_replicate] at hl
      split at hl <;> simp at hl
    · rw [← hd, putAll_other t l.dropLast vs a0 fun o ho => ?_]
      obtain ⟨j, hj⟩ := List.mem_iff_getElem?.1 ho
      rw [List.getElem?_dropLast] at hj
      split at hj
      · rename_i hjn
        exact ht j o (by simpa using hjn) (by simpa using hj)
      · cases hj
end
theorem putAll_put {o : Oper} {os : List Oper} {v : Value} {vs : List Value} {a a' c : Act} (h1 : a.put o.dst v = a') (h2 : putAll os vs a' = c) : putAll (o :: os) (v :: vs) a = c := by
  rw [putAll, h1]
  exact h2
theorem putAll_nil (a : Act) : putAll [] [] a = a := rfl
end Go.Proofs.YtliofoikejdjeaaGreat
