/- The document's many, form, unlike, known. -/
import Derived.Test.YtliofoikejdjeaaNames
namespace Go.Proofs.Ytliofoikejdjeaa
open Go.RowKit Go.Proofs.YtliofoikejdjeaaW.PrintWords
set_option linter.unusedVariables false
set_option linter.unusedSimpArgs false
theorem putAll_put {o : Oper} {os : List Oper} {v : Value} {vs : List Value} {a a' c : Act} (h1 : a.put o.dst v = a') (h2 : putAll os vs a' = c) : putAll (o :: os) (v :: vs) a = c := by
  rw [putAll, h1]
  exact h2
theorem putAll_nil (a : Act) : putAll [] [] a = a := rfl
theorem all_of {α : Type} [Inhabited α] {xs : List α} {p : α → Bool} (h : ∀ j, j < xs.length → p (xs.getD j default) = true) : xs.all p = true := by
  rw [List.all_eq_true]
  intro x hx
  obtain ⟨j, hj, rfl⟩ := List.mem_iff_getElem.1 hx
  have := h j hj
  rwa [List.getD_eq_getElem?_getD, List.getElem?_eq_getElem hj] at this
theorem all_not {α : Type} [Inhabited α] {xs : List α} {p : α → Bool} {k : Nat} (hk : k < xs.length) (h : p (xs.getD k default) = false) : xs.all p = false := by
  rw [Bool.eq_false_iff]
  intro ha
  rw [List.all_eq_true] at ha
  have := ha xs[k] (List.getElem_mem hk)
  rw [List.getD_eq_getElem?_getD, List.getElem?_eq_getElem hk] at h
  simp at h
  rw [h] at this
  exact Bool.noConfusion this
theorem lt_snoc {α : Type} [Inhabited α] {P : Nat → Prop} {k : Nat} (h : ∀ j, j < k → P j) (hk : P k) : ∀ j, j < k + 1 → P j := fun j hj => by
  rcases Nat.lt_or_ge j k with h1 | h1
  · exact h j h1
  · obtain rfl : j = k := by omega
    exact hk
def manyB (g : Gm) : Bool := !g.rules.all shortR || (decide (120 < g.terms.length) || decide (120 < g.nons.length) || decide (300 < g.rules.length))
section
variable {w : World} {A0 A1 A2 : Option Addr} {c0 c1 c2 : Nat} {g : Gm}
set_option maxHeartbeats 2000000 in
theorem ref06_many (h : GmAt w A0 A1 A2 c0 c1 c2 g) : Calls Try.prog 40 #[.agg (gv A0 A1 A2 c0 c1 c2 g)] w fun e w' => e = .returned (.bool (manyB g)) ∧ Below w.heap.size w w' := by
  have h0 := h.m0
  have h1 := h.m1
  have h2 := h.m2
  have hb0 := below_alloc (Below.refl _ w) (.cells (gv A0 A1 A2 c0 c1 c2 g) 25)
  have hk0 := blk_new w (.cells (gv A0 A1 A2 c0 c1 c2 g) 25)
  have HR := Aside0.mk (Kd.C_below h.rules hb0)
  clear h
  unfold gv at *
  go_enter Try.func40, Try.ntmps40
  go_wp2
  generalize w.alloc (.cells #[.slice A0 g.terms.length c0, .slice A1 g.nons.length c1, .slice A2 g.rules.length c2, .int .i64 g.start] 25) = W0 at *
  have HB0 := Aside0.mk hb0
  obtain ⟨f0, f1, f2, f3⟩ := gcells hk0
  clear hb0 hk0
  go_loop [3] (fun i => ∃ k : Nat, k ≤ g.rules.length ∧ i = .int .i64 k ∧ Aside0 (∀ j, j < k → shortR (g.rules.getD j default) = true)) (fun i => g.rules.length - (intOf i).toNat)
  case atStart => exact ⟨0, Nat.zero_le _, rfl, ⟨fun j hj => absurd hj (Nat.not_lt_zero _)⟩⟩
  case round =>
    obtain ⟨k, hk, rfl, AF⟩ := hrel
    by_cases hlt : k < g.rules.length
    · have hltz : (k : Int) < (g.rules.length : Int) := by omega
      obtain ⟨ad, A, c, rfl, k1, k2, k3, k4⟩ := at_rl HR.out k hlt
      have k5 := Kd.C_max k4
      clear k4
      obtain ⟨y, hy⟩ : ∃ y, g.rules.getD k default = y := ⟨_, rfl⟩
      rw [hy] at k1 k2 k3 k5
      have HY := Aside0.mk hy
      clear hy
      by_cases hs : y.right.length ≤ 8
      · have hz : ¬ (8 : Int) < (y.right.length : Int) := by omega
        have HS := Aside0.mk hs
        clear hs
        go_wp2
        go_round
        case rel => exact ⟨k + 1, by omega, by go_num, ⟨lt_snoc (α := Nat) AF.out (by rw [HY.out]; exact decide_eq_true HS.out)⟩⟩
        case measure => simp [intOf]; omega
      · have hz : (8 : Int) < (y.right.length : Int) := by omega
        have HS := Aside0.mk hs
        clear hs
        go_wp2
        go_ret
        refine ⟨rbool ?_, HB0.out⟩
        unfold manyB
        rw [all_not hlt (by rw [HY.out]; exact decide_eq_false HS.out)]
        rfl
    · have hltz : ¬ (k : Int) < (g.rules.length : Int) := by omega
      obtain rfl : k = g.rules.length := by omega
      have HM : Aside0 (manyB g = (decide (120 < g.terms.length) || decide (120 < g.nons.length) || decide (300 < g.rules.length))) := ⟨by unfold manyB; rw [all_of AF.out]; rfl⟩
      by_cases b0 : (120 : Int) < (g.terms.length : Int)
      · go_wp2
        go_ret
        exact ⟨rbool (by rw [HM.out, decide_eq_true (by omega : 120 < g.terms.length)]; rfl), HB0.out⟩
      · by_cases b1 : (120 : Int) < (g.nons.length : Int)
        · go_wp2
          go_ret
          exact ⟨rbool (by rw [HM.out, decide_eq_true (by omega : 120 < g.nons.length)]; simp), HB0.out⟩
        · go_wp2
          go_ret
          refine ⟨rbool ?_, HB0.out⟩
          rw [HM.out, decide_eq_false (by omega : ¬ 120 < g.terms.length), decide_eq_false (by omega : ¬ 120 < g.nons.length)]
          simp
          omega
set_option maxHeartbeats 2000000 in
theorem ref06_form (h : GmAt w A0 A1 A2 c0 c1 c2 g) (hsz : ∀ s ∈ g.names, s.size ≤ 140737488351232) :
    Calls Try.prog 41 #[.agg (gv A0 A1 A2 c0 c1 c2 g)] w fun e w' => e = .returned (.bool (g.terms.all termOk && g.nons.all plainOk)) ∧ Below w.heap.size w w' := by
  have h0 := h.m0
  have h1 := h.m1
  have h2 := h.m2
  have hb0 := below_alloc (Below.refl _ w) (.cells (gv A0 A1 A2 c0 c1 c2 g) 25)
  have HK := Aside0.mk (blk_new w (.cells (gv A0 A1 A2 c0 c1 c2 g) 25))
  have HT := Aside0.mk h.terms
  have HN := Aside0.mk h.nons
  have ZT : Aside0 (∀ s ∈ g.terms, s.size ≤ 140737488351232) := ⟨fun s hs => hsz s (List.mem_append_left _ hs)⟩
  have ZN : Aside0 (∀ s ∈ g.nons, s.size ≤ 140737488351232) := ⟨fun s hs => hsz s (List.mem_append_right _ hs)⟩
  clear h hsz
  unfold gv at *
  go_enter Try.func41, Try.ntmps41
  go_wp2
  generalize w.alloc (.cells #[.slice A0 g.terms.length c0, .slice A1 g.nons.length c1, .slice A2 g.rules.length c2, .int .i64 g.start] 25) = W0 at *
  have HB0 := Aside0.mk hb0
  have hlt0 := blk_lt HK.out
  clear hb0
  go_loopw [3] (fun i wr => ∃ k : Nat, k ≤ g.terms.length ∧ i = .int .i64 k ∧ w.heap.size < wr.heap.size ∧ Aside0 (Below W0.heap.size W0 wr) ∧ Aside0 (∀ j, j < k → termOk (g.terms.getD j default) = true)) (fun i _ => g.terms.length - (intOf i).toNat)
  case atStart => exact ⟨0, Nat.zero_le _, rfl, hlt0, ⟨Below.refl _ _⟩, ⟨fun j hj => absurd hj (Nat.not_lt_zero _)⟩⟩
  case round =>
    obtain ⟨k, hk, rfl, hlt1, HB, AF⟩ := hrel
    obtain ⟨f0, f1, f2, f3⟩ := gcells (blk_below HK.out HB.out)
    by_cases hlt : k < g.terms.length
    · have hltz : (k : Int) < (g.terms.length : Int) := by omega
      obtain ⟨ad, rfl, l2⟩ := at_str (Kd.C_below HT.out (HB0.out.trans (HB.out.mono HB0.out.size))) k hlt
      have hys : (g.terms.getD k default).size ≤ 140737488351232 := ZT.out _ (getD_mem hlt)
      have hlb := World.block_lt_of_cell? _ _ l2
      obtain ⟨y, hy⟩ : ∃ y, g.terms.getD k default = y := ⟨_, rfl⟩
      rw [hy] at l2 hys
      have HY := Aside0.mk hy
      clear hy
      have KP := Aside0.mk (fun W => ref06_plain y hys W)
      have KQ := Aside0.mk (fun W => ref05_Quoted y hys W)
      obtain ⟨t, ht⟩ : ∃ t, termOk y = t := ⟨_, rfl⟩
      have ht' := ht
      unfold termOk at ht'
      obtain ⟨p, hp⟩ : ∃ p, plainOk y = p := ⟨_, rfl⟩
      rw [hp] at KP ht'
      clear hp
      obtain ⟨q, hq⟩ : ∃ q, isQuoted y = q := ⟨_, rfl⟩
      rw [hq] at KQ ht'
      clear hq hys
      have HTK := Aside0.mk ht
      clear ht
      subst ht'
      cases p with
      | true =>
        go_wp2_with (go_at_call 63; refine (KP.out _).mono ?_; rintro e w1 ⟨rfl, hb1⟩)
        go_roundw
        case rel =>
          have h3 := hb1.size
          exact ⟨k + 1, by omega, by go_num, by omega, ⟨HB.out.trans (hb1.mono HB.out.size)⟩, ⟨lt_snoc (α := Nat) AF.out (by rw [HY.out]; exact HTK.out)⟩⟩
        case measure => simp [intOf]; omega
      | false =>
        cases q with
        | true =>
          go_wp2_with (first | (go_at_call 63; refine (KP.out _).mono ?_; rintro e w1 ⟨rfl, hb1⟩; have g0 := (hb1.cell (p := ⟨w.heap.size, 0, none⟩) hlt1).trans f0; have g1 := (hb1.cell (p := ad.add k) hlb).trans l2) | (go_at_call 64; refine (KQ.out _).mono ?_; rintro e w2 ⟨rfl, hb2⟩))
          go_roundw
          case rel =>
            have h3 := hb1.size
            have h4 := hb2.size
            have h5 := hb1.trans (hb2.mono hb1.size)
            exact ⟨k + 1, by omega, by go_num, by omega, ⟨HB.out.trans (h5.mono HB.out.size)⟩, ⟨lt_snoc (α := Nat) AF.out (by rw [HY.out]; exact HTK.out)⟩⟩
          case measure => simp [intOf]; omega
        | false =>
          go_wp2_with (first | (go_at_call 63; refine (KP.out _).mono ?_; rintro e w1 ⟨rfl, hb1⟩; have g0 := (hb1.cell (p := ⟨w.heap.size, 0, none⟩) hlt1).trans f0; have g1 := (hb1.cell (p := ad.add k) hlb).trans l2) | (go_at_call 64; refine (KQ.out _).mono ?_; rintro e w2 ⟨rfl, hb2⟩))
          go_ret
          have h5 := hb1.trans (hb2.mono hb1.size)
          have h6 := HB.out.trans (h5.mono HB.out.size)
          exact ⟨rbool (by rw [all_not hlt (by rw [HY.out]; exact HTK.out)]; rfl), HB0.out.trans (h6.mono HB0.out.size)⟩
    · have hltz : ¬ (k : Int) < (g.terms.length : Int) := by omega
      obtain rfl : k = g.terms.length := by omega
      have HTA := Aside0.mk (all_of AF.out)
      clear AF hlt hk
      go_wp2
      go_loopw [4] (fun i wr => ∃ k : Nat, k ≤ g.nons.length ∧ i = .int .i64 k ∧ w.heap.size < wr.heap.size ∧ Aside0 (Below W0.heap.size W0 wr) ∧ Aside0 (∀ j, j < k → plainOk (g.nons.getD j default) = true)) (fun i _ => g.nons.length - (intOf i).toNat)
      case atStart => exact ⟨0, Nat.zero_le _, rfl, hlt1, HB, ⟨fun j hj => absurd hj (Nat.not_lt_zero _)⟩⟩
      case round =>
        clear HB f0 f1 f2 f3 hlt1 hltz
        obtain ⟨k, hk, rfl, hlt1, HB, AF⟩ := hrel
        obtain ⟨f0, f1, f2, f3⟩ := gcells (blk_below HK.out HB.out)
        by_cases hlt : k < g.nons.length
        · have hltz : (k : Int) < (g.nons.length : Int) := by omega
          obtain ⟨ad, rfl, l2⟩ := at_str (Kd.C_below HN.out (HB0.out.trans (HB.out.mono HB0.out.size))) k hlt
          have hys : (g.nons.getD k default).size ≤ 140737488351232 := ZN.out _ (getD_mem hlt)
          obtain ⟨y, hy⟩ : ∃ y, g.nons.getD k default = y := ⟨_, rfl⟩
          rw [hy] at l2 hys
          have HY := Aside0.mk hy
          clear hy
          have KP := Aside0.mk (fun W => ref06_plain y hys W)
          obtain ⟨p, hp⟩ : ∃ p, plainOk y = p := ⟨_, rfl⟩
          rw [hp] at KP
          have HP := Aside0.mk hp
          clear hp hys
          cases p with
          | true =>
            go_wp2_with (go_at_call 63; refine (KP.out _).mono ?_; rintro e w1 ⟨rfl, hb1⟩)
            go_roundw
            case rel =>
              have h3 := hb1.size
              exact ⟨k + 1, by omega, by go_num, by omega, ⟨HB.out.trans (hb1.mono HB.out.size)⟩, ⟨lt_snoc (α := Nat) AF.out (by rw [HY.out]; exact HP.out)⟩⟩
            case measure => simp [intOf]; omega
          | false =>
            go_wp2_with (go_at_call 63; refine (KP.out _).mono ?_; rintro e w1 ⟨rfl, hb1⟩)
            go_ret
            have h6 := HB.out.trans (hb1.mono HB.out.size)
            exact ⟨rbool (by rw [HTA.out, all_not hlt (by rw [HY.out]; exact HP.out)]; rfl), HB0.out.trans (h6.mono HB0.out.size)⟩
        · have hltz : ¬ (k : Int) < (g.nons.length : Int) := by omega
          obtain rfl : k = g.nons.length := by omega
          go_wp2
          go_ret
          exact ⟨rbool (by rw [HTA.out, all_of AF.out]; rfl), HB0.out.trans (HB.out.mono HB0.out.size)⟩
end
end Go.Proofs.Ytliofoikejdjeaa
