/- char.Name by way of each; the document's Name; gtok's bytes. -/
import Derived.Test.YtliofoikejdjeaaChar
namespace Go.Proofs.Ytliofoikejdjeaa
open Go.RowKit Go.Proofs.YtliofoikejdjeaaW.PrintWords
set_option linter.unusedVariables false
set_option linter.unusedSimpArgs false
theorem toList_nil {s : ByteArray} (h : s.size = 0) : s.toList = [] := by
  rw [ByteArray.toList_eq]
  exact List.eq_nil_of_length_eq_zero (by rw [data_length]; exact h)
theorem toList_ne {s : ByteArray} (h : ¬ s.size = 0) : s.toList ≠ [] := by
  rw [ByteArray.toList_eq]
  intro h'
  apply h
  rw [← data_length, h']
  rfl
/-- A function value of a place and a byte. -/
def PredIC (w : World) (fv : Value) (p : Nat → UInt8 → Bool) : Prop :=
  ∃ g lb, fv = .func (.func g) #[] lb ∧ (∀ args W, (callFunc g args).run Try.prog W = .ok (.enter g args) W) ∧
    ∀ W (i : Nat) (c : UInt8), i ≤ 140737488351232 → Below w.heap.size w W → Calls Try.prog g (#[.int .i64 i, .int .u8 c.toNat] ++ lb) W fun e w' => e = .returned (.bool (p i c)) ∧ Below W.heap.size W w'
def eachB (p : Nat → UInt8 → Bool) (s : ByteArray) : Bool := decide (∀ (i : Nat) (h : i < s.size), p i (s[i]'h) = true) && decide (0 < s.size)

set_option maxHeartbeats 1000000 in
theorem char_each (s : ByteArray) (hs : s.size ≤ 140737488351232) (ha : ∀ (i : Nat) (h : i < s.size), (s[i]'h).toNat < 128) (p : Nat → UInt8 → Bool) (fv : Value) (w : World) (hp : PredIC w fv p) :
    Calls Try.prog 71 #[.string s, fv] w fun e w' => e = .returned (.bool (eachB p s)) ∧ Below w.heap.size w w' := by
  obtain ⟨g, lb, rfl, eg, hp⟩ := hp
  go_enter Try.func71, Try.ntmps71
  go_wp2
  have HA := Aside0.mk ha
  clear ha
  obtain ⟨b, hb⟩ : ∃ b, b = w.heap.size := ⟨_, rfl⟩
  have HIT := Aside0.mk (World.iter_heap w s 0)
  have HB0 := Aside0.mk (below_alloc (Below.refl _ w) (.stringIter s 0))
  have hbs : b < (w.iter s 0).heap.size := by rw [hb]; simp [World.iter]
  rw [← hb] at HIT ⊢
  have HB := Aside0.mk hb
  clear hb
  change Aside0 (Below w.heap.size w (w.iter s 0)) at HB0
  generalize w.iter s 0 = W0 at *
  go_loopg [5] s.size (fun gg _ wr => ∃ k : Nat, k ≤ s.size ∧ s.size - k ≤ gg ∧ b < wr.heap.size ∧ Aside0 (wr.heap[b]? = some (.stringIter s k)) ∧ Aside0 (Below w.heap.size w wr) ∧ Aside0 (∀ (j : Nat) (h : j < s.size), j < k → p j (s[j]'h) = true))
  case atStart => exact ⟨0, Nat.zero_le _, by omega, hbs, HIT, HB0, ⟨fun j _ hj => absurd hj (Nat.not_lt_zero _)⟩⟩
  case round =>
    obtain ⟨k, hk, hg, hbl, IT, BW, AF⟩ := hrel
    clear HIT HB0 hbs
    by_cases hlt : k < s.size
    · have hn := fun ty => Lib.run_next_ascii_at (P := Try.prog) wr b s k ty IT.out hlt (HA.out k hlt)
      have IT1 := Aside0.mk (Lib.iterAt_heap wr b s k (k + 1) IT.out)
      have BW1 := Aside0.mk (Lib.below_iterAt BW.out (k := b) (by rw [HB.out]; exact Nat.le_refl _) s (k + 1))
      have hsz : b < (wr.iterAt b s (k + 1)).heap.size := by rw [Lib.iterAt_size]; exact hbl
      have hcall := hp (wr.iterAt b s (k + 1)) k (s[k]'hlt) (by omega) BW1.out
      clear hp IT
      have HN := Aside0.mk hn
      clear hn
      generalize wr.iterAt b s (k + 1) = w1 at *
      have hn := HN.out
      cases hq : p k (s[k]'hlt) with
      | true =>
        have HQ := Aside0.mk hq
        rw [hq] at hcall
        clear hq
        go_wp2_with (go_at_fn g; refine hcall.mono ?_; rintro e w' ⟨rfl, hb'⟩)
        go_roundg (s.size - (k + 1))
        case measure => omega
        case rel =>
          refine ⟨k + 1, by omega, by omega, Nat.lt_of_lt_of_le hsz hb'.size, ⟨(hb'.block b hsz).trans IT1.out⟩, ⟨BW1.out.trans (hb'.mono BW1.out.size)⟩, ⟨fun j h hj => ?_⟩⟩
          by_cases e : j = k
          · subst e
            exact HQ.out
          · exact AF.out j h (by omega)
      | false =>
        have HQ := Aside0.mk hq
        rw [hq] at hcall
        clear hq
        go_wp2_with (go_at_fn g; refine hcall.mono ?_; rintro e w' ⟨rfl, hb'⟩)
        go_ret
        refine ⟨rbool ?_, BW1.out.trans (hb'.mono BW1.out.size)⟩
        unfold eachB
        rw [decide_eq_false (fun h => by have := h k hlt; rw [HQ.out] at this; cases this)]
        rfl
    · have hn := fun ty => Lib.run_next_end_at (P := Try.prog) wr b s k ty IT.out hlt
      clear hp
      by_cases h0 : s.size = 0
      · have hs0 := toList_nil h0
        have H0 := Aside0.mk h0
        clear h0
        go_wp2
        go_ret
        refine ⟨rbool ?_, BW.out⟩
        simp [eachB, H0.out]
      · have hs0 := toList_ne h0
        have hs1 : (!s.toList.isEmpty) = true := by simpa using hs0
        have H0 := Aside0.mk h0
        clear h0
        go_wp2
        go_ret
        refine ⟨rbool ?_, BW.out⟩
        unfold eachB
        rw [decide_eq_true (fun i h => AF.out i h (by omega)), decide_eq_true (Nat.pos_of_ne_zero H0.out)]
        rfl
theorem name1 (W : World) (i : Nat) (hi : i ≤ 140737488351232) (c : UInt8) : Calls Try.prog 72 #[.int .i64 i, .int .u8 c.toNat] W fun e w' => e = .returned (.bool (decide (cls c.toNat = 4) || decide (cls c.toNat = 3) && decide (0 < i))) ∧ W = w' := by
  have hc := char_Class c W
  generalize cls c.toNat = k at *
  by_cases h4 : k = 4
  · subst h4
    go_enter Try.func72, Try.ntmps72
    go_wp2_with (go_at_call 73; refine hc.mono ?_; rintro e w' ⟨rfl, rfl⟩)
    go_ret
    exact ⟨by simp, rfl⟩
  · have b4 : (k == 4) = false := by simpa using h4
    have H4 := Aside0.mk h4
    clear h4
    by_cases h3 : k = 3
    · subst h3
      go_enter Try.func72, Try.ntmps72
      go_wp2_with (go_at_call 73; refine hc.mono ?_; rintro e w' ⟨rfl, rfl⟩)
      go_ret
      exact ⟨by simp, rfl⟩
    · have b3 : (k == 3) = false := by simpa using h3
      have H3 := Aside0.mk h3
      clear h3
      go_enter Try.func72, Try.ntmps72
      go_wp2_with (go_at_call 73; refine hc.mono ?_; rintro e w' ⟨rfl, rfl⟩)
      go_ret
      exact ⟨by simp [H4.out, H3.out], rfl⟩
theorem nameOk_each (s : ByteArray) (hs : s.size ≤ 140737488351232) : nameOk s = (decide (∀ (i : Nat) (h : i < s.size), (s[i]'h).toNat < 128) && eachB (fun i c => decide (cls c.toNat = 4) || decide (cls c.toNat = 3) && decide (0 < i)) s) := by
  rw [Bool.eq_iff_iff]
  simp only [nameOk, eachB, Bool.and_eq_true, decide_eq_true_eq, Bool.or_eq_true]
  constructor
  · rintro ⟨h0, h⟩
    refine ⟨fun i hi => ?_, h, h0⟩
    rcases Nat.lt_or_ge (s[i]'hi).toNat 128 with h1 | h1
    · exact h1
    · have := h i hi
      rw [cls_hi _ (by omega)] at this
      omega
  · rintro ⟨_, h, h0⟩
    exact ⟨h0, h⟩
theorem char_Name (s : ByteArray) (hs : s.size ≤ 140737488351232) (w : World) : Calls Try.prog 53 #[.string s] w fun e w' => e = .returned (.bool (nameOk s)) ∧ Below w.heap.size w w' := by
  have ha := char_ascii s hs w
  rw [nameOk_each s hs]
  by_cases h : ∀ (i : Nat) (h : i < s.size), (s[i]'h).toNat < 128
  · have he := fun W => char_each s hs h (fun i c => decide (cls c.toNat = 4) || decide (cls c.toNat = 3) && decide (0 < i)) (.func (.func 72) #[] #[]) W ⟨_, _, rfl, fun _ _ => rfl, fun W' i c hi hb => (name1 W' i hi c).mono fun e w' ⟨he, hw⟩ => ⟨he, hw ▸ Below.refl _ _⟩⟩
    rw [decide_eq_true h] at *
    have he := he w
    generalize eachB (fun i c => decide (cls c.toNat = 4) || decide (cls c.toNat = 3) && decide (0 < i)) s = b at *
    clear h
    go_enter Try.func53, Try.ntmps53
    go_wp2_with (first | (go_at_call 70; refine ha.mono ?_; rintro e w' ⟨rfl, rfl⟩) | (go_at_call 71; refine he.mono ?_; rintro e w' ⟨rfl, hb⟩))
    go_ret
    exact ⟨rfl, hb⟩
  · rw [decide_eq_false h] at *
    go_enter Try.func53, Try.ntmps53
    go_wp2_with (go_at_call 70; refine ha.mono ?_; rintro e w' ⟨rfl, rfl⟩)
    go_ret
    exact ⟨rfl, Below.refl _ _⟩
end Go.Proofs.Ytliofoikejdjeaa
