/- gtok's Quoted, the document's Quoted. -/
import Derived.Test.YtliofoikejdjeaaChar2
namespace Go.Proofs.Ytliofoikejdjeaa
open Go.RowKit Go.Proofs.YtliofoikejdjeaaW.PrintWords
set_option linter.unusedVariables false
set_option linter.unusedSimpArgs false
def Vu8 (_ : World) (x : UInt8) (v : Value) : Prop := v = .int .u8 x.toNat
/-- How many bytes from a place on are so. -/
def spanS (p : UInt8 → Bool) (s : ByteArray) (i : Nat) : Nat := ((s.data.toList.drop i).takeWhile p).length
theorem spanS_eq {p : UInt8 → Bool} {s : ByteArray} {i n : Nat} (hl : i + n ≤ s.size) (h1 : ∀ (j : Nat) (h : i + j < s.size), j < n → p (s[i + j]'h) = true) (h2 : ∀ h : i + n < s.size, p (s[i + n]'h) = false) : spanS p s i = n := by
  unfold spanS
  have hlen := data_length s
  induction n generalizing i with
  | zero =>
    by_cases h : i < s.size
    · rw [List.drop_eq_getElem_cons (by omega), List.takeWhile_cons]
      have := h2 (by omega)
      simp only [Nat.add_zero] at this
      rw [show s.data.toList[i]'(by omega) = s[i]'h from rfl, this]
      rfl
    · rw [List.drop_eq_nil_of_le (by omega)]
      rfl
  | succ n ih =>
    have h : i < s.size := by omega
    rw [List.drop_eq_getElem_cons (by omega), List.takeWhile_cons]
    have := h1 0 (by omega) (by omega)
    simp only [Nat.add_zero] at this
    rw [show s.data.toList[i]'(by omega) = s[i]'h from rfl, this]
    simp only [if_true, List.length_cons]
    rw [ih (by omega) (fun j hj hjn => ?_) (fun hh => ?_)]
    · have := h1 (j + 1) (by omega) (by omega)
      simpa [Nat.add_assoc, Nat.add_comm 1 j] using this
    · have := h2 (by omega)
      simpa [Nat.add_assoc, Nat.add_comm 1 n] using this
theorem spanS_le (p : UInt8 → Bool) (s : ByteArray) (i : Nat) (hi : i ≤ s.size) : i + spanS p s i ≤ s.size := by
  unfold spanS
  have := (List.takeWhile_sublist p (l := s.data.toList.drop i)).length_le
  rw [List.length_drop, data_length] at this
  omega
def insideB (c : UInt8) : Bool := decide (32 < c.toNat ∧ c.toNat ≤ 126) && decide (c.toNat ≠ 39)

set_option maxHeartbeats 1000000 in
theorem gtok_span (s : ByteArray) (hs : s.size ≤ 140737488351232) (a : Nat) (ha : a ≤ s.size) (p : UInt8 → Bool) (fv : Value) (w : World) (hp : PredV w fv Vu8 p) :
    Calls Try.prog 74 #[.string s, .int .i64 a, fv] w fun e w' => e = .returned (.int .i64 (spanS p s a)) ∧ Below w.heap.size w w' := by
  obtain ⟨g, lb, rfl, eg, hp⟩ := hp
  go_enter Try.func74, Try.ntmps74
  go_wp2
  go_loopg [7] s.size (fun gg v7 wr => ∃ k : Nat, a + k ≤ s.size ∧ s.size - (a + k) ≤ gg ∧ v7 = .int .i64 k ∧ Aside0 (Below w.heap.size w wr) ∧ Aside0 (∀ (j : Nat) (h : a + j < s.size), j < k → p (s[a + j]'h) = true))
  case atStart => exact ⟨0, by omega, by omega, rfl, ⟨Below.refl _ _⟩, ⟨fun j _ hj => absurd hj (Nat.not_lt_zero _)⟩⟩
  case round =>
    obtain ⟨k, hk, hg, rfl, BW, AF⟩ := hrel
    by_cases hlt : a + k < s.size
    · have hltz : (a : Int) + (k : Int) < (s.size : Int) := by omega
      have hcall := hp wr (s[a + k]'hlt) _ BW.out rfl
      clear hp
      cases hq : p (s[a + k]'hlt) with
      | true =>
        have HQ := Aside0.mk hq
        rw [hq] at hcall
        clear hq
        go_wp2_with (go_at_fn g; refine hcall.mono ?_; rintro e w' ⟨rfl, hb'⟩)
        go_roundg (s.size - (a + (k + 1)))
        case measure => omega
        case rel =>
          refine ⟨k + 1, by omega, by omega, by go_num, ⟨BW.out.trans (hb'.mono BW.out.size)⟩, ⟨fun j h hj => ?_⟩⟩
          by_cases e : j = k
          · subst e
            exact HQ.out
          · exact AF.out j h (by omega)
      | false =>
        have HQ := Aside0.mk hq
        rw [hq] at hcall
        clear hq
        go_wp2_with (go_at_fn g; refine hcall.mono ?_; rintro e w' ⟨rfl, hb'⟩)
        go_ret
        exact ⟨rint (congrArg Int.ofNat (spanS_eq (by omega) AF.out (fun _ => HQ.out))).symm, BW.out.trans (hb'.mono BW.out.size)⟩
    · have hltz : ¬ (a : Int) + (k : Int) < (s.size : Int) := by omega
      clear hp
      go_wp2
      go_ret
      exact ⟨rint (congrArg Int.ofNat (spanS_eq (by omega) AF.out (fun h => absurd h hlt))).symm, BW.out⟩

theorem gtok_inside (c : UInt8) (w : World) : Calls Try.prog 75 #[.int .u8 c.toNat] w fun e w' => e = .returned (.bool (insideB c)) ∧ w' = w := by
  have hc : (c.toNat : Int) ≤ 255 := by have := c.toNat_lt; omega
  by_cases h1 : (32 : Int) < c.toNat
  · by_cases h2 : (c.toNat : Int) ≤ 126
    · go_enter Try.func75, Try.ntmps75
      go_wp2
      go_ret
      exact ⟨rbool (by rw [Bool.eq_iff_iff]; simp [insideB]; omega), rfl⟩
    · go_enter Try.func75, Try.ntmps75
      go_wp2
      go_ret
      exact ⟨rbool (by simp [insideB]; omega), rfl⟩
  · go_enter Try.func75, Try.ntmps75
    go_wp2
    go_ret
    exact ⟨rbool (by simp [insideB]; omega), rfl⟩
theorem ref05_inside (c : UInt8) (w : World) : Calls Try.prog 87 #[.int .u8 c.toNat] w fun e w' => e = .returned (.bool (insideB c)) ∧ w' = w := by
  have hc : (c.toNat : Int) ≤ 255 := by have := c.toNat_lt; omega
  by_cases h1 : (33 : Int) ≤ c.toNat
  · by_cases h2 : (c.toNat : Int) ≤ 126
    · go_enter Try.func87, Try.ntmps87
      go_wp2
      go_ret
      exact ⟨rbool (by rw [Bool.eq_iff_iff]; simp [insideB]; omega), rfl⟩
    · go_enter Try.func87, Try.ntmps87
      go_wp2
      go_ret
      exact ⟨rbool (by simp [insideB]; omega), rfl⟩
  · go_enter Try.func87, Try.ntmps87
    go_wp2
    go_ret
    exact ⟨rbool (by simp [insideB]; omega), rfl⟩
/-- A byte, as a number; 0 behind the end. -/
def byteN (s : ByteArray) (i : Nat) : Nat := if h : i < s.size then (s[i]'h).toNat else 0
theorem byteN_at {s : ByteArray} {i : Nat} (h : i < s.size) : (s[i]'h).toNat = byteN s i := by simp [byteN, h]
/-- What is quoted from a place on: how many bytes; or an error's number (0: none), and its place. -/
def quotedS (s : ByteArray) (a : Nat) : Int × Int × Int :=
  let m := spanS insideB s (a + 1)
  if s.size ≤ a + (1 + m) then (0, 4, s.size) else if byteN s (a + (1 + m)) ≠ 39 ∨ m = 0 then (0, 2, a + (1 + m)) else if 23 ≤ m then (0, 5, a) else (1 + m + 1, 0, 0)
/-- An error of fault.New's make, or nil. -/
def ErrIs (w : World) (v : Value) (code at_ : Int) : Prop :=
  (code = 0 ∧ v = .nilIface) ∨ (code ≠ 0 ∧ ∃ b, v = .iface 85 (.pointer (some ⟨b, 0, none⟩)) ∧ w.heap[b]? = some (.cells #[.int .i64 code, .int .i64 at_] 87 (0, 0)))
theorem ErrIs.below {w w1 : World} {v : Value} {code at_ : Int} (h : ErrIs w v code at_) (hb : Below w.heap.size w w1) : ErrIs w1 v code at_ := by
  rcases h with h | ⟨h0, b, e, hc⟩
  · exact .inl h
  · exact .inr ⟨h0, b, e, blk_below hc hb⟩
theorem ErrIs.nil {w : World} {v : Value} {a : Int} (h : ErrIs w v 0 a) : v = .nilIface := by
  rcases h with h | h
  · exact h.2
  · exact absurd rfl h.1
theorem ErrIs.some_ {w : World} {v : Value} {c a : Int} (h : ErrIs w v c a) (hc : c ≠ 0) : ∃ b, v = .iface 85 (.pointer (some ⟨b, 0, none⟩)) := by
  rcases h with h | ⟨_, b, h, _⟩
  · exact absurd h.1 hc
  · exact ⟨b, h⟩
theorem fault_New (e at_ : Int) (w : World) (he : (e == 0) = false) : Calls Try.prog 76 #[.int .i64 e, .int .i64 at_] w fun ev w' => ∃ v, ev = .returned v ∧ ErrIs w' v e at_ ∧ Below w.heap.size w w' := by
  have H := Aside0.mk he
  go_enter Try.func76, Try.ntmps76
  go_wp2
  go_ret
  exact ⟨_, rfl, .inr ⟨by simpa using H.out, _, rfl, heap_alloc_new _ _⟩, below_alloc (Below.refl _ _) _⟩
set_option maxHeartbeats 1000000 in
theorem gtok_quoted (s : ByteArray) (hs : s.size ≤ 140737488351232) (a : Nat) (ha : a < s.size) (w : World) :
    Calls Try.prog 54 #[.string s, .int .i64 a] w fun e w' => ∃ v, e = .returned (.tuple #[.int .i64 (quotedS s a).1, v]) ∧ ErrIs w' v (quotedS s a).2.1 (quotedS s a).2.2 ∧ Below w.heap.size w w' := by
  have hsp := gtok_span s hs (a + 1) (by omega) insideB (.func (.func 75) #[] #[]) w ⟨_, _, rfl, fun _ _ => rfl, fun W x v _ hv => by
    obtain rfl : v = .int .u8 x.toNat := hv
    exact (gtok_inside x W).mono fun e w' ⟨he, hw⟩ => ⟨he, hw ▸ Below.refl _ _⟩⟩
  have hle := spanS_le insideB s (a + 1) (by omega)
  rw [show (((a + 1 : Nat) : Int)) = (a : Int) + 1 from by omega] at hsp
  unfold quotedS
  generalize spanS insideB s (a + 1) = m at *
  by_cases h1 : s.size ≤ a + (1 + m)
  · simp only [if_pos h1]
    go_enter Try.func54, Try.ntmps54
    go_wp2_with (first | (go_at_call 74; refine hsp.mono ?_; rintro e w' ⟨rfl, hb⟩) | (go_at_call 76; refine (fault_New _ _ _ (by decide)).mono ?_; rintro e w1 ⟨v, rfl, hv, hb1⟩))
    go_ret2
    exact ⟨_, rfl, hv, hb.trans (hb1.mono hb.size)⟩
  · simp only [if_neg h1]
    have hlt : a + (1 + m) < s.size := by omega
    have hbn := byteN_at hlt
    by_cases h2 : byteN s (a + (1 + m)) ≠ 39 ∨ m = 0
    · simp only [if_pos h2]
      have HB := Aside0.mk hbn
      by_cases h3 : byteN s (a + (1 + m)) = 39
      · obtain rfl : m = 0 := h2.resolve_left (by simp [h3])
        have h4 : (((s[a + 1]'hlt).toNat : Int) != 39) = false := by rw [show (s[a + 1]'hlt).toNat = byteN s (a + 1) from hbn, show byteN s (a + 1) = 39 from h3]; rfl
        clear hbn h2 h3
        go_enter Try.func54, Try.ntmps54
        go_wp2_with (first | (go_at_call 74; refine hsp.mono ?_; rintro e w' ⟨rfl, hb⟩) | (go_at_call 76; refine (fault_New _ _ _ (by decide)).mono ?_; rintro e w1 ⟨v, rfl, hv, hb1⟩))
        go_ret2
        exact ⟨_, rfl, hv, hb.trans (hb1.mono hb.size)⟩
      · have h4 : (((s[a + (1 + m)]'hlt).toNat : Int) != 39) = true := by rw [hbn]; simp; omega
        clear hbn h2 h3
        go_enter Try.func54, Try.ntmps54
        go_wp2_with (first | (go_at_call 74; refine hsp.mono ?_; rintro e w' ⟨rfl, hb⟩) | (go_at_call 76; refine (fault_New _ _ _ (by decide)).mono ?_; rintro e w1 ⟨v, rfl, hv, hb1⟩))
        go_ret2
        exact ⟨_, rfl, hv, hb.trans (hb1.mono hb.size)⟩
    · simp only [if_neg h2]
      have h3 : byteN s (a + (1 + m)) = 39 := by omega
      have h5 : (1 + (m : Int) == 1) = false := by simp; omega
      have h4 : (((s[a + (1 + m)]'hlt).toNat : Int) != 39) = false := by rw [hbn, h3]; rfl
      clear hbn h2 h3
      by_cases h6 : 23 ≤ m
      · simp only [if_pos h6]
        go_enter Try.func54, Try.ntmps54
        go_wp2_with (first | (go_at_call 74; refine hsp.mono ?_; rintro e w' ⟨rfl, hb⟩) | (go_at_call 76; refine (fault_New _ _ _ (by decide)).mono ?_; rintro e w1 ⟨v, rfl, hv, hb1⟩))
        go_ret2
        exact ⟨_, rfl, hv, hb.trans (hb1.mono hb.size)⟩
      · simp only [if_neg h6]
        go_enter Try.func54, Try.ntmps54
        go_wp2_with (go_at_call 74; refine hsp.mono ?_; rintro e w' ⟨rfl, hb⟩)
        go_ret2
        exact ⟨_, rfl, .inl ⟨rfl, rfl⟩, hb⟩
end Go.Proofs.Ytliofoikejdjeaa
