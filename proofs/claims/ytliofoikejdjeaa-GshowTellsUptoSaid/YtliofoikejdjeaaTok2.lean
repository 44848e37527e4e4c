/- gtok.Quoted; the document's quoted, Quoted, Name; plain names. -/
import Derived.Test.YtliofoikejdjeaaTok
namespace Go.Proofs.Ytliofoikejdjeaa
open Go.RowKit Go.Proofs.YtliofoikejdjeaaW.PrintWords
set_option linter.unusedVariables false
set_option linter.unusedSimpArgs false
def isQuoted (s : ByteArray) : Bool := decide (0 < s.size) && decide (byteN s 0 = 39) && decide ((quotedS s 0).2.1 = 0) && decide ((quotedS s 0).1 = s.size)
set_option maxHeartbeats 1000000 in
theorem gtok_Quoted (s : ByteArray) (hs : s.size ≤ 140737488351232) (w : World) :
    Calls Try.prog 26 #[.string s] w fun e w' => e = .returned (.bool (isQuoted s)) ∧ Below w.heap.size w w' := by
  by_cases h0 : s.size = 0
  · have hs0 := toList_nil h0
    have H0 := Aside0.mk h0
    clear h0
    go_enter Try.func26, Try.ntmps26
    go_wp2
    go_ret
    exact ⟨rbool (by simp [isQuoted, H0.out]), Below.refl _ _⟩
  · have hp : 0 < s.size := Nat.pos_of_ne_zero h0
    have hs0 := toList_ne h0
    have hs1 : s.toList.isEmpty = false := by simpa using hs0
    have hbn := byteN_at hp
    by_cases hq : byteN s 0 = 39
    · have hb : (((s[0]'hp).toNat : Int) != 39) = false := by rw [hbn, hq]; rfl
      have hc := gtok_quoted s hs 0 hp w
      have HP := Aside0.mk (And.intro hp hq)
      have hiq : isQuoted s = (decide ((quotedS s 0).2.1 = 0) && decide ((quotedS s 0).1 = s.size)) := by simp [isQuoted, hp, hq]
      rw [hiq]
      generalize quotedS s 0 = q at *
      clear hbn hq hiq h0
      obtain ⟨n, c, at_⟩ := q
      simp only at hc ⊢
      by_cases hz : c = 0
      · subst hz
        go_enter Try.func26, Try.ntmps26
        go_wp2_with (go_at_call 54; refine hc.mono ?_; rintro e w1 ⟨v, rfl, hv, hb1⟩; obtain rfl := hv.nil; clear hv)
        go_ret
        exact ⟨rbool (by rw [Bool.eq_iff_iff]; simp), hb1⟩
      · go_enter Try.func26, Try.ntmps26
        have HZ := Aside0.mk hz
        clear hz
        go_wp2_with (go_at_call 54; refine hc.mono ?_; rintro e w1 ⟨v, rfl, hv, hb1⟩; obtain ⟨b, rfl⟩ := hv.some_ HZ.out; clear hv)
        go_ret
        exact ⟨rbool (by simp [HZ.out]), hb1⟩
    · have hb : (((s[0]'hp).toNat : Int) != 39) = true := by rw [hbn]; simp; omega
      have HP := Aside0.mk (And.intro hp hq)
      clear hbn hq h0
      go_enter Try.func26, Try.ntmps26
      go_wp2
      go_ret
      exact ⟨rbool (by simp [isQuoted, HP.out.2]), Below.refl _ _⟩

set_option maxHeartbeats 4000000 in
theorem ref05_quoted (s : ByteArray) (hs : s.size ≤ 140737488351232) (a : Nat) (ha : a < s.size) (w : World) :
    Calls Try.prog 82 #[.string s, .int .i64 a] w fun e w' => e = .returned (.tuple #[.int .i64 (quotedS s a).1, .agg #[.int .i64 (quotedS s a).2.1, .int .i64 (quotedS s a).2.2]]) ∧ Below w.heap.size w w' := by
  have hle := spanS_le insideB s (a + 1) (by omega)
  have hcell : ∀ W : World, (W.alloc (.cells #[.int .i64 0, .int .i64 0] 82)).heap[W.heap.size]? = some (.cells #[.int .i64 0, .int .i64 0] 82 (0, 0)) := fun W => heap_alloc_new _ _
  go_enter Try.func82, Try.ntmps82
  go_wp2
  go_loop [6] (fun v => ∃ k : Nat, a + 1 + k ≤ s.size ∧ v = .int .i64 ((1 : Int) + k) ∧ Aside0 (∀ (j : Nat) (h : a + 1 + j < s.size), j < k → insideB (s[a + 1 + j]'h) = true)) (fun v => s.size + 1 - (intOf v).toNat)
  case atStart => exact ⟨0, by omega, rfl, ⟨fun j _ hj => absurd hj (Nat.not_lt_zero _)⟩⟩
  case round =>
    obtain ⟨k, hk, rfl, AF⟩ := hrel
    by_cases hlt : a + (1 + k) < s.size
    · have hlt' : a + 1 + k < s.size := by omega
      have hltz : (a : Int) + (1 + (k : Int)) < (s.size : Int) := by omega
      have hin := fun W => ref05_inside (s[a + (1 + k)]'hlt) W
      cases hq : insideB (s[a + (1 + k)]'hlt) with
      | true =>
        have HQ : Aside0 (insideB (s[a + 1 + k]'hlt') = true) := ⟨by rw [← hq]; simp only [Nat.add_assoc]⟩
        rw [hq] at hin
        clear hq
        go_wp2_with (go_at_call 87; refine (hin _).mono ?_; rintro e w' ⟨rfl, rfl⟩)
        go_round
        case rel =>
          refine ⟨k + 1, by omega, by go_num, ⟨fun j h hj => ?_⟩⟩
          by_cases e : j = k
          · subst e
            exact HQ.out
          · exact AF.out j h (by omega)
        case measure => simp [intOf]; omega
      | false =>
        have HS : Aside0 (spanS insideB s (a + 1) = k) := ⟨spanS_eq hk AF.out (fun h => by rw [← hq]; simp only [Nat.add_assoc])⟩
        rw [hq] at hin
        clear hq
        have hbn := byteN_at hlt
        by_cases h2 : byteN s (a + (1 + k)) ≠ 39 ∨ k = 0
        · have HF : Aside0 (quotedS s a = (0, 2, (a : Int) + (1 + k))) := ⟨by unfold quotedS; simp only [HS.out]; rw [if_neg (by omega), if_pos h2]⟩
          by_cases h3 : byteN s (a + (1 + k)) = 39
          · obtain rfl : k = 0 := h2.resolve_left (by simp [h3])
            have h4 : (((s[a + 1]'hlt).toNat : Int) != 39) = false := by rw [show (s[a + 1]'hlt).toNat = byteN s (a + 1) from hbn, show byteN s (a + 1) = 39 from h3]; rfl
            clear hbn h2 h3
            go_wp2_with (go_at_call 87; refine (hin _).mono ?_; rintro e w' ⟨rfl, rfl⟩)
            refine bodyPost_ret (v := .tuple #[.int .i64 0, .agg #[.int .i64 2, .int .i64 ((a : Int) + 1)]]) (by simp [results, Try.results82, go_sem]) rfl ⟨by rw [HF.out]; simp, ?_⟩
            exact below_alloc (Below.refl _ _) _
          · have h4 : (((s[a + (1 + k)]'hlt).toNat : Int) != 39) = true := by rw [hbn]; simp; omega
            clear hbn h2 h3
            go_wp2_with (go_at_call 87; refine (hin _).mono ?_; rintro e w' ⟨rfl, rfl⟩)
            refine bodyPost_ret (v := .tuple #[.int .i64 0, .agg #[.int .i64 2, .int .i64 ((a : Int) + (1 + k))]]) (by simp [results, Try.results82, go_sem]) rfl ⟨by rw [HF.out], ?_⟩
            exact below_alloc (Below.refl _ _) _
        · have h3 : byteN s (a + (1 + k)) = 39 := by omega
          have h5 : (1 + (k : Int) == 1) = false := by simp; omega
          have h4 : (((s[a + (1 + k)]'hlt).toNat : Int) != 39) = false := by rw [hbn, h3]; rfl
          by_cases h6 : 23 ≤ k
          · have HF : Aside0 (quotedS s a = (0, 5, (a : Int))) := ⟨by unfold quotedS; simp only [HS.out]; rw [if_neg (by omega), if_neg h2, if_pos h6]⟩
            clear hbn h2 h3
            go_wp2_with (go_at_call 87; refine (hin _).mono ?_; rintro e w' ⟨rfl, rfl⟩)
            refine bodyPost_ret (v := .tuple #[.int .i64 0, .agg #[.int .i64 5, .int .i64 (a : Int)]]) (by simp [results, Try.results82, go_sem]) rfl ⟨by rw [HF.out], ?_⟩
            exact below_alloc (Below.refl _ _) _
          · have HF : Aside0 (quotedS s a = (1 + (k : Int) + 1, 0, 0)) := ⟨by unfold quotedS; simp only [HS.out]; rw [if_neg (by omega), if_neg h2, if_neg h6]⟩
            clear hbn h2 h3
            go_wp2_with (go_at_call 87; refine (hin _).mono ?_; rintro e w' ⟨rfl, rfl⟩)
            refine bodyPost_ret (v := .tuple #[.int .i64 (1 + (k : Int) + 1), .agg #[.int .i64 0, .int .i64 0]]) (by simp [results, Try.results82, go_sem]) rfl ⟨by rw [HF.out], ?_⟩
            exact below_alloc (Below.refl _ _) _
    · have hltz : ¬ (a : Int) + (1 + (k : Int)) < (s.size : Int) := by omega
      have HS : Aside0 (spanS insideB s (a + 1) = k) := ⟨spanS_eq hk AF.out (fun h => absurd h (by omega))⟩
      have HF : Aside0 (quotedS s a = (0, 4, (s.size : Int))) := ⟨by unfold quotedS; simp only [HS.out]; rw [if_pos (by omega)]⟩
      go_wp2
      refine bodyPost_ret (v := .tuple #[.int .i64 0, .agg #[.int .i64 4, .int .i64 (s.size : Int)]]) (by simp [results, Try.results82, go_sem]) rfl ⟨by rw [HF.out], ?_⟩
      exact below_alloc (Below.refl _ _) _
set_option maxHeartbeats 1000000 in
theorem ref05_Quoted (s : ByteArray) (hs : s.size ≤ 140737488351232) (w : World) :
    Calls Try.prog 64 #[.string s] w fun e w' => e = .returned (.bool (isQuoted s)) ∧ Below w.heap.size w w' := by
  by_cases h0 : s.size = 0
  · have hs0 := toList_nil h0
    have H0 := Aside0.mk h0
    clear h0
    go_enter Try.func64, Try.ntmps64
    go_wp2
    go_ret
    exact ⟨rbool (by simp [isQuoted, H0.out]), Below.refl _ _⟩
  · have hp : 0 < s.size := Nat.pos_of_ne_zero h0
    have hs0 := toList_ne h0
    have hs1 : s.toList.isEmpty = false := by simpa using hs0
    have hbn := byteN_at hp
    by_cases hq : byteN s 0 = 39
    · have hb : (((s[0]'hp).toNat : Int) != 39) = false := by rw [hbn, hq]; rfl
      have hc := ref05_quoted s hs 0 hp w
      have hiq : isQuoted s = (decide ((quotedS s 0).2.1 = 0) && decide ((quotedS s 0).1 = s.size)) := by simp [isQuoted, hp, hq]
      rw [hiq]
      generalize quotedS s 0 = q at *
      clear hbn hq hiq h0
      obtain ⟨n, c, at_⟩ := q
      simp only at hc ⊢
      by_cases hz : c = 0
      · subst hz
        go_enter Try.func64, Try.ntmps64
        go_wp2_with (go_at_call 82; refine hc.mono ?_; rintro e w1 ⟨rfl, hb1⟩)
        go_ret
        exact ⟨rbool (by rw [Bool.eq_iff_iff]; simp), hb1.alloc hb1.size _⟩
      · have hz1 : (c == 0) = false := by simpa using hz
        have HZ := Aside0.mk hz
        clear hz
        go_enter Try.func64, Try.ntmps64
        go_wp2_with (go_at_call 82; refine hc.mono ?_; rintro e w1 ⟨rfl, hb1⟩)
        go_ret
        exact ⟨rbool (by simp [HZ.out]), hb1.alloc hb1.size _⟩
    · have hb : (((s[0]'hp).toNat : Int) != 39) = true := by rw [hbn]; simp; omega
      have HP := Aside0.mk (And.intro hp hq)
      clear hbn hq h0
      go_enter Try.func64, Try.ntmps64
      go_wp2
      go_ret
      exact ⟨rbool (by simp [isQuoted, HP.out.2]), Below.refl _ _⟩
set_option maxHeartbeats 1000000 in
theorem ref01_Name (s : ByteArray) (hs : s.size ≤ 140737488351232) (w : World) : Calls Try.prog 81 #[.string s] w fun e w' => e = .returned (.bool (nameOk s)) ∧ w' = w := by
  go_enter Try.func81, Try.ntmps81
  go_wp2
  go_loop [3, 4] (fun i _ => ∃ k : Nat, k ≤ s.size ∧ i = .int .i64 k ∧ Aside0 (∀ (j : Nat) (h : j < s.size), j < k → cls (s[j]'h).toNat = 4 ∨ cls (s[j]'h).toNat = 3 ∧ 0 < j)) (fun i _ => s.size - (intOf i).toNat)
  case atStart => exact ⟨0, by omega, rfl, ⟨fun j _ hj => absurd hj (Nat.not_lt_zero _)⟩⟩
  case round =>
    obtain ⟨k, hk, rfl, AF⟩ := hrel
    by_cases hlt : k < s.size
    · have hc := ref01_Class (s[k]'hlt)
      obtain ⟨q, hq⟩ : ∃ q, cls (s[k]'hlt).toNat = q := ⟨_, rfl⟩
      rw [hq] at hc
      have HQ := Aside0.mk hq
      clear hq
      by_cases hok : q = 4 ∨ q = 3 ∧ 0 < k
      · have HOK := Aside0.mk hok
        have hend : Aside0 (∀ (j : Nat) (h : j < s.size), j < k + 1 → cls (s[j]'h).toNat = 4 ∨ cls (s[j]'h).toNat = 3 ∧ 0 < j) := ⟨fun j h hj => by
          by_cases e : j = k
          · subst e
            rw [HQ.out]
            exact HOK.out
          · exact AF.out j h (by omega)⟩
        by_cases h4 : q = 4
        · subst h4
          go_wp2_with (go_at_call 86; refine (hc _).mono ?_; rintro e w' ⟨rfl, rfl⟩)
          go_round
          case rel => exact ⟨k + 1, by omega, by go_num, hend⟩
          case measure => simp [intOf]; omega
        · obtain ⟨rfl, hk0⟩ := hok.resolve_left h4
          have hk1 : ((k : Int) == 0) = false := by simp; omega
          clear h4
          go_wp2_with (go_at_call 86; refine (hc _).mono ?_; rintro e w' ⟨rfl, rfl⟩)
          go_round
          case rel => exact ⟨k + 1, by omega, by go_num, hend⟩
          case measure => simp [intOf]; omega
      · have hF : Aside0 (nameOk s = false) := ⟨by
          unfold nameOk
          rw [Bool.and_eq_false_iff]
          refine .inr (decide_eq_false fun h => hok ?_)
          rw [← HQ.out]
          exact h k hlt⟩
        have h4 : (q != 4) = true := by simp; omega
        by_cases h3 : q = 3
        · subst h3
          obtain rfl : k = 0 := by omega
          clear hok h4
          go_wp2_with (go_at_call 86; refine (hc _).mono ?_; rintro e w' ⟨rfl, rfl⟩)
          go_ret
          exact ⟨rbool hF.out.symm, rfl⟩
        · have h3' : (q != 3) = true := by simp; omega
          clear hok h3
          go_wp2_with (go_at_call 86; refine (hc _).mono ?_; rintro e w' ⟨rfl, rfl⟩)
          go_ret
          exact ⟨rbool hF.out.symm, rfl⟩
    · go_wp2
      go_ret
      refine ⟨rbool ?_, rfl⟩
      unfold nameOk
      rw [decide_eq_true (p := ∀ (i : Nat) (h : i < s.size), _) (fun i h => AF.out i h (by omega))]
      simp
/-- A nonterminal's name. -/
def plainOk (s : ByteArray) : Bool := decide (s.size ≤ 24) && nameOk s
theorem gram_plain (s : ByteArray) (hs : s.size ≤ 140737488351232) (w : World) : Calls Try.prog 25 #[.string s] w fun e w' => e = .returned (.bool (plainOk s)) ∧ Below w.heap.size w w' := by
  have hn := char_Name s hs w
  by_cases h : (s.size : Int) ≤ 24
  · go_enter Try.func25, Try.ntmps25
    go_wp2_with (go_at_call 53; refine hn.mono ?_; rintro e w1 ⟨rfl, hb1⟩)
    go_ret
    exact ⟨rbool (by simp [plainOk]; omega), hb1⟩
  · clear hn
    go_enter Try.func25, Try.ntmps25
    go_wp2
    go_ret
    exact ⟨rbool (by simp [plainOk]; omega), Below.refl _ _⟩
theorem ref06_plain (s : ByteArray) (hs : s.size ≤ 140737488351232) (w : World) : Calls Try.prog 63 #[.string s] w fun e w' => e = .returned (.bool (plainOk s)) ∧ Below w.heap.size w w' := by
  have hn := ref01_Name s hs w
  rw [show plainOk s = (nameOk s && decide ((s.size : Int) ≤ 24)) by rw [plainOk, Bool.and_comm]; congr 1; simp; omega]
  generalize nameOk s = b at *
  cases b with
  | true =>
    go_enter Try.func63, Try.ntmps63
    go_wp2_with (go_at_call 81; refine hn.mono ?_; rintro e w1 ⟨rfl, rfl⟩)
    go_ret
    exact ⟨rbool (by simp), Below.refl _ _⟩
  | false =>
    go_enter Try.func63, Try.ntmps63
    go_wp2_with (go_at_call 81; refine hn.mono ?_; rintro e w1 ⟨rfl, rfl⟩)
    go_ret
    exact ⟨rbool (by simp), Below.refl _ _⟩
end Go.Proofs.Ytliofoikejdjeaa
