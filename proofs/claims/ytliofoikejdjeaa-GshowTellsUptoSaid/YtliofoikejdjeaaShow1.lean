/- blanks, right sides, rules: the program's and the document's. -/
import Derived.Test.YtliofoikejdjeaaBld
import Derived.Test.YtliofoikejdjeaaRefB
namespace Go.Proofs.Ytliofoikejdjeaa
open Go.RowKit Go.Proofs.YtliofoikejdjeaaW.PrintWords
set_option linter.unusedVariables false
set_option linter.unusedSimpArgs false
def blanksB (l : List ByteArray) : ByteArray := l.foldl (fun s x => s ++ ⟨#[32]⟩ ++ x) ⟨#[]⟩
theorem blanks_snoc (l : List ByteArray) (x : ByteArray) : blanksB (l ++ [x]) = blanksB l ++ ⟨#[32]⟩ ++ x := by
  unfold blanksB
  rw [List.foldl_append]
  rfl
theorem take_snoc {α : Type} [Inhabited α] {l : List α} {k : Nat} (hk : k < l.length) : l.take (k + 1) = l.take k ++ [l.getD k default] := by
  rw [List.take_succ_eq_append_getElem hk, List.getD_eq_getElem?_getD, List.getElem?_eq_getElem hk]
  rfl
theorem blanks_take {l : List ByteArray} {k : Nat} (hk : k < l.length) : blanksB (l.take (k + 1)) = blanksB (l.take k) ++ ⟨#[32]⟩ ++ l.getD k default := by rw [take_snoc hk, blanks_snoc]
def szs (l : List ByteArray) : Nat := (l.map fun x => x.size + 1).sum
theorem szs_cons (x : ByteArray) (l : List ByteArray) : szs (x :: l) = x.size + 1 + szs l := by simp [szs]
theorem blanks_fold (l : List ByteArray) : ∀ s : ByteArray, (l.foldl (fun s x => s ++ ⟨#[32]⟩ ++ x) s).size = s.size + szs l := by
  induction l with
  | nil => intro s; rfl
  | cons x l ih =>
    intro s
    rw [List.foldl_cons, ih, ByteArray.size_append, ByteArray.size_append, szs_cons]
    have : (⟨#[32]⟩ : ByteArray).size = 1 := rfl
    omega
theorem blanks_size (l : List ByteArray) : (blanksB l).size = szs l := by
  unfold blanksB
  rw [blanks_fold]
  exact Nat.zero_add _
theorem szs_take (l : List ByteArray) : ∀ k : Nat, szs (l.take k) ≤ szs l := by
  induction l with
  | nil => intro k; simp
  | cons x l ih =>
    intro k
    cases k with
    | zero => rw [List.take_zero]; exact Nat.zero_le _
    | succ k =>
      rw [List.take_succ_cons, szs_cons, szs_cons]
      have := ih k
      omega
theorem szs_le {l : List ByteArray} {m : Nat} (h : ∀ x ∈ l, x.size ≤ m) : szs l ≤ l.length * (m + 1) := by
  induction l with
  | nil => simp [szs]
  | cons x xs ih =>
    have h1 := ih fun y hy => h y (List.mem_cons_of_mem _ hy)
    have h2 := h x List.mem_cons_self
    simp [szs] at *
    rw [Nat.add_mul]
    omega
set_option maxHeartbeats 2000000 in
theorem gshow_blanks {w : World} {A : Option Addr} {c : Nat} {l : List ByteArray} (hl : Kd.C Kd.string w A l.length l) (hm : szs l ≤ 140737488355327) :
    Calls Try.prog 39 #[.slice A l.length c] w fun e w' => e = .returned (.string (blanksB l)) ∧ Below w.heap.size w w' := by
  have hlm := Kd.C_max hl
  by_cases h0 : l.length = 0
  · obtain rfl : l = [] := List.length_eq_zero_iff.1 h0
    have hb0 := below_alloc (Below.refl _ w) (.cells #[.pointer none, .slice none 0 0] 40)
    have hk0 := blk_new w (.cells #[.pointer none, .slice none 0 0] 40)
    have hS := Aside0.mk (bld_StringNil hk0)
    clear hl hk0
    go_enter Try.func39, Try.ntmps39
    go_wp2
    go_loopw [5, 8] (fun _ i wr => i = .int .i64 0 ∧ wr = w.alloc (.cells #[.pointer none, .slice none 0 0] 40)) (fun _ _ _ => 0)
    case atStart => exact ⟨rfl, rfl⟩
    case round =>
      obtain ⟨rfl, rfl⟩ := hrel
      go_wp2_with (go_at_call 15; refine hS.out.mono ?_; rintro e w2 ⟨rfl, rfl⟩)
      go_ret
      exact ⟨rfl, below_drew hb0⟩
  obtain ⟨W0, hW0⟩ : ∃ W0, W0 = w.alloc (.cells #[.pointer none, .slice none 0 0] 40) := ⟨_, rfl⟩
  have hb0 := below_alloc (Below.refl _ w) (.cells #[.pointer none, .slice none 0 0] 40)
  have hk0 := blk_new w (.cells #[.pointer none, .slice none 0 0] 40)
  rw [← hW0] at hb0 hk0
  have HBL : Aside0 (Bld W0 w.heap.size w.heap.size (blanksB (l.take 0))) := ⟨Nat.le_refl _, _, _, .inl rfl, hk0, World.ownsRow_nil _ _ _ _, by simp [Value.ownBlock]⟩
  have HL := Aside0.mk hl
  have HW := Aside0.mk hW0
  have HB0 := Aside0.mk hb0
  clear hl hk0 hb0 hW0
  go_enter Try.func39, Try.ntmps39
  go_wp2
  rw [← HW.out]
  go_loopw [5, 8] (fun _ i wr => ∃ k : Nat, k ≤ l.length ∧ i = .int .i64 k ∧ Aside0 (Below w.heap.size w wr) ∧ Aside0 (Bld wr w.heap.size w.heap.size (blanksB (l.take k)))) (fun _ i _ => l.length - (intOf i).toNat)
  case atStart => exact ⟨0, Nat.zero_le _, rfl, HB0, HBL⟩
  case round =>
    clear HB0 HBL
    obtain ⟨k, hk, rfl, HB, HBL⟩ := hrel
    by_cases hkl : k < l.length
    · have hkz : (k : Int) < (l.length : Int) := by omega
      obtain ⟨ad, rfl, l2⟩ := at_str (Kd.C_below HL.out HB.out) k hkl
      have hbt := blanks_take hkl
      have hs1 : (blanksB (l.take (k + 1))).size ≤ 140737488355327 := by
        have := szs_take l (k + 1)
        rw [blanks_size]
        omega
      obtain ⟨y, hy⟩ : ∃ y, l.getD k default = y := ⟨_, rfl⟩
      rw [hy] at l2 hbt
      clear hy
      have hs2 : (blanksB (l.take k)).size + 1 + y.size ≤ 140737488355327 := by
        rw [hbt, ByteArray.size_append, ByteArray.size_append] at hs1
        exact hs1
      generalize blanksB (l.take k) = s at *
      have hwb : Aside0 (Calls Try.prog 62 #[.pointer (some ⟨w.heap.size, 0, none⟩), .int .u8 32] wr fun e w' => e = .returned .nilIface ∧ Bld w' w.heap.size w.heap.size (s ++ ⟨#[32]⟩) ∧ Below w.heap.size wr w') :=
        ⟨(bld_WriteByte HBL.out 32 (by omega) HB.out.size).mono fun e w' ⟨h1, h2, h3, _⟩ => ⟨h1, h2, h3⟩⟩
      have HBT := Aside0.mk hbt
      clear hbt HBL
      go_wp2_with (first | (go_at_call 62; refine hwb.out.mono ?_; rintro e w2 ⟨rfl, hq, hb2⟩) | (go_at_call 12; refine (bld_WriteString hq y (by rw [ByteArray.size_append]; exact Nat.le_of_lt_succ (Nat.lt_of_le_of_lt hs2 (by decide))) (HB.out.trans hb2).size).mono ?_; rintro e w3 ⟨rfl, hq3, hb3, _⟩))
      go_roundw
      case rel => exact ⟨k + 1, by omega, by go_num, ⟨(HB.out.trans hb2).trans hb3⟩, ⟨by rw [HBT.out]; exact hq3⟩⟩
      case measure => simp [intOf]; omega
    · have hkz : ¬ (k : Int) < (l.length : Int) := by omega
      obtain rfl : k = l.length := by omega
      rw [List.take_length] at HBL
      have hne : (blanksB l).size ≠ 0 := by
        rw [blanks_size]
        cases l with
        | nil => exact absurd rfl h0
        | cons x xs => rw [szs_cons]; omega
      go_wp2_with (go_at_call 15; refine (bld_String HBL.out hne).mono ?_; rintro e w2 ⟨rfl, hb2⟩)
      go_ret
      exact ⟨rfl, HB.out.trans hb2⟩
end Go.Proofs.Ytliofoikejdjeaa
