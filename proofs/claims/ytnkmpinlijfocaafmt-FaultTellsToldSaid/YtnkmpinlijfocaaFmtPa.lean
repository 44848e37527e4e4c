/- Plain words: classes of bytes, spans, places in lists. -/
import Derived.Test.YtnkmpinlijfocaaFmtBase
namespace Go.Proofs.YtnkmpinlijfocaaFmt
open Go.RowKit Go.Proofs.YtnkmpinlijfocaaFmtW.PrintWords
set_option linter.unusedVariables false
set_option linter.unusedSimpArgs false
def alpha (n : Int) : Bool := decide (65 ≤ n ∧ n ≤ 90) || decide (97 ≤ n ∧ n ≤ 122)
def ltr (n : Int) : Int := if 48 ≤ n ∧ n ≤ 57 then 3 else if n = 95 ∨ alpha n = true then 4 else 8
def cls (n : Int) : Int :=
  if n = 0 then 0 else if n = 32 ∨ n = 9 then 1 else if n = 10 then 2
  else if n = 38 ∨ n = 124 ∨ n = 59 ∨ n = 60 ∨ n = 62 ∨ n = 40 ∨ n = 41 then 5
  else if n = 39 ∨ n = 34 ∨ n = 92 ∨ n = 96 then 6 else if n = 36 then 7 else ltr n
theorem or32 : ∀ c : UInt8, (97 ≤ bits BinOp.or IntKind.u8 (c.toNat : Int) 32 ∧ bits BinOp.or IntKind.u8 (c.toNat : Int) 32 ≤ 122) ↔ alpha c.toNat = true := by
  have h : ∀ n : Fin 256, (97 ≤ bits BinOp.or IntKind.u8 (n.val : Int) 32 ∧ bits BinOp.or IntKind.u8 (n.val : Int) 32 ≤ 122) ↔ alpha n.val = true := by decide +kernel
  intro c
  exact h ⟨c.toNat, c.toNat_lt⟩
theorem cls_hi (n : Int) (h : 128 ≤ n) : cls n = 8 := by
  have : alpha n = false := by simp [alpha]; omega
  unfold cls ltr
  rw [this]
  (repeat' split) <;> first | rfl | (exfalso; omega) | simp_all
def nameOk (s : ByteArray) : Bool := decide (0 < s.size) && decide (∀ (i : Nat) (h : i < s.size), cls (s[i]'h).toNat = 4 ∨ cls (s[i]'h).toNat = 3 ∧ 0 < i)
theorem toList_nil {s : ByteArray} (h : s.size = 0) : s.toList = [] := by
  rw [ByteArray.toList_eq]
  exact List.eq_nil_of_length_eq_zero (by rw [data_length]; exact h)
theorem toList_ne {s : ByteArray} (h : ¬ s.size = 0) : s.toList ≠ [] := by
  rw [ByteArray.toList_eq]
  intro h'
  apply h
  rw [← data_length, h']
  rfl
/-- How many bytes from a place on are so. -/
def spanS (p : UInt8 → Bool) (s : ByteArray) (i : Nat) : Nat := ((s.data.toList.drop i).takeWhile p).length
theorem spanS_eq {p : UInt8 → Bool} {s : ByteArray} {i n : Nat} (hl : i + n ≤ s.size) (h1 : ∀ (j : Nat) (h : i + j < s.size), j < n → p (s[i + j]'h) = true) (h2 : ∀ h : i + n < s.size, p (s[i + n]'h) = false) : spanS p s i = n := by
  unfold spanS
  have hlen := data_length s
  induction n generalizing i with
  | zero =>
    by_cases h : i < s.size
    · rw [List.drop_eq_getElem_cons (by omega), List.takeWhile_cons]
      have := h2 (by omega)
      simp only [Nat.add_zero] at this
      rw [show s.data.toList[i]'(by omega) = s[i]'h from rfl, this]
      rfl
    · rw [List.drop_eq_nil_of_le (by omega)]
      rfl
  | succ n ih =>
    have h : i < s.size := by omega
    rw [List.drop_eq_getElem_cons (by omega), List.takeWhile_cons]
    have := h1 0 (by omega) (by omega)
    simp only [Nat.add_zero] at this
    rw [show s.data.toList[i]'(by omega) = s[i]'h from rfl, this]
    simp only [if_true, List.length_cons]
    rw [ih (by omega) (fun j hj hjn => ?_) (fun hh => ?_)]
    · have := h1 (j + 1) (by omega) (by omega)
      simpa [Nat.add_assoc, Nat.add_comm 1 j] using this
    · have := h2 (by omega)
      simpa [Nat.add_assoc, Nat.add_comm 1 n] using this
theorem spanS_le (p : UInt8 → Bool) (s : ByteArray) (i : Nat) (hi : i ≤ s.size) : i + spanS p s i ≤ s.size := by
  unfold spanS
  have := (List.takeWhile_sublist p (l := s.data.toList.drop i)).length_le
  rw [List.length_drop, data_length] at this
  omega
def insideB (c : UInt8) : Bool := decide (32 < c.toNat ∧ c.toNat ≤ 126) && decide (c.toNat ≠ 39)
/-- A byte, as a number; 0 behind the end. -/
def byteN (s : ByteArray) (i : Nat) : Nat := if h : i < s.size then (s[i]'h).toNat else 0
theorem byteN_at {s : ByteArray} {i : Nat} (h : i < s.size) : (s[i]'h).toNat = byteN s i := by simp [byteN, h]
/-- What is quoted from a place on: how many bytes; or an error's number (0: none), and its place. -/
def quotedS (s : ByteArray) (a : Nat) : Int × Int × Int :=
  let m := spanS insideB s (a + 1)
  if s.size ≤ a + (1 + m) then (0, 4, s.size) else if byteN s (a + (1 + m)) ≠ 39 ∨ m = 0 then (0, 2, a + (1 + m)) else if 23 ≤ m then (0, 5, a) else (1 + m + 1, 0, 0)
def idxF {α : Type} (p : α → Bool) (xs : List α) : Int := match xs.findIdx? p with | some i => i | none => -1
theorem idxF_hit {α : Type} [Inhabited α] {p : α → Bool} {xs : List α} {k : Nat} (hk : k < xs.length) (h1 : p (xs.getD k default) = true) (h2 : ∀ j, j < k → p (xs.getD j default) = false) : idxF p xs = k := by
  unfold idxF
  have : xs.findIdx? p = some k := by
    rw [List.findIdx?_eq_some_iff_getElem]
    refine ⟨hk, ?_, fun j hj => ?_⟩
    · simpa [List.getD_eq_getElem?_getD, hk] using h1
    · have := h2 j hj
      simpa [List.getD_eq_getElem?_getD, show j < xs.length by omega] using this
  rw [this]
theorem idxF_miss {α : Type} [Inhabited α] {p : α → Bool} {xs : List α} (h2 : ∀ j, j < xs.length → p (xs.getD j default) = false) : idxF p xs = -1 := by
  unfold idxF
  have : xs.findIdx? p = none := by
    rw [List.findIdx?_eq_none_iff]
    intro x hx
    obtain ⟨j, hj, rfl⟩ := List.mem_iff_getElem.1 hx
    have := h2 j hj
    simpa [List.getD_eq_getElem?_getD, hj] using this
  rw [this]
theorem getD_mem {α : Type} [Inhabited α] {xs : List α} {k : Nat} (h : k < xs.length) : xs.getD k default ∈ xs := by
  rw [List.getD_eq_getElem?_getD, List.getElem?_eq_getElem h]
  exact List.getElem_mem h
theorem idxF_any {α : Type} (p : α → Bool) (xs : List α) : decide (0 ≤ idxF p xs) = xs.any p := by
  unfold idxF
  cases h : xs.findIdx? p with
  | none =>
    rw [List.findIdx?_eq_none_iff] at h
    simpa using h
  | some i =>
    obtain ⟨h1, h2, _⟩ := List.findIdx?_eq_some_iff_getElem.1 h
    have : xs.any p = true := List.any_eq_true.2 ⟨_, List.getElem_mem h1, h2⟩
    simp [this]
theorem str_ne {x y : ByteArray} (h : x ≠ y) : (x.toList == y.toList) = false := by
  have : x.toList ≠ y.toList := by
    rw [ByteArray.toList_eq, ByteArray.toList_eq]
    exact fun e => h (WideShapes.bytes_inj e)
  simpa using this
def placeS (xs : List ByteArray) (s : ByteArray) : Int := idxF (fun x => decide (x = s)) xs
theorem place_mem (xs : List ByteArray) (s : ByteArray) : 0 ≤ placeS xs s ↔ s ∈ xs := by
  have h := idxF_any (fun x => decide (x = s)) xs
  rw [Bool.eq_iff_iff] at h
  simpa [placeS] using h
/-- A function value that tells p of every x that lies in memory as V says; it turns nothing. -/
def PredV {α : Type} (w : World) (fv : Value) (V : World → α → Value → Prop) (p : α → Bool) : Prop :=
  ∃ g lb, fv = .func (.func g) #[] lb ∧ (∀ args W, (callFunc g args).run Tryf.prog W = .ok (.enter g args) W) ∧
    ∀ W x v, Below w.heap.size w W → V W x v → Calls Tryf.prog g (#[v] ++ lb) W fun e w' => e = .returned (.bool (p x)) ∧ Below W.heap.size W w'
theorem PredV.below {α : Type} {w w1 : World} {fv : Value} {V : World → α → Value → Prop} {p : α → Bool} (h : PredV w fv V p) (hb : Below w.heap.size w w1) : PredV w1 fv V p := by
  obtain ⟨g, lb, e, he, hc⟩ := h
  exact ⟨g, lb, e, he, fun W x v hW hV => hc W x v (hb.trans (hW.mono hb.size)) hV⟩
def Vstr (_ : World) (x : ByteArray) (v : Value) : Prop := v = .string x
def Vint (_ : World) (x : Int) (v : Value) : Prop := v = .int .i64 x
def Vrl (w : World) (x : Rl) (v : Value) : Prop := ∃ A c, v = .agg #[.int .i64 x.left, .slice A x.right.length c] ∧ x.right.length ≤ c ∧ (Kd.int .i64).C w A x.right.length x.right
def Vu8 (_ : World) (x : UInt8) (v : Value) : Prop := v = .int .u8 x.toNat
end Go.Proofs.YtnkmpinlijfocaaFmt
