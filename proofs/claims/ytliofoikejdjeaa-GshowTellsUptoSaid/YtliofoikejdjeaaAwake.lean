/- The grammar that awake shows. -/
import Derived.Test.YtliofoikejdjeaaShow6
import Derived.Test.YtliofoikejdjeaaMuch
namespace Go.Proofs.Ytliofoikejdjeaa
open Go.RowKit Go.Proofs.YtliofoikejdjeaaW.PrintWords
set_option linter.unusedVariables false
set_option linter.unusedSimpArgs false
def gA : Gm := { terms := [⟨#[65]⟩], nons := [⟨#[115]⟩], rules := [{ left := 2, right := [1, 2] }, { left := 2, right := [] }], start := 2 }
theorem gA_rule : gA.ruleB { left := 2, right := [1, 2] } = ⟨#[115, 32, 58, 32, 65, 32, 115]⟩ := by kernel_rfl
theorem gA_check : gA.check = 0 := by
  rw [check_ref]
  have h1 : manyB gA = false := by kernel_rfl
  have h2 : (gA.terms.all termOk && gA.nons.all plainOk) = true := by kernel_rfl
  have h3 : decide gA.names.Nodup = true := by decide
  have h4 : gA.knownB = true := by kernel_rfl
  have h5 : unlikeR gA.rules = true := by
    unfold unlikeR
    rw [decide_eq_true_eq]
    intro i hi j hj
    have hl : gA.rules.length = 2 := rfl
    obtain rfl : i = 1 := by omega
    obtain rfl : j = 0 := by omega
    decide
  have h6 : gA.lacks = false := by
    unfold Gm.lacks
    rw [decide_eq_false_iff_not]
    rintro ⟨k, hk, e⟩
    have hl : gA.nons.length = 1 := rfl
    obtain rfl : k = 0 := by omega
    exact absurd e (by decide)
  rw [h1, h2, h3, h4, h5, h6]
  rfl
theorem gA_ordered : gA.ordered = true := by
  rw [ordered_iff]
  intro i hi
  have hl : gA.nons.length = 1 := rfl
  omega
theorem gA_show : gA.showS = ⟨#[37, 116, 111, 107, 101, 110, 32, 65, 10, 37, 115, 116, 97, 114, 116, 32, 115, 10, 37, 37, 10, 115, 32, 58, 32, 65, 32, 115, 10, 9, 124, 10, 9, 59, 10]⟩ := by
  unfold Gm.showS
  rw [if_pos ⟨gA_check, gA_ordered⟩]
  kernel_rfl
theorem name_le {g : Gm} {m : Nat} (h : ∀ s ∈ g.names, s.size ≤ m) (h1 : 1 ≤ m) (s : Int) : (g.nameOf s).size ≤ m := by
  unfold Gm.nameOf
  split
  · exact h1
  · split
    · by_cases hl : s.toNat - 1 < g.names.length
      · exact h _ (getD_mem hl)
      · rw [List.getD_eq_getElem?_getD, List.getElem?_eq_none (by omega)]
        exact Nat.zero_le _
    · exact Nat.zero_le _
theorem gA_small : gA.Small := by
  have hn : ∀ s ∈ gA.names, s.size ≤ 2000000 := by
    intro s hs
    have : s = ⟨#[65]⟩ ∨ s = ⟨#[115]⟩ := by simpa [gA, Gm.names] using hs
    rcases this with rfl | rfl <;> decide
  refine ⟨name_le hn (by decide), by decide, by decide, by decide, ?_, hn⟩
  intro r hr
  have : r = { left := 2, right := [1, 2] } ∨ r = { left := 2, right := [] } := by simpa [gA] using hr
  rcases this with rfl | rfl <;> decide
theorem kRl_mk {w : World} {x : Rl} {A : Option Addr} {c : Nat} (hc : x.right.length ≤ c) (h : Kd.C (Kd.int .i64) w A x.right.length x.right) : kRl.K w x [.int .i64 x.left, .slice A x.right.length c] := ⟨[_], [_], rfl, rfl, A, c, rfl, hc, h⟩
theorem C_one {α : Type} {d : Kd α} {w : World} {b : Nat} {p : α} {v : Value} (hs : d.sz = 1) (hk : d.K w p [v]) (h : w.cell? ⟨b, 0, none⟩ = some v) : Kd.C d w (some ⟨b, 0, none⟩) 1 [p] := by
  refine ⟨rfl, by decide, fun _ => ⟨_, rfl, fun j q hq => ?_⟩⟩
  cases j with
  | succ j => simp at hq
  | zero =>
    simp at hq
    subst hq
    refine ⟨[v], by rw [hs]; rfl, hk, fun i u hu => ?_⟩
    cases i with
    | succ i => simp at hu
    | zero =>
      simp at hu
      subst hu
      simpa [Addr.add] using h
theorem C_none {α : Type} {d : Kd α} {w : World} : Kd.C d w none 0 [] := ⟨rfl, by decide, fun h => absurd h (by decide)⟩
theorem gA_at {W : World} {b0 b1 b2 b3 : Nat} (h0 : W.cell? ⟨b0, 0, none⟩ = some (.string ⟨#[65]⟩)) (h1 : W.cell? ⟨b1, 0, none⟩ = some (.string ⟨#[115]⟩)) (h2 : W.cell? ⟨b2, 0, none⟩ = some (.int .i64 1)) (h3 : W.cell? ⟨b2, 1, none⟩ = some (.int .i64 2))
    (h4 : W.cell? ⟨b3, 0, none⟩ = some (.int .i64 2)) (h5 : W.cell? ⟨b3, 1, none⟩ = some (.slice (some ⟨b2, 0, none⟩) 2 2)) (h6 : W.cell? ⟨b3, 2, none⟩ = some (.int .i64 2)) (h7 : W.cell? ⟨b3, 3, none⟩ = some (.slice none 0 0)) :
    GmAt W (some ⟨b0, 0, none⟩) (some ⟨b1, 0, none⟩) (some ⟨b3, 0, none⟩) 1 1 2 gA := by
  have hi : Kd.C (Kd.int .i64) W (some ⟨b2, 0, none⟩) 2 [1, 2] := by
    refine ⟨rfl, by decide, fun _ => ⟨_, rfl, fun j q hq => ?_⟩⟩
    match j with
    | 0 =>
      simp at hq
      subst hq
      refine ⟨[.int .i64 1], rfl, rfl, fun i u hu => ?_⟩
      cases i with
      | succ i => simp at hu
      | zero => simp at hu; subst hu; simpa [Addr.add] using h2
    | 1 =>
      simp at hq
      subst hq
      refine ⟨[.int .i64 2], rfl, rfl, fun i u hu => ?_⟩
      cases i with
      | succ i => simp at hu
      | zero => simp at hu; subst hu; simpa [Addr.add, Kd.int, Kd.scalar] using h3
    | j + 2 => simp at hq
  refine ⟨C_one rfl rfl h0, C_one rfl rfl h1, ?_, by decide, by decide, by decide, by decide, by decide, by decide⟩
  refine ⟨rfl, by decide, fun _ => ⟨_, rfl, fun j q hq => ?_⟩⟩
  match j with
  | 0 =>
    simp [gA] at hq
    subst hq
    refine ⟨[.int .i64 2, .slice (some ⟨b2, 0, none⟩) 2 2], rfl, kRl_mk (x := { left := 2, right := [1, 2] }) (by decide) hi, fun i u hu => ?_⟩
    match i with
    | 0 => simp at hu; subst hu; simpa [Addr.add] using h4
    | 1 => simp at hu; subst hu; simpa [Addr.add] using h5
    | i + 2 => simp at hu
  | 1 =>
    simp [gA] at hq
    subst hq
    refine ⟨[.int .i64 2, .slice none 0 0], rfl, kRl_mk (x := { left := 2, right := [] }) (by decide) C_none, fun i u hu => ?_⟩
    match i with
    | 0 => simp at hu; subst hu; exact h6
    | 1 => simp at hu; subst hu; exact h7
    | i + 2 => simp at hu
  | j + 2 => simp [gA] at hq
end Go.Proofs.Ytliofoikejdjeaa
