/- heads, Show: the program's. -/
import Derived.Test.YtliofoikejdjeaaShow3
namespace Go.Proofs.Ytliofoikejdjeaa
open Go.RowKit Go.Proofs.YtliofoikejdjeaaW.PrintWords
set_option linter.unusedVariables false
set_option linter.unusedSimpArgs false
theorem Bld.below {w w' : World} {B b : Nat} {s : ByteArray} (h : Bld w B b s) (hb : Below w.heap.size w w') : Bld w' B b s := by
  obtain ⟨h1, p, v, hp, h2, h3, h4⟩ := h
  refine ⟨h1, p, v, hp, blk_below h2 hb, ⟨h3.1, ?_⟩, h4⟩
  rcases h3.2 with hx | ⟨g, cap, cur, hv, hg, hh, hr⟩
  · exact .inl hx
  · exact .inr ⟨g, cap, cur, hv, hg, blk_below hh hb, hr⟩
theorem Bld.alloc {w : World} {B b : Nat} {s : ByteArray} (h : Bld w B b s) (o : Obj) : Bld (w.alloc o) B b s := h.below (below_alloc (Below.refl _ _) o)
/-- %token ..; nothing where there is none. -/
def Gm.tokB (g : Gm) : ByteArray := if g.terms.length = 0 then ⟨#[]⟩ else ⟨#[37, 116, 111, 107, 101, 110]⟩ ++ blanksB g.terms ++ ⟨#[10]⟩
def Gm.headB (g : Gm) : ByteArray := g.tokB ++ (⟨#[37, 115, 116, 97, 114, 116, 32]⟩ ++ g.nameOf g.start ++ ⟨#[10, 37, 37, 10]⟩)
def Gm.leftOf (g : Gm) (k : Nat) : Int := (g.rules.getD k default).left
/-- What a rule adds. -/
def Gm.pieceB (g : Gm) (k : Nat) : ByteArray :=
  if 0 < k ∧ g.leftOf (k - 1) = g.leftOf k then ⟨#[10, 9, 124]⟩ ++ g.rightB (g.rules.getD k default)
  else (if 0 < k then ⟨#[10, 9, 59, 10]⟩ else ⟨#[]⟩) ++ g.ruleB (g.rules.getD k default)
def Gm.bodyB (g : Gm) : Nat → ByteArray
  | 0 => ⟨#[]⟩
  | k + 1 => g.bodyB k ++ g.pieceB k
def Gm.showB (g : Gm) : ByteArray := g.headB ++ g.bodyB g.rules.length ++ ⟨#[10, 9, 59, 10]⟩
def Gm.showS (g : Gm) : ByteArray := if g.check = 0 ∧ g.ordered = true then g.showB else ⟨#[]⟩
/-- How great it is. -/
structure Gm.Small (g : Gm) : Prop where
  name : ∀ s, (g.nameOf s).size ≤ 2000000
  terms : g.terms.length ≤ 1000
  nons : g.nons.length ≤ 1000
  rules : g.rules.length ≤ 1000
  right : ∀ r ∈ g.rules, r.right.length ≤ 10000
  term : ∀ s ∈ g.names, s.size ≤ 2000000
theorem Gm.Small.rightB {g : Gm} (h : g.Small) {r : Rl} (hr : r.right.length ≤ 10000) : (g.rightB r).size ≤ 20000010000 := by
  unfold Gm.rightB
  rw [blanks_size]
  exact Nat.le_trans (rnames_le h.name r.right) (Nat.le_trans (Nat.mul_le_mul_right _ hr) (by decide))
theorem Gm.Small.ruleB {g : Gm} (h : g.Small) {r : Rl} (hr : r.right.length ≤ 10000) : (g.ruleB r).size ≤ 20002010002 := by
  unfold Gm.ruleB
  rw [ByteArray.size_append, ByteArray.size_append]
  have h1 := h.rightB hr
  have h2 := h.name r.left
  have h3 : (⟨#[32, 58]⟩ : ByteArray).size = 2 := rfl
  omega
theorem Gm.Small.head {g : Gm} (h : g.Small) : g.headB.size ≤ 3000000000 := by
  unfold Gm.headB Gm.tokB
  have h1 := szs_le (l := g.terms) (m := 2000000) (fun x hx => h.term x (List.mem_append_left _ hx))
  have h2 := h.name g.start
  have h3 := h.terms
  have h4 : g.terms.length * (2000000 + 1) ≤ 1000 * (2000000 + 1) := Nat.mul_le_mul_right _ h3
  have e1 : (⟨#[37, 116, 111, 107, 101, 110]⟩ : ByteArray).size = 6 := rfl
  have e2 : (⟨#[10]⟩ : ByteArray).size = 1 := rfl
  have e3 : (⟨#[37, 115, 116, 97, 114, 116, 32]⟩ : ByteArray).size = 7 := rfl
  have e4 : (⟨#[10, 37, 37, 10]⟩ : ByteArray).size = 4 := rfl
  have e5 : (⟨#[]⟩ : ByteArray).size = 0 := rfl
  simp only [ByteArray.size_append]
  split
  · omega
  · simp only [ByteArray.size_append, blanks_size]
    omega
theorem getD_rule {g : Gm} (h : g.Small) (k : Nat) : (g.rules.getD k default).right.length ≤ 10000 := by
  by_cases hk : k < g.rules.length
  · exact h.right _ (getD_mem hk)
  · rw [List.getD_eq_getElem?_getD, List.getElem?_eq_none (by omega)]
    exact Nat.zero_le _
theorem Gm.Small.piece {g : Gm} (h : g.Small) (k : Nat) : (g.pieceB k).size ≤ 20003000000 := by
  unfold Gm.pieceB
  have h1 := h.rightB (getD_rule h k)
  have h2 := h.ruleB (getD_rule h k)
  have e1 : (⟨#[10, 9, 124]⟩ : ByteArray).size = 3 := rfl
  have e2 : (⟨#[10, 9, 59, 10]⟩ : ByteArray).size = 4 := rfl
  have e5 : (⟨#[]⟩ : ByteArray).size = 0 := rfl
  split
  · rw [ByteArray.size_append]; omega
  · rw [ByteArray.size_append]
    split <;> omega
theorem Gm.Small.body {g : Gm} (h : g.Small) (k : Nat) : (g.bodyB k).size ≤ k * 20003000000 := by
  induction k with
  | zero => exact Nat.le_of_eq rfl
  | succ k ih =>
    unfold Gm.bodyB
    rw [ByteArray.size_append]
    have := h.piece k
    omega
/-- The left side ahead of a rule, 0 ahead of the first. -/
def Gm.lastOf (g : Gm) (k : Nat) : Int := if k = 0 then 0 else g.leftOf (k - 1)
theorem left_pos {g : Gm} (h : g.check = 0) {k : Nat} (hk : k < g.rules.length) : 0 < g.leftOf k := by
  rw [check_ref] at h
  by_cases h1 : manyB g = true
  · rw [if_pos h1] at h; cases h
  rw [if_neg h1] at h
  split at h
  · cases h
  split at h
  · cases h
  split at h
  · cases h
  rename_i hk3
  have hkn : g.knownB = true := by simpa using hk3
  unfold Gm.knownB at hkn
  simp only [Bool.and_eq_true, List.all_eq_true] at hkn
  have := hkn.2 _ (getD_mem hk)
  unfold Gm.knownR Gm.isNon at this
  simp only [Bool.and_eq_true, decide_eq_true_eq] at this
  unfold Gm.leftOf
  omega
section
variable {w : World} {A0 A1 A2 : Option Addr} {c0 c1 c2 : Nat} {g : Gm}
set_option maxHeartbeats 2000000 in
theorem gshow_heads (h : GmAt w A0 A1 A2 c0 c1 c2 g) (hs : g.Small) :
    Calls Try.prog 13 #[.agg (gv A0 A1 A2 c0 c1 c2 g)] w fun e w' => e = .returned (.string g.headB) ∧ Below w.heap.size w w' := by
  obtain ⟨W0, hW0⟩ : ∃ W0, W0 = w.alloc (.cells (gv A0 A1 A2 c0 c1 c2 g) 25) := ⟨_, rfl⟩
  have hb0 := below_alloc (Below.refl _ w) (.cells (gv A0 A1 A2 c0 c1 c2 g) 25)
  have hk0 := blk_new w (.cells (gv A0 A1 A2 c0 c1 c2 g) 25)
  rw [← hW0] at hb0 hk0
  have h3 := hs.terms
  have h1 := szs_le (l := g.terms) (m := 2000000) (fun x hx => hs.term x (List.mem_append_left _ hx))
  have h4 : g.terms.length * (2000000 + 1) ≤ 1000 * (2000000 + 1) := Nat.mul_le_mul_right _ h3
  have hbs : (blanksB g.terms).size ≤ 2000001000 := by rw [blanks_size]; omega
  have hnm := hs.name g.start
  have KN : Aside0 (∀ W, Below W0.heap.size W0 W → Calls Try.prog 20 #[.agg #[.slice A0 g.terms.length c0, .slice A1 g.nons.length c1, .slice A2 g.rules.length c2, .int .i64 g.start], .int .i64 g.start] W fun e w' => e = .returned (.string (g.nameOf g.start)) ∧ Below W.heap.size W w') := ⟨fun W hb => gram_Name (h.below (hb0.trans (hb.mono hb0.size))) _⟩
  have KB : Aside0 (∀ W, Below W0.heap.size W0 W → Calls Try.prog 39 #[.slice A0 g.terms.length c0] W fun e w' => e = .returned (.string (blanksB g.terms)) ∧ Below W.heap.size W w') := ⟨fun W hb => gshow_blanks (Kd.C_below h.terms (hb0.trans (hb.mono hb0.size))) (by omega)⟩
  have GC : Aside0 (∀ W, Below W0.heap.size W0 W → _ ∧ _ ∧ _ ∧ _) := ⟨fun W hb => gcells (blk_below hk0 hb)⟩
  have hgc := GC.out W0 (Below.refl _ _)
  have HB0 := Aside0.mk hb0
  have HW := Aside0.mk hW0
  have HH : Aside0 (g.headB = (if g.terms.length = 0 then (⟨#[]⟩ : ByteArray) else ⟨#[37, 116, 111, 107, 101, 110]⟩ ++ blanksB g.terms ++ ⟨#[10]⟩) ++ (⟨#[37, 115, 116, 97, 114, 116, 32]⟩ ++ g.nameOf g.start ++ ⟨#[10, 37, 37, 10]⟩)) := ⟨rfl⟩
  clear h hb0 hk0 hW0 h1 h4
  generalize g.headB = hd at *
  generalize g.nameOf g.start = nm at *
  generalize blanksB g.terms = bl at *
  unfold gv at *
  have z1 : ¬ 9223372036854775807 < 7 + nm.size := by omega
  have z2 : ¬ 9223372036854775807 < 7 + nm.size + 4 := by omega
  have z3 : ¬ 9223372036854775807 < 6 + bl.size := by omega
  have z4 : ¬ 9223372036854775807 < 6 + bl.size + 1 := by omega
  have z5 : ¬ 9223372036854775807 < 6 + bl.size + 1 + (7 + nm.size + 4) := by omega
  by_cases hz : g.terms.length = 0
  · have hzz : (((g.terms.length : Int)) == 0) = true := by rw [hz]; rfl
    have HZ := Aside0.mk hz
    clear hz
    go_enter Try.func13, Try.ntmps13
    go_wp2_with fail
    rw [← HW.out]
    obtain ⟨f0, f1, f2, f3⟩ := hgc
    go_wp2_with (go_at_call 20; refine (KN.out _ (Below.refl _ _)).mono ?_; rintro e w2 ⟨rfl, hb2⟩; clear f0 f1 f2 f3; obtain ⟨f0, f1, f2, f3⟩ := GC.out _ hb2)
    go_ret
    exact ⟨by rw [HH.out, if_pos HZ.out]; congr 2, HB0.out.trans (hb2.mono HB0.out.size)⟩
  · have hzz : (((g.terms.length : Int)) == 0) = false := beq_false_of_ne (by omega)
    have HZ := Aside0.mk hz
    clear hz
    go_enter Try.func13, Try.ntmps13
    go_wp2_with fail
    rw [← HW.out]
    obtain ⟨f0, f1, f2, f3⟩ := hgc
    go_wp2_with (first | (go_at_call 20; refine (KN.out _ (Below.refl _ _)).mono ?_; rintro e w2 ⟨rfl, hb2⟩; clear f0 f1 f2 f3; obtain ⟨f0, f1, f2, f3⟩ := GC.out _ hb2) | (go_at_call 39; refine (KB.out _ hb2).mono ?_; rintro e w3 ⟨rfl, hb3⟩))
    go_ret
    have h5 := hb2.trans (hb3.mono hb2.size)
    exact ⟨by rw [HH.out, if_neg HZ.out]; rfl, HB0.out.trans (h5.mono HB0.out.size)⟩
end
end Go.Proofs.Ytliofoikejdjeaa
