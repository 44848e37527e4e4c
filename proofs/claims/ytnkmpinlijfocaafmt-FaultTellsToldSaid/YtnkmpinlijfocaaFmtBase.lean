/- The kinds of the program's data: a rule, a grammar; how they lie in memory. -/
import Derived.Test.YtnkmpinlijfocaaFmtProg
import Derived.Test.YtnkmpinlijfocaaFmtWWords
import Derived.Test.YtnkmpinlijfocaaFmtDet
import Derived.WalkKit
import Derived.BigQuiet
import Derived.Deep.QuietTactic
import Derived.Deep.LoopGhost
import Derived.Deep.DeepCutAuto
import Derived.Deep.DeepMust
import Derived.Outline
import Derived.Shelf.Abstract
import Derived.WideLaws
import Derived.WalkSpells
import Derived.WalkLawsBesides
namespace Go.Proofs.YtnkmpinlijfocaaFmt
open Go.RowKit Go.Proofs.YtnkmpinlijfocaaFmtW.PrintWords
set_option linter.unusedVariables false
set_option linter.unusedSimpArgs false

theorem info3 : (Tryf.prog.info? 3).map (fun i => (i.zero, i.size, i.bytes)) = some (some (.int .i64 0), 1, 8) := by kernel_rfl
theorem info9 : (Tryf.prog.info? 9).map (fun i => (i.zero, i.size, i.bytes)) = some (some (.string ⟨#[]⟩), 1, 16) := by kernel_rfl

/-- A rule. -/
structure Rl where
  left : Int
  right : List Int
  deriving DecidableEq
instance : Inhabited Rl := ⟨⟨0, []⟩⟩
def kInt : Kd Int := Kd.int .i64
def kRl : Kd Rl := Kd.iso (Kd.pair (Kd.int .i64) (Kd.slice 3 (Kd.int .i64))) (fun x : Rl => (x.left, x.right))
theorem kRl_open {w : World} {x : Rl} {cs : List Value} (h : kRl.K w x cs) : ∃ A c, cs = [.int .i64 x.left, .slice A x.right.length c] ∧ x.right.length ≤ c ∧ (Kd.int .i64).C w A x.right.length x.right := by
  obtain ⟨_, _, rfl, rfl, ⟨A1, c1, rfl, l1, g1⟩⟩ := h
  exact ⟨A1, c1, rfl, l1, g1⟩
theorem at_rl {w : World} {A : Option Addr} {n : Nat} {xs : List Rl} (h : Kd.C kRl w A n xs) (i : Nat) (h1 : i < n) : ∃ ad A1 c1, A = some ad ∧ w.cell? (ad.add (i * 2)) = some (.int .i64 (xs.getD i default).left) ∧ w.cell? ⟨(ad.add (i * 2)).block, (ad.add (i * 2)).off + 1, none⟩ = some (.slice A1 (xs.getD i default).right.length c1) ∧ (xs.getD i default).right.length ≤ c1 ∧ (Kd.int .i64).C w A1 (xs.getD i default).right.length (xs.getD i default).right := by
  obtain ⟨ad, c, e, _, hK, hc0⟩ := Kd.C_get h (default : Rl) (i : Int) (by omega) (by omega)
  have hc : ∀ j u, c[j]? = some u → w.cell? (ad.add (i * 2 + j)) = some u := hc0
  obtain ⟨A1, c1, rfl, l1, g1⟩ := kRl_open (by simpa using hK)
  exact ⟨ad, A1, c1, e, hc 0 _ rfl, by rw [← add_field _ _ 1 (by omega)]; exact hc 1 _ rfl, l1, g1⟩
theorem at_str {w : World} {A : Option Addr} {n : Nat} {xs : List ByteArray} (h : Kd.C Kd.string w A n xs) (i : Nat) (h1 : i < n) : ∃ ad, A = some ad ∧ w.cell? (ad.add i) = some (.string (xs.getD i default)) := by
  obtain ⟨ad, e, hc⟩ := Kd.at_string h (i : Int) (by omega) (by omega)
  exact ⟨ad, e, hc⟩

theorem at_int {w : World} {A : Option Addr} {n : Nat} {xs : List Int} (h : Kd.C (Kd.int .i64) w A n xs) (i : Nat) (h1 : i < n) : ∃ ad, A = some ad ∧ w.cell? (ad.add i) = some (.int .i64 (xs.getD i default)) := by
  obtain ⟨ad, e, hc⟩ := Kd.at_int h (i : Int) (by omega) (by omega)
  exact ⟨ad, e, hc⟩

/-- A grammar. -/
structure Gm where
  terms : List ByteArray
  nons : List ByteArray
  rules : List Rl
  start : Int
/-- Its value: four cells; it lies in w. -/
def gv (A0 A1 A2 : Option Addr) (c0 c1 c2 : Nat) (g : Gm) : Array Value := #[.slice A0 g.terms.length c0, .slice A1 g.nons.length c1, .slice A2 g.rules.length c2, .int .i64 g.start]
structure GmAt (w : World) (A0 A1 A2 : Option Addr) (c0 c1 c2 : Nat) (g : Gm) : Prop where
  terms : Kd.C Kd.string w A0 g.terms.length g.terms
  nons : Kd.C Kd.string w A1 g.nons.length g.nons
  rules : Kd.C kRl w A2 g.rules.length g.rules
  l0 : g.terms.length ≤ c0
  l1 : g.nons.length ≤ c1
  l2 : g.rules.length ≤ c2
  m0 : g.terms.length ≤ 8796093022208
  m1 : g.nons.length ≤ 8796093022208
  m2 : g.rules.length ≤ 8796093022208
theorem GmAt.below {w w' : World} {A0 A1 A2 : Option Addr} {c0 c1 c2 : Nat} {g : Gm} (h : GmAt w A0 A1 A2 c0 c1 c2 g) (hb : Below w.heap.size w w') : GmAt w' A0 A1 A2 c0 c1 c2 g :=
  ⟨Kd.C_below h.terms hb, Kd.C_below h.nons hb, Kd.C_below h.rules hb, h.l0, h.l1, h.l2, h.m0, h.m1, h.m2⟩
/-- All old cells and marks read as before. -/
theorem bcell {W w1 : World} (hb : Below W.heap.size W w1) : (∀ b o, b < W.heap.size → w1.cell? ⟨b, o, none⟩ = W.cell? ⟨b, o, none⟩) ∧ (∀ b o, b < W.heap.size → w1.frozen? ⟨b, o, none⟩ = W.frozen? ⟨b, o, none⟩) :=
  ⟨fun b o h => hb.cell (p := ⟨b, o, none⟩) h, fun b o h => hb.frozen (p := ⟨b, o, none⟩) h⟩
theorem below_new {w w1 : World} {o : Obj} (hb : Below (w.alloc o).heap.size (w.alloc o) w1) : Below w.heap.size w w1 :=
  ((Below.refl _ _).alloc (Nat.le_refl _) o).trans (hb.mono (by simp))
theorem below_new2 {w w1 : World} {o p : Obj} (hb : Below ((w.alloc o).alloc p).heap.size ((w.alloc o).alloc p) w1) : Below w.heap.size w w1 :=
  below_new (below_new hb)
theorem rint {k : IntKind} {a b : Int} (h : a = b) : Ending.returned (.int k a) = .returned (.int k b) := by rw [h]
theorem rbool {a b : Bool} (h : a = b) : Ending.returned (.bool a) = .returned (.bool b) := by rw [h]
end Go.Proofs.YtnkmpinlijfocaaFmt
