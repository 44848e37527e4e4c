/- The document's answers for layer 2. -/
import Derived.Test.YtnkmpinlijfocaaFmtE14
namespace Go.Proofs.YtnkmpinlijfocaaFmt
open Go.RowKit Go.Proofs.YtnkmpinlijfocaaFmtW.PrintWords Go.Proofs.YtnkmpinlijfocaaFmtW.PrintLast Go.Extern.Stop Go.Stop Go.Extern
set_option linter.unusedVariables false
set_option linter.unusedSimpArgs false
def fv (e a : Int) (ot : Bool) (A2 : Option Addr) (n c2 : Nat) : Value := .agg #[.int .i64 e, .int .i64 a, .slice A2 n c2, .bool ot]
def codeV (e : Int) (ot : Bool) : Int := if ot then 1 else e
def atV (e a : Int) (ot : Bool) : Int := if ot then -1 else if e = 0 then -1 else a
def nameV (e : Int) (ot : Bool) (ns : List ByteArray) : ByteArray := if ns.length = 0 then ⟨#[]⟩ else if ot = false ∧ e = 0 then ⟨#[]⟩ else ns.getD (ns.length - 1) default
def isV (e x : Int) (ot : Bool) : Bool := !ot && (e == x)
theorem ref02_Code (e a : Int) (ot : Bool) (A2 : Option Addr) (n c2 : Nat) (w : World) : Calls Tryf.prog 15 #[.agg #[.int .i64 e, .int .i64 a, .slice A2 n c2, .bool ot]] w fun ev w' => ev = .returned (.int .i64 (codeV e ot)) ∧ Below w.heap.size w w' := by
  cases ot
  all_goals
    go_enter Tryf.func15, Tryf.ntmps15
    go_wp2
    go_ret
    exact ⟨rfl, below_alloc (Below.refl _ _) _⟩
theorem ref02_At (e a : Int) (ot : Bool) (A2 : Option Addr) (n c2 : Nat) (w : World) : Calls Tryf.prog 16 #[.agg #[.int .i64 e, .int .i64 a, .slice A2 n c2, .bool ot]] w fun ev w' => ev = .returned (.int .i64 (atV e a ot)) ∧ Below w.heap.size w w' := by
  cases ot
  · by_cases he : e = 0
    · subst he
      go_enter Tryf.func16, Tryf.ntmps16
      go_wp2
      go_ret
      exact ⟨rfl, below_alloc (Below.refl _ _) _⟩
    · have hq : (e == 0) = false := beq_false_of_ne he
      have HE : Aside0 (atV e a false = a) := ⟨by simp [atV, he]⟩
      clear he
      go_enter Tryf.func16, Tryf.ntmps16
      go_wp2
      go_ret
      exact ⟨by rw [HE.out]; rfl, below_alloc (Below.refl _ _) _⟩
  · go_enter Tryf.func16, Tryf.ntmps16
    go_wp2
    go_ret
    exact ⟨rfl, below_alloc (Below.refl _ _) _⟩
theorem ref02_Is (e a x : Int) (ot : Bool) (A2 : Option Addr) (n c2 : Nat) (w : World) : Calls Tryf.prog 18 #[.agg #[.int .i64 e, .int .i64 a, .slice A2 n c2, .bool ot], .int .i64 x] w fun ev w' => ev = .returned (.bool (isV e x ot)) ∧ Below w.heap.size w w' := by
  cases ot
  all_goals
    go_enter Tryf.func18, Tryf.ntmps18
    go_wp2
    go_ret
    exact ⟨rfl, below_alloc (Below.refl _ _) _⟩
theorem ref02_Name {w : World} {e a : Int} {ot : Bool} {A2 : Option Addr} {c2 : Nat} {ns : List ByteArray} (h : Kd.C Kd.string w A2 ns.length ns) (hm : ns.length ≤ 100) : Calls Tryf.prog 17 #[.agg #[.int .i64 e, .int .i64 a, .slice A2 ns.length c2, .bool ot]] w fun ev w' => ev = .returned (.string (nameV e ot ns)) ∧ Below w.heap.size w w' := by
  by_cases h0 : ns.length = 0
  · have HV : Aside0 (nameV e ot ns = ⟨#[]⟩) := ⟨by simp [nameV, h0]⟩
    have hz : ((ns.length : Int) == 0) = true := by simpa using h0
    clear h h0
    go_enter Tryf.func17, Tryf.ntmps17
    go_wp2
    go_ret
    exact ⟨by rw [HV.out]; rfl, below_alloc (Below.refl _ _) _⟩
  · by_cases h1 : ot = false ∧ e = 0
    · have HV : Aside0 (nameV e ot ns = ⟨#[]⟩) := ⟨by simp [nameV, h1]⟩
      obtain ⟨rfl, rfl⟩ := h1
      have hz : ((ns.length : Int) == 0) = false := by simpa using h0
      clear h h0
      go_enter Tryf.func17, Tryf.ntmps17
      go_wp2
      go_ret
      exact ⟨by rw [HV.out]; rfl, below_alloc (Below.refl _ _) _⟩
    · have HV : Aside0 (nameV e ot ns = ns.getD (ns.length - 1) default) := ⟨by unfold nameV; rw [if_neg h0, if_neg h1]⟩
      obtain ⟨ad, rfl, hcx⟩ := at_str h (ns.length - 1) (by omega)
      have hlt : ad.block < w.heap.size := World.block_lt_of_cell? w (ad.add (ns.length - 1)) hcx |> fun h => by rwa [show (ad.add (ns.length - 1)).block = ad.block from by unfold Addr.add; split <;> rfl] at h
      have hz : ((ns.length : Int) == 0) = false := by simpa using h0
      have hz2 : (0 : Int) < (ns.length : Int) := by omega
      have hz3 : ((ns.length : Int) - 1).toNat = ns.length - 1 := by omega
      have hcy : ∀ o : Obj, (w.alloc o).cell? (ad.add (ns.length - 1)) = some (.string (ns.getD (ns.length - 1) default)) := fun o => pw_cell_below (below_alloc (Below.refl _ _) o) hcx
      obtain ⟨x, hx⟩ : ∃ x, ns.getD (ns.length - 1) default = x := ⟨_, rfl⟩
      rw [hx] at hcy HV
      have hot : ot = true ∨ ot = false ∧ (e == 0) = false := by
        cases ot
        · exact .inr ⟨rfl, beq_false_of_ne fun he => h1 ⟨rfl, he⟩⟩
        · exact .inl rfl
      clear h h0 h1 hcx hx
      rcases hot with rfl | ⟨rfl, he⟩
      all_goals
        go_enter Tryf.func17, Tryf.ntmps17
        go_wp2
        go_ret
        exact ⟨by rw [HV.out]; rfl, below_alloc (Below.refl _ _) _⟩
end Go.Proofs.YtnkmpinlijfocaaFmt
