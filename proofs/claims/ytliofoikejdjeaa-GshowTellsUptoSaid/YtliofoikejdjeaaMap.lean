/- A map from strings to ints that the call made. -/
import Derived.Test.YtliofoikejdjeaaBase
import Derived.Maps.Own
import Derived.Maps.OwnOps
import Derived.Maps.OwnSet
import Derived.Maps.Views
namespace Go.Proofs.Ytliofoikejdjeaa
open Go.RowKit Go.Proofs.YtliofoikejdjeaaW.PrintWords Go.Maps
set_option linter.unusedVariables false
set_option linter.unusedSimpArgs false
theorem lawS : Keyed Try.prog 9 := string_keyed Try.underlying9
theorem zeroI (w : World) : (zeroValue 3).run Try.prog w = .ok (.int .i64 0) w := by kernel_rfl
def litS (s : ByteArray) : Lit := .string s.data.toList
theorem keyS (s : ByteArray) (hs : s.size ≤ 140737488351232) : keyOf Try.prog 9 (.string s) = some (litS s) := WideMaps.keyOf_string_mk Try.underlying9 (by unfold maxLen; omega)
theorem litS_inj {s t : ByteArray} (h : litS s = litS t) : s = t := by
  injection h with h
  exact WideShapes.bytes_inj h
/-- Block b is a map that holds f, of c keys, and of n at most. -/
def MapSI (w : World) (b n : Nat) (f : ByteArray → Option Int) (c : Nat) : Prop :=
  ∃ D : DataW Unit, w.ownsMap Try.prog 9 (plainElem Try.prog 3) b n D ∧ Tidy D ∧ size D = c ∧ ∀ s, has D (litS s) = (f s).isSome ∧ D.atKey (litS s) (.lit (.int .i64 0)) = .lit (.int .i64 ((f s).getD 0))
theorem MapSI.made (w : World) : MapSI (w.alloc (.map #[] 0)) w.heap.size 0 (fun _ => none) 0 :=
  ⟨.map [], World.ownsMap_made _ _ _ _, tidy_empty, rfl, fun s => ⟨rfl, rfl⟩⟩
theorem MapSI.lt {w : World} {b n : Nat} {f : ByteArray → Option Int} {c : Nat} (h : MapSI w b n f c) : b < w.heap.size := by
  obtain ⟨D, h, _⟩ := h
  exact h.lt
theorem MapSI.below {w w1 : World} {b n : Nat} {f : ByteArray → Option Int} {c : Nat} (h : MapSI w b n f c) (hb : Below w.heap.size w w1) : MapSI w1 b n f c := by
  obtain ⟨D, ⟨es, clock, h1, h2⟩, h3⟩ := h
  exact ⟨D, ⟨es, clock, blk_below h1 hb, h2⟩, h3⟩
theorem MapSI.grown {w w1 : World} {b n : Nat} {f : ByteArray → Option Int} {c : Nat} (h : MapSI w b n f c) {row : Option Nat} (hg : w.grownBy w1 row) (hr : some b ≠ row) : MapSI w1 b n f c := by
  obtain ⟨D, ⟨es, clock, h1, h2⟩, h3⟩ := h
  exact ⟨D, ⟨es, clock, blk_grown h1 hg hr, h2⟩, h3⟩
theorem MapSI.map_ {w : World} {b n : Nat} {f : ByteArray → Option Int} {c : Nat} (h : MapSI w b n f c) : ∃ es clock, w.heap[b]? = some (.map es clock) := by
  obtain ⟨D, ⟨es, clock, h1, _⟩, _⟩ := h
  exact ⟨es, clock, h1⟩
/-- A cell stays where a map is written. -/
theorem cell_map {w w1 : World} {b : Nat} {es : Array MapEntry} {clock : Nat} (hm : w.heap[b]? = some (.map es clock)) (hg : w.grownBy w1 (some b)) {p : Addr} {v : Value} (h : w.cell? p = some v) : w1.cell? p = some v := by
  have hlt := World.block_lt_of_cell? w p h
  have hne : some p.block ≠ some b := by
    intro e
    injection e with e
    unfold World.cell? at h
    rw [e, hm] at h
    cases h
  unfold World.cell? at h ⊢
  rw [hg.block _ hlt hne]
  exact h
theorem C_str_map {w w1 : World} {b : Nat} {es : Array MapEntry} {clock : Nat} (hm : w.heap[b]? = some (.map es clock)) (hg : w.grownBy w1 (some b)) {A : Option Addr} {n : Nat} {xs : List ByteArray} (h : Kd.C Kd.string w A n xs) : Kd.C Kd.string w1 A n xs := by
  obtain ⟨h1, h2, h3⟩ := Kd.reads_of_C (d := (default : ByteArray)) h
  exact Kd.C_of_reads (d := (default : ByteArray)) ⟨h1, h2, fun hn => by
    obtain ⟨ad, e, hc⟩ := h3 hn
    exact ⟨ad, e, fun j hj => cell_map hm hg (hc j hj)⟩⟩
section
variable {w : World} {ops : Array Oper} {rest : List Oper} {o : Oper} {a : Act} {Q : Exit → Act → World → Prop} {b n c : Nat} {f : ByteArray → Option Int}
theorem msi_lookup (hg : o.guard = none) (m x : Operand) (t : TypeId) (hop : o.op = Op.lookup t m x false) (ht : Try.prog.underlying t = some (.map 9 3)) (hm : a.eval m = .map (some b)) (h : MapSI w b n f c) (s : ByteArray) (hx : a.eval x = .string s) (hs : s.size ≤ 140737488351232)
    (hK : wpList Try.prog ops Q rest (a.put o.dst (.int .i64 ((f s).getD 0))) w) : wpList Try.prog ops Q (o :: rest) a w := by
  obtain ⟨D, h1, h2, h3, h4⟩ := h
  refine wpList_lookup_own_int w hg m x t hop 9 3 .i64 lawS ht Try.underlying3 (zeroI w) b n D hm h1 _ _ hx (keyS s hs) ?_
  intro q hq _
  rw [(h4 s).2] at hq
  injection hq with hq
  injection hq with _ hq
  rw [← hq]
  exact hK
theorem msi_update (hg : o.guard = none) (m x v : Operand) (t : TypeId) (hop : o.op = Op.mapUpdate t m x v) (ht : Try.prog.underlying t = some (.map 9 3)) (hm : a.eval m = .map (some b)) (h : MapSI w b n f c) (hn : n ≤ 140737488351232) (s : ByteArray) (hx : a.eval x = .string s) (hs : s.size ≤ 140737488351232) (q : Int) (hv : a.eval v = .int .i64 q) (hq : (Lit.int .i64 q).wf = true)
    (hK : ∀ w', MapSI w' b (n + 1) (fun u => if u = s then some q else f u) (if (f s).isSome then c else c + 1) → w.grownBy w' (some b) → wpList Try.prog ops Q rest (a.put o.dst undef) w') : wpList Try.prog ops Q (o :: rest) a w := by
  obtain ⟨D, h1, h2, h3, h4⟩ := h
  refine wpList_mapUpdate_own w hg m x v t hop 9 3 lawS ht (plainElem Try.prog 3) b n D hm h1 (by unfold maxLen; omega) _ _ _ hx hv (keyS s hs) _ [] (plainElem_int Try.underlying3 hq) ?_
  intro w' h5 h6
  have hkl : WideAt.IsKeyLit (litS s) := lawS.key (keyS s hs)
  refine hK w' ⟨_, h5, h2.put hkl _, ?_, fun u => ?_⟩ h6
  · rw [size_put h2, (h4 s).1, h3]
  · by_cases e : u = s
    · subst e
      show has _ _ = (if u = u then some q else f u).isSome ∧ _ = DataW.lit (Lit.int .i64 ((if u = u then some q else f u).getD 0))
      rw [if_pos rfl]
      exact ⟨has_put_same h2.isMap hkl _, atKey_put_same h2.isMap hkl _ _⟩
    · show has _ _ = (if u = s then some q else f u).isSome ∧ _ = DataW.lit (Lit.int .i64 ((if u = s then some q else f u).getD 0))
      rw [if_neg e]
      have hne : litS u ≠ litS s := fun h => e (litS_inj h)
      exact ⟨(has_put_other hne _).trans (h4 u).1, (atKey_put_other hne _ _).trans (h4 u).2⟩
theorem msi_len (hg : o.guard = none) (m : Operand) (t : TypeId) (hop : o.op = Op.call { callee := Callee.builtin Builtin.len, args := #[m], argTypes := #[t] }) (ht : Try.prog.underlying t = some (.map 9 3)) (hm : a.eval m = .map (some b)) (h : MapSI w b n f c)
    (hK : wpList Try.prog ops Q rest (a.put o.dst (.int .i64 c)) w) : wpList Try.prog ops Q (o :: rest) a w := by
  obtain ⟨D, h1, h2, h3, h4⟩ := h
  refine wpList_len_own w hg m t hop 9 3 ht _ b n D hm h1 ?_
  rw [h3]
  exact hK
end
end Go.Proofs.Ytliofoikejdjeaa
