/- GshowTellsUpto: the row; the theorem 'gshowTellsUpto_holds'. -/
import Derived.Test.YtliofoikejdjeaaRows
import Derived.Test.YtliofoikejdjeaaTells
import Derived.WalkKit
import Derived.ProofKit
import Derived.OpenShut
import Derived.JoinedCond
import Derived.Below
import Derived.Carry
import Derived.SliceStrings
import Derived.Lib.SmallJoins
import Derived.Deep.SlicePairs
namespace Go.Proofs.Ytliofoikejdjeaa
open Go.ChangeShapes Go.WideShapes Go.ChangeAt Go.RowKit Go.Proofs.YtliofoikejdjeaaW.PrintWords
set_option linter.unusedVariables false
set_option linter.unusedSimpArgs false
section
variable {H : Type}
theorem bulk_part {d : DataW H} {l : List (DataW H)} (h : d ∈ l) : Rows.uptoBulk d ≤ Rows.uptoBulkAll l := by
  induction l with
  | nil => cases h
  | cons x r ih =>
    simp only [Rows.uptoBulkAll]
    rcases List.mem_cons.1 h with rfl | e
    · omega
    · have := ih e; omega
theorem bulk_pos (d : DataW H) : 1 ≤ Rows.uptoBulk d := by
  cases d with
  | lit l => cases l <;> simp [Rows.uptoBulk]
  | nil => simp [Rows.uptoBulk]
  | ptr d => simp [Rows.uptoBulk]
  | slice elems spare => simp [Rows.uptoBulk]
  | agg parts => simp [Rows.uptoBulk]
  | iface t d => simp [Rows.uptoBulk]
  | map entries => simp [Rows.uptoBulk]
  | held h => simp [Rows.uptoBulk]
theorem bulk_len (l : List (DataW H)) : l.length ≤ Rows.uptoBulkAll l := by
  induction l with
  | nil => simp [Rows.uptoBulkAll]
  | cons x r ih => have := bulk_pos x; simp only [Rows.uptoBulkAll, List.length_cons]; omega
theorem bulk_slice (l r : List (DataW H)) : Rows.uptoBulkAll l ≤ Rows.uptoBulk (.slice l r) := by simp only [Rows.uptoBulk]; omega
theorem bulk_agg (l : List (DataW H)) : Rows.uptoBulkAll l ≤ Rows.uptoBulk (.agg l) := by simp only [Rows.uptoBulk]; omega
variable {enc : TypeId × Value → H} {W : World} {base : Nat} {spare : Nat → Bool} {held : Bool} {fuel : Nat} {v : Value} {x : DataW H × List MemPlace}
theorem read_strs (h : DataW.trod enc Try.prog W base spare held fuel 22 [v] = some x) :
    ∃ A c, ∃ xs : List ByteArray, v = .slice A xs.length c ∧ xs.length ≤ c ∧ Kd.C Kd.string W A xs.length xs ∧ xs.length ≤ Rows.uptoBulk x.1 ∧ ∀ s ∈ xs, s.size ≤ Rows.uptoBulk x.1 := by
  rcases open_strings Try.underlying22 Try.underlying9 (by kernel_rfl) h with ⟨hcs, rfl⟩ | ⟨a, len, cap, ss, hcs, _, hl, hm, hz, rfl, hcell, _⟩
  · obtain rfl : v = .slice none 0 0 := by simpa using hcs
    exact ⟨none, 0, [], rfl, Nat.le_refl _, C_none, Nat.zero_le _, fun s hs => by cases hs⟩
  · obtain rfl : v = .slice (some a) len cap := by simpa using hcs
    have hls : len ≤ ss.length := by rw [hz]; split <;> omega
    have hxl : (ss.take len).length = len := by rw [List.length_take]; omega
    refine ⟨some a, cap, ss.take len, by rw [hxl], by omega, ⟨rfl, by rw [hxl]; unfold maxLen at hm; omega, fun _ => ⟨a, rfl, fun j p hp => ⟨[.string p], rfl, rfl, fun i u hu => ?_⟩⟩⟩, ?_, fun s hs => ?_⟩
    · cases i with
      | succ i => simp at hu
      | zero =>
        simp at hu
        subst hu
        have hj : j < len := by
          have := (List.getElem?_eq_some_iff.1 hp).1
          omega
        have h1 := hcell j (by omega)
        have h2 : ss.getD j ByteArray.empty = p := by
          rw [List.getElem?_take_of_lt hj] at hp
          rw [List.getD_eq_getElem?_getD, hp]
          rfl
        rw [h2] at h1
        simpa [Kd.string, Kd.scalar] using h1
    · refine Nat.le_trans ?_ (bulk_slice _ _)
      refine Nat.le_trans ?_ (bulk_len _)
      simp [strs]
    · refine Nat.le_trans ?_ (bulk_slice _ _)
      refine Nat.le_trans ?_ (bulk_part (d := .lit (.string s.data.toList)) (by unfold strs; exact List.mem_map.2 ⟨s, hs, rfl⟩))
      simp only [Rows.uptoBulk, data_length]
      omega
theorem read_ints (h : DataW.trod enc Try.prog W base spare held fuel 26 [v] = some x) :
    ∃ A c, ∃ xs : List Int, v = .slice A xs.length c ∧ xs.length ≤ c ∧ Kd.C (Kd.int .i64) W A xs.length xs ∧ xs.length ≤ Rows.uptoBulk x.1 := by
  rcases open_ints Try.underlying26 Try.underlying3 (by kernel_rfl) h with ⟨hcs, rfl⟩ | ⟨a, len, cap, ss, hcs, _, hl, hm, hz, rfl, hcell, _⟩
  · obtain rfl : v = .slice none 0 0 := by simpa using hcs
    exact ⟨none, 0, [], rfl, Nat.le_refl _, C_none, Nat.zero_le _⟩
  · obtain rfl : v = .slice (some a) len cap := by simpa using hcs
    have hls : len ≤ ss.length := by rw [hz]; split <;> omega
    have hxl : (ss.take len).length = len := by rw [List.length_take]; omega
    refine ⟨some a, cap, ss.take len, by rw [hxl], by omega, ⟨rfl, by rw [hxl]; unfold maxLen at hm; omega, fun _ => ⟨a, rfl, fun j p hp => ⟨[.int .i64 p], rfl, rfl, fun i u hu => ?_⟩⟩⟩, ?_⟩
    · cases i with
      | succ i => simp at hu
      | zero =>
        simp at hu
        subst hu
        have hj : j < len := by
          have := (List.getElem?_eq_some_iff.1 hp).1
          omega
        have h1 := hcell j (by omega)
        have h2 : ss.getD j 0 = p := by
          rw [List.getElem?_take_of_lt hj] at hp
          rw [List.getD_eq_getElem?_getD, hp]
          rfl
        rw [h2] at h1
        simpa [Kd.int, Kd.scalar] using h1
    · refine Nat.le_trans ?_ (bulk_slice _ _)
      refine Nat.le_trans ?_ (bulk_len _)
      simp [lits]
theorem read_rules (h : DataW.trod enc Try.prog W base spare held fuel 23 [v] = some x) :
    ∃ A c, ∃ xs : List Rl, v = .slice A xs.length c ∧ xs.length ≤ c ∧ Kd.C kRl W A xs.length xs ∧ xs.length ≤ Rows.uptoBulk x.1 ∧ ∀ r ∈ xs, r.right.length ≤ Rows.uptoBulk x.1 := by
  rcases Deep.open_slice_pairs Try.underlying23 Try.underlying28 (by kernel_rfl) rfl rfl (by kernel_rfl) (by kernel_rfl) h with ⟨hcs, rfl⟩ | ⟨a, len, cap, m, n, V0, V1, D0, D1, P0, P1, hcs, _, hl, hm, hmm, rfl, hel⟩
  · obtain rfl : v = .slice none 0 0 := by simpa using hcs
    exact ⟨none, 0, [], rfl, Nat.le_refl _, C_none, Nat.zero_le _, fun s hs => by cases hs⟩
  · obtain rfl : v = .slice (some a) len cap := by simpa using hcs
    have hlm : len ≤ m := by rw [hmm]; split <;> omega
    have each : ∀ i, i < len → ∃ r : Rl, kRl.K W r [V0 i, V1 i] ∧ r.right.length ≤ Rows.uptoBulk (D1 i) := by
      intro i hi
      obtain ⟨_, _, h0, h1⟩ := hel i (by omega)
      obtain ⟨z, e0, _, _⟩ := DataW.trod_int Try.underlying3 h0
      obtain ⟨A, c, zs, e1, hc, hC, hbk⟩ := read_ints h1
      refine ⟨{ left := z, right := zs }, ?_, hbk⟩
      rw [show V0 i = .int .i64 z from by simpa using e0, e1]
      exact kRl_mk (x := { left := z, right := zs }) hc hC
    obtain ⟨f, hf⟩ := Deep.choose_lt each
    have hxl : ((List.range len).map f).length = len := by simp
    refine ⟨some a, cap, (List.range len).map f, by rw [hxl], by omega, ⟨rfl, by rw [hxl]; unfold maxLen at hm; omega, fun _ => ⟨a, rfl, fun j p hp => ?_⟩⟩, ?_, fun r hr => ?_⟩
    · rw [List.getElem?_map] at hp
      obtain ⟨i, hi, rfl⟩ := Option.map_eq_some_iff.1 hp
      have hj : j < len := by
        have := (List.getElem?_eq_some_iff.1 hi).1
        simpa using this
      rw [List.getElem?_range hj] at hi
      obtain rfl : j = i := Option.some.inj hi
      obtain ⟨c0, c1, _, _⟩ := hel j (by omega)
      refine ⟨[V0 j, V1 j], rfl, (hf j hj).1, fun i u hu => ?_⟩
      match i with
      | 0 =>
        simp at hu
        subst hu
        exact c0
      | 1 =>
        simp at hu
        subst hu
        exact c1
      | i + 2 => simp at hu
    · refine Nat.le_trans ?_ (bulk_slice _ _)
      refine Nat.le_trans ?_ (bulk_len _)
      simp
    · obtain ⟨i, hi, rfl⟩ := List.mem_map.1 hr
      have hil := List.mem_range.1 hi
      refine Nat.le_trans (hf i hil).2 ?_
      refine Nat.le_trans ?_ (bulk_slice _ _)
      refine Nat.le_trans ?_ (bulk_part (d := .agg [D0 i, D1 i]) (List.mem_map.2 ⟨i, hi, rfl⟩))
      refine Nat.le_trans ?_ (bulk_agg _)
      exact bulk_part (by simp)
end
theorem own : ownKnob Try.prog.godebug = none := by kernel_rfl
theorem laidOut : laidOutB Try.prog = true := by kernel_rfl
section
variable {H : Type} {enc : TypeId × Value → H} {W : World} {v : Value} {d : DataW H} {p : List MemPlace} {b0 : Nat}
theorem read_gram (hv : Value.okWide Try.prog W .any b0 25 v) (h : DataW.Trod enc Try.prog W 0 (fun _ => true) true 25 v d p) (hs : Rows.uptoBulk d ≤ 1048576) :
    ∃ A0 A1 A2 c0 c1 c2 g, v = .agg (gv A0 A1 A2 c0 c1 c2 g) ∧ GmAt W A0 A1 A2 c0 c1 c2 g ∧ g.Bulk := by
  obtain ⟨v0, v1, v2, v3, y0, y1, y2, y3, m, rfl, rfl, rfl, h0, h1, h2, h3⟩ := Joins.open_agg4 Try.underlying25 (by kernel_rfl) (by kernel_rfl) hv h
  have b0 : Rows.uptoBulk y0.1 ≤ 1048576 := Nat.le_trans (Nat.le_trans (bulk_part (by simp)) (bulk_agg _)) hs
  have b1 : Rows.uptoBulk y1.1 ≤ 1048576 := Nat.le_trans (Nat.le_trans (bulk_part (by simp)) (bulk_agg _)) hs
  have b2 : Rows.uptoBulk y2.1 ≤ 1048576 := Nat.le_trans (Nat.le_trans (bulk_part (by simp)) (bulk_agg _)) hs
  obtain ⟨A0, c0, xs0, rfl, l0, k0, n0, z0⟩ := read_strs h0
  obtain ⟨A1, c1, xs1, rfl, l1, k1, n1, z1⟩ := read_strs h1
  obtain ⟨A2, c2, xs2, rfl, l2, k2, n2, z2⟩ := read_rules h2
  obtain ⟨st, e3, _, _⟩ := DataW.trod_int Try.underlying3 h3
  obtain rfl : v3 = .int .i64 st := by simpa using e3
  exact ⟨A0, A1, A2, c0, c1, c2, { terms := xs0, nons := xs1, rules := xs2, start := st }, rfl, ⟨k0, k1, k2, l0, l1, l2, Nat.le_trans n0 (Nat.le_trans b0 (by decide)), Nat.le_trans n1 (Nat.le_trans b1 (by decide)), Nat.le_trans n2 (Nat.le_trans b2 (by decide))⟩,
    ⟨Nat.le_trans n0 b0, Nat.le_trans n1 b1, Nat.le_trans n2 b2, fun s hx => Nat.le_trans (z0 s hx) b0, fun s hx => Nat.le_trans (z1 s hx) b1, fun r hx => Nat.le_trans (z2 r hx) b2⟩⟩
theorem read_rule (hv : Value.okWide Try.prog W .any b0 28 v) (h : DataW.Trod enc Try.prog W 0 (fun _ => true) true 28 v d p) (hs : Rows.uptoBulk d ≤ 1048576) :
    ∃ A c, ∃ r : Rl, v = .agg #[.int .i64 r.left, .slice A r.right.length c] ∧ Kd.C (Kd.int .i64) W A r.right.length r.right ∧ r.right.length ≤ 1048576 := by
  obtain ⟨v0, v1, y0, y1, m, rfl, rfl, rfl, h0, h1⟩ := Joins.open_agg2 Try.underlying28 (by kernel_rfl) (by kernel_rfl) hv h
  have b1 : Rows.uptoBulk y1.1 ≤ 1048576 := Nat.le_trans (Nat.le_trans (bulk_part (by simp)) (bulk_agg _)) hs
  obtain ⟨z, e0, _, _⟩ := DataW.trod_int Try.underlying3 h0
  obtain rfl : v0 = .int .i64 z := by simpa using e0
  obtain ⟨A, c, xs, rfl, l, k, n⟩ := read_ints h1
  exact ⟨A, c, { left := z, right := xs }, rfl, k, by show xs.length ≤ _; omega⟩
end
theorem contract (H : Type) (enc : TypeId × Value → H) (W : World) (base : Nat) (args : Array Value) (ds gs : List (DataW H)) (before : List MemPlace)
    (hval0 : ∀ (j : Nat) t v, Try.f3.params[j]? = some t → args[j]? = some v → Value.okWide Try.prog W .any base t v)
    (hW : DataW.Whole enc Try.prog Try.f3.params.toList Rows.gshowTellsSpec.vars false W args.toList ds gs before) (hk : Rows.uptoSmall H (ds ++ gs) = true) :
    Calls Try.prog 3 args W fun e W' => ∃ v, e = .returned v ∧ Rows.gshowTellsSpec.post enc Try.prog Try.f3 false true false false W args v W' := by
  have hval : ∀ (j : Nat) t v, Try.f3.params[j]? = some t → args[j]? = some v → Value.okWide Try.prog W .any base t v := hval0
  have hW' := hW
  obtain ⟨p, q, hA0, hV, rfl, hfz, hnd⟩ := hW
  have hA : DataW.TrodAll enc Try.prog W 0 (fun _ => true) true Try.f3.params.toList args.toList ds p := hA0
  rw [Try.params3] at hA hval
  obtain ⟨v0, vs0, d0, ds0, p0, q0, hargs, rfl, rfl, h0, r0⟩ := trodAll_cons hA
  obtain ⟨v1, vs1, d1, ds1, p1, q1, rfl, rfl, rfl, h1, r1⟩ := trodAll_cons r0
  obtain ⟨rfl, rfl, rfl⟩ := trodAll_nil r1
  obtain rfl : args = #[v0, v1] := by cases args; simp_all
  obtain ⟨rfl, rfl⟩ := trodVars_none hV
  have hb : Rows.uptoBulkAll ([d0, d1] ++ []) ≤ 1048576 := of_decide_eq_true hk
  have e0 : Rows.uptoBulk d0 ≤ 1048576 := Nat.le_trans (bulk_part (by simp)) hb
  have e1 : Rows.uptoBulk d1 ≤ 1048576 := Nat.le_trans (bulk_part (by simp)) hb
  have k0 := h0
  have k1 := h1
  have lt0 : ∀ x ∈ p0, x.block < W.heap.size := by obtain ⟨m, hm⟩ := k0; exact DataW.trod_lt m _ _ _ hm
  have lt1 : ∀ x ∈ p1, x.block < W.heap.size := by obtain ⟨m, hm⟩ := k1; exact DataW.trod_lt m _ _ _ hm
  obtain ⟨A0, A1, A2, c0, c1, c2, g, rfl, hg, hgb⟩ := read_gram (hval 0 25 v0 rfl rfl) h0 e0
  obtain ⟨A, c, r, rfl, hr, hrb⟩ := read_rule (hval 1 28 v1 rfl rfl) h1 e1
  clear hA0 hval0
  simp only [List.append_nil] at hW'
  refine (law08_GshowTells (c := c) hg hr hgb hrb).mono fun e W' ⟨he, bel⟩ => ?_
  subst he
  exact ⟨_, rfl, _, _, _, [], _, [], hW', trodAll_mk1 (shut_bool Try.underlying4 _), trodAll_cons_mk (Below.trod laidOut (by kernel_rfl) (of_decide_eq_true (by kernel_rfl)) k0 bel lt0) (trodAll_cons_mk (Below.trod laidOut (by kernel_rfl) (of_decide_eq_true (by kernel_rfl)) k1 bel lt1) trodAll_mk0), rfl, bel.frame _, fun h => by cases h⟩
set_option maxRecDepth 100000 in
theorem lifted (os : Os) (started : os.Started) (H : Type) (enc : TypeId × Value → H) (F : Stop.Interp) :
    ReturnsInHanded {} Try.checked os 3 .any ((Rows.OpenSpec.upto Rows.gshowTellsSpec).pre6 enc Try.prog Try.f3 Rows.gshowTellsUptoRow.domain false) (((Rows.OpenSpec.upto Rows.gshowTellsSpec).at F).post enc Try.prog Try.f3 false true false false) := by
  refine returnsInHanded_of_cond (C := Try.checked) (s := Rows.OpenSpec.upto Rows.gshowTellsSpec) (k := Rows.uptoSmall) rfl own started (by kernel_rfl) Try.func3
    (OpenSpec.witness (enc := enc) (C := Try.checked) (s := Rows.OpenSpec.upto Rows.gshowTellsSpec) (k := Rows.uptoSmall) rfl false ⟨#[], #[.agg #[.slice none 0 0, .slice none 0 0, .slice none 0 0, .int .i64 0], .agg #[.int .i64 0, .slice none 0 0]], []⟩ 8 (by kernel_rfl) (by kernel_rfl) (by kernel_rfl)
      (x := ([.agg [.nil, .nil, .nil, .lit (.int .i64 0)], .agg [.lit (.int .i64 0), .nil]], [], [])) (by kernel_rfl) rfl (by kernel_rfl)) ?_
  intro W base args ds gs before hval hW _ hk _
  exact contract H enc W base args ds gs before hval hW hk
theorem proved : Rows.GshowTellsUptoSaid :=
  OpenClaim.holds_of_cond 3 Try.f3 rfl rfl rfl rfl rfl rfl rfl ⟨rfl, rfl, rfl, rfl, rfl⟩ rfl rfl rfl rfl rfl (by kernel_rfl) Try.func3 (by kernel_rfl)
    (of_decide_eq_true (by kernel_rfl)) (by unfold Func.isWrapper; first | (rw [if_pos (by decide +kernel)]; kernel_rfl) | (rw [if_neg (by decide +kernel)]; exact ⟨rfl, rfl⟩))
    (fun os started H enc _ F => lifted os started H enc F)
/-- The row, under a short name, for the claim. -/
theorem gshowTellsUpto_holds : Rows.GshowTellsUptoSaid := proved
#print axioms gshowTellsUpto_holds
end Go.Proofs.Ytliofoikejdjeaa
