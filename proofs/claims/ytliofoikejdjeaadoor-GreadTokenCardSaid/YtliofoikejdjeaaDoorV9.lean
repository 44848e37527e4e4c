/- Texts laid one behind the other: BG, BM, BN, GN, Q1, PL, O1, Tq, O2, O3, O4, O5. -/
import Derived.Test.YtliofoikejdjeaaDoorV7
import Derived.Recover
import Derived.Test.YtliofoikejdjeaaDoorV8
import Derived.Test.YtliofoikejdjeaaDoorWTab
import Derived.RegionTactic
import Derived.Test.YtliofoikejdjeaaDoorV1
import Derived.Test.YtliofoikejdjeaaDoorV2
/- gread.Parse: its deferred closure. -/
namespace Go.Proofs.YtliofoikejdjeaaDoor
open Go.RowKit Go.Proofs.YtliofoikejdjeaaDoorW.PrintWords
set_option linter.unusedVariables false
set_option linter.unusedSimpArgs false
/-- What the deferred closure leaves of a panic: the zero grammar, the error. -/
def P1End (w : World) (g0 g1 : Nat) (e p : Int) (w' : World) : Prop :=
  ∃ v', w'.heap[g0]? = some (.cells #[.slice none 0 0, .slice none 0 0, .slice none 0 0, .int .i64 0] 30 (0, 0)) ∧ w'.heap[g1]? = some (.cells #[v'] 44 (0, 0)) ∧ ErrIs w' v' e p ∧ w.heap.size ≤ w'.heap.size ∧ (∀ k, k < w.heap.size → k ≠ g0 → k ≠ g1 → w'.heap[k]? = w.heap[k]?) ∧ w'.os = w.os ∧ w'.tape = w.tape ∧ w'.output = w.output
set_option maxHeartbeats 4000000 in
set_option maxRecDepth 100000 in
theorem parse1_panic {w : World} {g0 g1 : Nat} {a0 a1 a2 a3 v : Value} (h0 : w.heap[g0]? = some (.cells #[a0, a1, a2, a3] 30 (0, 0))) (h1 : w.heap[g1]? = some (.cells #[v] 44 (0, 0))) {e p : Int} (he : e ≠ 0) (older : List PanicEntry) :
    CallsD Tryd.prog 38 #[.pointer (some ⟨g0, 0, none⟩), .pointer (some ⟨g1, 0, none⟩)] (.panicking ({ v := .iface 82 (.agg #[.int .i64 e, .int .i64 p]), recovered := false } :: older)) w fun ev u' w' =>
      ev = .returned (.tuple #[]) ∧ u' = .panicking ({ v := .iface 82 (.agg #[.int .i64 e, .int .i64 p]), recovered := true } :: older) ∧ P1End w g0 g1 e p w' := by
  have hne : g1 ≠ g0 := fun e => by
    subst e
    rw [h0] at h1
    injection h1 with h1
    injection h1 with _ h1
    exact absurd h1 (by decide)
  have hne2 : g0 ≠ g1 := Ne.symm hne
  have HNE := Aside0.mk hne
  have HA := Aside0.mk (below_alloc (Below.refl w.heap.size w) (.cells #[.int .i64 e, .int .i64 p] 82 (0, 0)))
  have HE := Aside0.mk he
  have H0 := Aside0.mk h0
  have H1 := Aside0.mk h1
  have ta := fun x W => taWr x W
  clear h0 h1 he
  refine callsD_of_wpS Tryd.func38 rfl fun c₀ cs hu => ?_
  apply wpS_seq
  apply wpS_region
  simp [wpOpsS, go_sem, recoverD, hu, Tryd.ntmps38, Exit.thenS]
  simp only [← List.toArray_replicate, List.replicate, List.setIfInBounds_toArray, List.set_cons_zero, List.set_cons_succ, List.append_toArray, List.cons_append, List.nil_append]
  refine wpS_of_wp ?_
  go_wp2_with (go_at_call 39; (with_reducible refine (fault_New _ _ _ (beq_false_of_ne HE.out)).mono ?_); rintro e2 w1 ⟨v2, rfl, hv, hb1⟩; have HV := Aside0.mk hv; have HW := Aside0.mk (HA.out.trans (hb1.mono HA.out.size)); have K0 := Aside0.mk (blk_below H0.out HW.out); have K1 := Aside0.mk (blk_below H1.out HW.out); have q0 : w1.cell? ⟨g0, 0, none⟩ = some a0 := (blk_cell K0.out 0).trans rfl; have q1 : w1.cell? ⟨g0, 1, none⟩ = some a1 := (blk_cell K0.out 1).trans rfl; have q2 : w1.cell? ⟨g0, 2, none⟩ = some a2 := (blk_cell K0.out 2).trans rfl; have q3 : w1.cell? ⟨g0, 3, none⟩ = some a3 := (blk_cell K0.out 3).trans rfl; have q4 : w1.cell? ⟨g1, 0, none⟩ = some v := (blk_cell K1.out 0).trans rfl; have f0 := blk_frozen K0.out 0; have f1 := blk_frozen K0.out 1; have f2 := blk_frozen K0.out 2; have f3 := blk_frozen K0.out 3; have f4 := blk_frozen K1.out 0; obtain ⟨b2, eb2⟩ := HV.out.some_ HE.out; subst eb2; clear hv hb1)
  have k0 := blk_set (blk_set (blk_set (blk_set K0.out 0 (.slice none 0 0)) 1 (.slice none 0 0)) 2 (.slice none 0 0)) 3 (.int .i64 0)
  have k1 := blk_far (p := ⟨g0, 3, none⟩) (blk_far (p := ⟨g0, 2, none⟩) (blk_far (p := ⟨g0, 1, none⟩) (blk_far (p := ⟨g0, 0, none⟩) K1.out HNE.out (.slice none 0 0)) HNE.out (.slice none 0 0)) HNE.out (.slice none 0 0)) HNE.out (.int .i64 0)
  refine ⟨rfl, _, rfl, _, results_none rfl _ _ _, rfl, rfl, ⟨_, blk_far (p := ⟨g1, 0, none⟩) k0 hne2 _, blk_set k1 0 _, ?_, ?_, ?_, ?_, ?_, ?_⟩⟩
  · rcases HV.out with hz | ⟨hz, b, eb, hb⟩
    · exact absurd hz.1 HE.out
    · have n0 : b ≠ g0 := fun e => by
        subst e
        have := K0.out
        rw [hb] at this
        injection this with this
        injection this with _ this
        exact absurd this (by decide)
      have n1 : b ≠ g1 := fun e => by
        subst e
        have := K1.out
        rw [hb] at this
        injection this with this
        injection this with _ this
        exact absurd this (by decide)
      exact .inr ⟨hz, b, eb, blk_far (p := ⟨g1, 0, none⟩) (blk_far (p := ⟨g0, 3, none⟩) (blk_far (p := ⟨g0, 2, none⟩) (blk_far (p := ⟨g0, 1, none⟩) (blk_far (p := ⟨g0, 0, none⟩) hb n0 _) n0 _) n0 _) n0 _) n1 _⟩
  · simpa using HW.out.size
  · intro k hk h0 h1
    exact (Below.heap_setCell _ ⟨g1, 0, none⟩ _ k h1).trans ((Below.heap_setCell _ ⟨g0, 3, none⟩ _ k h0).trans ((Below.heap_setCell _ ⟨g0, 2, none⟩ _ k h0).trans ((Below.heap_setCell _ ⟨g0, 1, none⟩ _ k h0).trans ((Below.heap_setCell _ ⟨g0, 0, none⟩ _ k h0).trans (HW.out.block k hk)))))
  · exact HW.out.os
  · exact HW.out.tape
  · exact HW.out.output
set_option maxHeartbeats 4000000 in
set_option maxRecDepth 100000 in
theorem parse1_ret {w : World} {g0 g1 : Nat} :
    CallsD Tryd.prog 38 #[.pointer (some ⟨g0, 0, none⟩), .pointer (some ⟨g1, 0, none⟩)] .returning w fun ev u' w' => ev = .returned (.tuple #[]) ∧ u' = .returning ∧ w' = w := by
  refine callsD_of_wpS Tryd.func38 rfl fun c₀ cs hu => ?_
  apply wpS_seq
  apply wpS_region
  simp [wpOpsS, go_sem, recoverD, hu, Tryd.ntmps38, Exit.thenS]
  simp only [← List.toArray_replicate, List.replicate, List.setIfInBounds_toArray, List.set_cons_zero, List.set_cons_succ, List.append_toArray, List.cons_append, List.nil_append]
  refine wpS_of_wp ?_
  go_wp2
  exact ⟨rfl, .returning, (by cases c₀; simp_all), _, results_none rfl _ _ _, rfl, rfl, rfl⟩
end Go.Proofs.YtliofoikejdjeaaDoor
/- gread.Parse. -/
namespace Go.Proofs.YtliofoikejdjeaaDoor
open Go.RowKit Go.Proofs.YtliofoikejdjeaaDoorW.PrintWords Go.Proofs.YtliofoikejdjeaaDoorW.PrintLast
set_option linter.unusedVariables false
set_option linter.unusedSimpArgs false
/-! errors have numbers -/
theorem bad_err (l : List Tk) : (badS l).1 ≠ 0 := by
  unfold badS
  split <;> simp
theorem sides_err : ∀ (f : Nat) {l : List Tk} {acc : List Sd} {e : Ft}, sidesS f l acc = .error e → e.1 ≠ 0 := by
  intro f
  induction f with
  | zero => intro l acc e h; cases h; exact bad_err _
  | succ f ih =>
    intro l acc e h
    rw [sides_cont] at h
    unfold contS at h
    split at h
    · exact ih h
    · split at h
      · cases h
      · cases h
        exact bad_err _
theorem rule_err {l : List Tk} {e : Ft} (h : ruleS l = .error e) : e.1 ≠ 0 := by
  unfold ruleS at h
  split at h
  · split at h
    · cases hr : sidesS (l.length + 1) l.tail.tail [] with
      | error e' => rw [hr] at h; cases h; exact sides_err _ hr
      | ok p => rw [hr] at h; cases h
    · cases h
      exact bad_err _
  · cases h
    exact bad_err _
theorem rules_err : ∀ (f : Nat) {l : List Tk} {acc : List Ru} {e : Ft}, rulesS f l acc = .error e → e.1 ≠ 0 := by
  intro f
  induction f with
  | zero => intro l acc e h; cases h; exact bad_err _
  | succ f ih =>
    intro l acc e h
    rw [rulesS] at h
    split at h
    · cases h
    · cases hr : ruleS l with
      | error e' => rw [hr] at h; cases h; exact rule_err hr
      | ok p => obtain ⟨l2, r⟩ := p; rw [hr] at h; exact ih h
theorem head_err {l : List Tk} {x : Hd} {e : Ft} (h : headS l x = .error e) : e.1 ≠ 0 := by
  unfold headS at h
  split at h
  · split at h
    · cases h
    · cases h; exact bad_err _
  · split at h
    · split at h
      · cases h
      · cases h; exact bad_err _
    · cases h; exact bad_err _
theorem heads_err : ∀ (f : Nat) {l : List Tk} {x : Hd} {e : Ft}, headsS f l x = .error e → e.1 ≠ 0 := by
  intro f
  induction f with
  | zero => intro l x e h; cases h; exact bad_err _
  | succ f ih =>
    intro l x e h
    rw [headsS] at h
    split at h
    · cases h
    · cases hr : headS l x with
      | error e' => rw [hr] at h; cases h; exact head_err hr
      | ok p => obtain ⟨l2, r⟩ := p; rw [hr] at h; exact ih h
theorem form_err {l : List Tk} {e : Ft} (h : formS l = .error e) : e.1 ≠ 0 := by
  unfold formS at h
  cases h1 : headsS (l.length + 1) l ⟨[], [], []⟩ with
  | error e' => rw [h1] at h; cases h; exact heads_err _ h1
  | ok p =>
    obtain ⟨l1, x1⟩ := p
    rw [h1] at h
    dsimp only at h
    cases h2 : ruleS l1 with
    | error e' => rw [h2] at h; cases h; exact rule_err h2
    | ok p =>
      obtain ⟨l2, r1⟩ := p
      rw [h2] at h
      dsimp only at h
      cases h3 : rulesS (l.length + 1) l2 [r1] with
      | error e' => rw [h3] at h; cases h; exact rules_err _ h3
      | ok rs2 => rw [h3] at h; cases h
theorem term_err {t : Tk} {ts : List ByteArray} {e : Ft} (h : termB t ts = .error e) : e.1 ≠ 0 := by
  unfold termB at h
  split at h <;> cases h
  simp
theorem start_err {rs : List Ru} {x : Hd} {e : Ft} (h : startB rs x = .error e) : e.1 ≠ 0 := by
  unfold startB at h
  split at h <;> cases h
  simp
theorem declare_errN {rs : List Ru} {x : Hd} {e : Ft} : ∀ {l : List Tk} {p : Bool} {ts : List ByteArray}, declareB rs x l p ts = .error e → e.1 ≠ 0
  | [], p, ts, h => by
    rw [declareB] at h
    split at h
    · split at h
      · cases h
      · rename_i e' h'
        cases h
        exact start_err h'
    · cases h
  | t :: l, p, ts, h => by
    rw [declareB] at h
    split at h
    · rename_i e' h'
      cases h
      split at h'
      · exact start_err h'
      · cases h'
    · split at h
      · cases h
        simp
      · split at h
        · rename_i e' h'
          cases h
          exact term_err h'
        · exact declare_errN h
theorem heads_errB {rs : List Ru} {x : Hd} {e : Ft} (h : headsB rs x = .error e) : e.1 ≠ 0 := by
  unfold headsB at h
  cases hd : declareB rs x x.declared (!x.starts.isEmpty) [] with
  | ok ts =>
    rw [hd] at h
    dsimp only at h
    split at h <;> cases h
    simp
  | error e' =>
    rw [hd] at h
    dsimp only at h
    split at h <;> cases h
    · simp
    · exact declare_errN hd
theorem symbol_err {rs : List Ru} {t : Tk} {k : Nat} {ts : List ByteArray} {e : Ft} (h : symbolB rs t k ts = .error e) : e.1 ≠ 0 := by
  unfold symbolB at h
  split at h
  · cases h; simp
  · split at h
    · cases h
    · split at h
      · exact term_err h
      · split at h <;> cases h
        simp
theorem symbols_err {rs : List Ru} {e : Ft} : ∀ {l : List Tk} {k : Nat} {ts : List ByteArray}, symbolsB rs l k ts = .error e → e.1 ≠ 0
  | [], _, _, h => by cases h
  | t :: l, k, ts, h => by
    rw [symbols_step] at h
    cases hs : symbolB rs t k ts with
    | error e' => rw [hs] at h; cases h; exact symbol_err hs
    | ok ts2 => rw [hs] at h; exact symbols_err h
theorem side_err {rs : List Ru} {left : ByteArray} {s : Sd} {u : Bu} {e : Ft} (h : sideB rs left s u = .error e) : e.1 ≠ 0 := by
  unfold sideB at h
  split at h
  · cases h; simp
  · cases hs : symbolsB rs s.l 0 u.ts with
    | error e' => rw [hs] at h; cases h; exact symbols_err hs
    | ok ts2 =>
      rw [hs] at h
      dsimp only at h
      split at h <;> cases h
      simp
theorem sides_errB {rs : List Ru} {left : ByteArray} {e : Ft} : ∀ {l : List Sd} {u : Bu}, sidesB rs left l u = .error e → e.1 ≠ 0
  | [], _, h => by cases h
  | s :: l, u, h => by
    rw [sides_step] at h
    cases hs : sideB rs left s u with
    | error e' => rw [hs] at h; cases h; exact side_err hs
    | ok u' => rw [hs] at h; exact sides_errB h
theorem left_err {t : Tk} {d : Nat} {ts ns : List ByteArray} {e : Ft} (h : leftB t d ts ns = .error e) : e.1 ≠ 0 := by
  unfold leftB at h
  split at h
  · cases h; simp
  · split at h
    · cases h
    · split at h <;> cases h
      simp
theorem rules_errB {rs : List Ru} {d : Nat} {e : Ft} : ∀ {l : List Ru} {u : Bu}, rulesB rs d l u = .error e → e.1 ≠ 0
  | [], _, h => by cases h
  | r :: l, u, h => by
    rw [rulesB_step] at h
    cases hl : leftB r.left d u.ts u.ns with
    | error e' => rw [hl] at h; cases h; exact left_err hl
    | ok ns =>
      rw [hl] at h
      dsimp only at h
      cases hs : sidesB rs r.left.s r.sides { u with ns := ns } with
      | error e' => rw [hs] at h; cases h; exact sides_errB hs
      | ok u' => rw [hs] at h; exact rules_errB h
theorem build_errB {x : Hd} {rs : List Ru} {e : Ft} (h : buildB x rs = .error e) : e.1 ≠ 0 := by
  unfold buildB at h
  cases hh : headsB rs x with
  | error e' => rw [hh] at h; cases h; exact heads_errB hh
  | ok ts =>
    rw [hh] at h
    dsimp only at h
    cases hr : rulesB rs ts.length rs ⟨ts, [], []⟩ with
    | error e' => rw [hr] at h; cases h; exact rules_errB hr
    | ok u => rw [hr] at h; cases h
theorem parse_err {s : ByteArray} {e : Ft} (h : parseS s = .error e) : e.1 ≠ 0 := by
  unfold parseS at h
  split at h
  · rename_i h1
    cases h
    exact h1
  · cases hf : formS (allS s).1 with
    | error e' => rw [hf] at h; cases h; exact form_err hf
    | ok p => obtain ⟨x, rs⟩ := p; rw [hf] at h; exact build_errB h
/-! results -/
theorem results_ci {P : Program} {fn : Func} {p q : Tmp} {ty ty' : TypeId} (h : fn.results = #[.cell p ty, .cell q ty']) (tmps : Array Value) (w : World) (g g' : Nat) (t : TypeId) (cs : Array Value) (fr : Nat × Nat) (d d' : TypeDesc) (v : Value)
    (hp : tmps.getD p undef = .pointer (some ⟨g, 0, none⟩)) (hg : w.heap[g]? = some (.cells cs t fr))
    (hu : P.underlying ty = some d) (hd : (match d with | .struct _ | .array _ _ => true | _ => false) = true) (hi : (P.info? ty).map (·.size) = some cs.size)
    (hq : tmps.getD q undef = .pointer (some ⟨g', 0, none⟩)) (hv : w.cell? ⟨g', 0, none⟩ = some v) (hu' : P.underlying ty' = some d') (hd' : (match d' with | .struct _ | .array _ _ => true | _ => false) = false) :
    (results fn tmps).run P w = .ok (.tuple #[.agg cs, v]) w := by
  have hp' : tmps[p]?.getD undef = .pointer (some ⟨g, 0, none⟩) := by simpa using hp
  have hq' : tmps[q]?.getD undef = .pointer (some ⟨g', 0, none⟩) := by simpa using hq
  have hagg : (isAgg ty').run P w = .ok false w := by
    unfold isAgg
    rw [Sem.run_bind, run_underlying hu' w]
    cases d' <;> simp_all
  have hl : (loadVar ty' ⟨g', 0, none⟩).run P w = .ok v w := by
    simp [loadVar, Sem.run_bind, hagg, hv]
  simp [results, h, hp', hq', asAddr, run_loadVar_row w g t ty cs fr d hg hu hd hi, hl]
end Go.Proofs.YtliofoikejdjeaaDoor
/- gread.Parse: the walk. -/
namespace Go.Proofs.YtliofoikejdjeaaDoor
open Go.RowKit Go.Proofs.YtliofoikejdjeaaDoorW.PrintWords Go.Proofs.YtliofoikejdjeaaDoorW.PrintLast
set_option linter.unusedVariables false
set_option linter.unusedSimpArgs false

def ParseEnd (w : World) (R : Except Ft Gm) (e : Ending) (w' : World) : Prop :=
  Below w.heap.size w w' ∧ match R with
  | .error f => ∃ v, e = .returned (.tuple #[.agg #[.slice none 0 0, .slice none 0 0, .slice none 0 0, .int .i64 0], v]) ∧ ErrIs w' v f.1 f.2
  | .ok g => ∃ A0 A1 A2 c0 c1 c2, e = .returned (.tuple #[.agg (gv A0 A1 A2 c0 c1 c2 g), .nilIface]) ∧ ∀ w'', (∀ k, w.heap.size ≤ k → k < w'.heap.size → w''.heap[k]? = w'.heap[k]?) → GmAt w'' A0 A1 A2 c0 c1 c2 g
theorem ErrIs.set_ {w : World} {v : Value} {c p : Int} (h : ErrIs w v c p) {g : Nat} {cs : Array Value} {t : TypeId} (hk : w.heap[g]? = some (.cells cs t (0, 0))) (ht : t ≠ 94) (i : Nat) (x : Value) : ErrIs (w.setCell ⟨g, i, none⟩ x) v c p := by
  rcases h with h | ⟨h0, b, e, hc⟩
  · exact .inl h
  · refine .inr ⟨h0, b, e, blk_far (p := ⟨g, i, none⟩) hc (fun e => ?_) x⟩
    subst e
    rw [hk] at hc
    injection hc with hc
    injection hc with _ hc
    exact ht hc
/-- The reader's state ahead of all. -/
theorem HS.start {W0 : World} {l : List Tk} {A : Option Addr} {c : Nat} (hC : Kd.C kTk W0 A l.length l) (hc : l.length ≤ c) (hp : 0 < l.length) :
    HS W0 ((W0.alloc (.map #[] 0)).alloc (.cells #[.slice A l.length c, .slice none 0 0, .slice none 0 0, .slice none 0 0, .slice none 0 0, .map (some W0.heap.size)] 88 (0, 0))) (W0.heap.size + 1) l (.slice none 0 0) (.slice none 0 0) (.slice none 0 0) (.slice none 0 0) W0.heap.size 0 (fun _ => none) 0 [] [] [] := by
  have hb := below_alloc (below_alloc (Below.refl W0.heap.size W0) (.map #[] 0)) (.cells #[.slice A l.length c, .slice none 0 0, .slice none 0 0, .slice none 0 0, .slice none 0 0, .map (some W0.heap.size)] 88 (0, 0))
  have hn := blk_new (W0.alloc (.map #[] 0)) (.cells #[.slice A l.length c, .slice none 0 0, .slice none 0 0, .slice none 0 0, .slice none 0 0, .map (some W0.heap.size)] 88 (0, 0))
  rw [show (W0.alloc (.map #[] 0)).heap.size = W0.heap.size + 1 from by simp] at hn
  obtain ⟨ad, ea, _⟩ := hC.2.2 hp
  subst ea
  exact ⟨⟨hb, Nat.le_succ _, ⟨ad, c, hn, hc, hC⟩, hp⟩, Kd.R_nil _ _ _ _ _, Kd.R_nil _ _ _ _ _, Kd.R_nil _ _ _ _ _, (MapSI.made W0).below (below_alloc (Below.refl _ _) _), Nat.le_refl _⟩
/-- The builder's state ahead of all. -/
theorem BS.start {W1 : World} {b m : Nat} {x : Hd} {rs : List Ru} (h : RdR W1 b m x rs) :
    BS W1 (((W1.alloc (.map #[] 0)).alloc (.map #[] 0)).alloc (.cells #[.pointer (some ⟨b, 0, none⟩), .map (some W1.heap.size), .map (some (W1.heap.size + 1)), .slice none 0 0, .slice none 0 0, .slice none 0 0, .int .i64 0, .slice none 0 0] 92 (0, 0))) b m x rs (W1.heap.size + 1 + 1) W1.heap.size (W1.heap.size + 1) (.slice none 0 0) (.slice none 0 0) (.slice none 0 0) ⟨[], [], []⟩ [] [] := by
  have hn := blk_new ((W1.alloc (.map #[] 0)).alloc (.map #[] 0)) (.cells #[.pointer (some ⟨b, 0, none⟩), .map (some W1.heap.size), .map (some (W1.heap.size + 1)), .slice none 0 0, .slice none 0 0, .slice none 0 0, .int .i64 0, .slice none 0 0] 92 (0, 0))
  rw [show ((W1.alloc (.map #[] 0)).alloc (.map #[] 0)).heap.size = W1.heap.size + 1 + 1 from by simp] at hn
  have h2 := MapSI.made (W1.alloc (.map #[] 0))
  rw [show (W1.alloc (.map #[] 0)).heap.size = W1.heap.size + 1 from by simp] at h2
  exact ⟨h, below_alloc (below_alloc (below_alloc (Below.refl _ _) _) _) _, by omega, hn, Kd.R_nil _ _ _ _ _, Kd.R_nil _ _ _ _ _, Kd.R_nil _ _ _ _ _,
    ⟨0, _, 0, ((MapSI.made W1).below (below_alloc (Below.refl _ _) _)).below (below_alloc (Below.refl _ _) _), fun s => rfl, Nat.le_refl _⟩,
    ⟨0, _, 0, h2.below (below_alloc (Below.refl _ _) _), fun s => rfl, Nat.le_refl _⟩, Nat.le_refl _, Nat.le_succ _, by omega⟩
theorem P1End.below {w w4 w' : World} {e p : Int} (h : P1End w4 w.heap.size (w.heap.size + 1) e p w') (hb : Below w.heap.size w w4) : Below w.heap.size w w' := by
  obtain ⟨v', _, _, _, hsz, hbl, h1, h2, h3⟩ := h
  exact ⟨h1.trans hb.os, h2.trans hb.tape, h3.trans hb.output, Nat.le_trans hb.size hsz, fun k hk => (hbl k (Nat.lt_of_lt_of_le hk hb.size) (by omega) (by omega)).trans (hb.block k hk)⟩
theorem parse_all {s : ByteArray} (h : (allS s).2.1 ≠ 0) : parseS s = .error (allS s).2 := by unfold parseS; rw [if_pos h]
theorem parse_form {s : ByteArray} (h : (allS s).2.1 = 0) : parseS s = match formS (allS s).1 with | .error e => .error e | .ok (x, rs) => buildB x rs := by
  unfold parseS
  rw [if_neg (by simp [h])]
  cases formS (allS s).1 <;> rfl
set_option maxHeartbeats 8000000 in
set_option maxRecDepth 100000 in
theorem gread_Parse (s : ByteArray) (hs : s.size ≤ 140737488351232) {w : World} (hm : MxAt w) :
    Calls Tryd.prog 21 #[.string s] w (ParseEnd w (parseS s)) := by
  have hmf : ∀ (fn : Fn) (first cap : Array Value) (w : World), (Instr.makeFunc fn first cap).run Tryd.prog w = .ok (.func fn first cap) w := fun _ _ _ _ => rfl
  have hb2 := below_alloc (below_alloc (Below.refl w.heap.size w) (.cells #[.slice none 0 0, .slice none 0 0, .slice none 0 0, .int .i64 0] 30 (0, 0))) (.cells #[.nilIface] 44 (0, 0))
  have hk0 := blk_alloc (blk_new w (.cells #[.slice none 0 0, .slice none 0 0, .slice none 0 0, .int .i64 0] 30 (0, 0))) (.cells #[.nilIface] 44 (0, 0))
  have hk1 := blk_new (w.alloc (.cells #[.slice none 0 0, .slice none 0 0, .slice none 0 0, .int .i64 0] 30 (0, 0))) (.cells #[.nilIface] 44 (0, 0))
  rw [show (w.alloc (.cells #[.slice none 0 0, .slice none 0 0, .slice none 0 0, .int .i64 0] 30 (0, 0))).heap.size = w.heap.size + 1 from by simp] at hk1
  have HALL := Aside0.mk (gtok_All s hs (hm.below hb2))
  have HB0 := Aside0.mk hb2
  have HNE : Aside0 ((w.heap.size + 1) ≠ w.heap.size) := ⟨by omega⟩
  have HG0 : Aside0 (w.heap.size ≤ w.heap.size) := ⟨by omega⟩
  have HG1 : Aside0 (w.heap.size ≤ (w.heap.size + 1)) := ⟨by omega⟩
  have HK0 := Aside0.mk hk0
  have HK1 := Aside0.mk hk1
  clear hm hb2 hk0 hk1
  by_cases hc : (allS s).2.1 = 0
  · obtain ⟨l, hl⟩ : ∃ l, (allS s).1 = l := ⟨_, rfl⟩
    have hpf := parse_form hc
    obtain ⟨t1, t2, t3⟩ := all_fine hc
    rw [hl] at HALL hpf t1 t2 t3
    have HPF := Aside0.mk hpf
    have HT1 := Aside0.mk t1
    have HT2 := Aside0.mk (fun t (h : t ∈ l) => Nat.le_trans (t2 t h) (by decide : 8192 ≤ 10000))
    have HT3 := Aside0.mk (Nat.le_trans t3 (by decide : 8193 ≤ 10000))
    have HT4 := Aside0.mk t3
    have HLP : Aside0 (0 < l.length) := ⟨by obtain ⟨l0, t, e, _⟩ := t1; rw [e]; simp⟩
    rw [hc] at HALL
    clear hc hl hpf t1 t2 t3
    go_enter_defers Tryd.func21, Tryd.ntmps21
    go_upto_region 4 with (go_at_call 37; ((with_reducible refine HALL.out.mono ?_); rintro e w2 ⟨vs, v, rfl, hv, ho, hb⟩; have H0 := Aside0.mk (blk_below HK0.out hb); have H1 := Aside0.mk (blk_below HK1.out hb); have HB := Aside0.mk (HB0.out.trans (hb.mono HB0.out.size)); have k1 := (blk_cell H1.out 0).trans rfl; have y1 := blk_frozen H1.out 0; obtain rfl := hv.nil; have HO := Aside0.mk (Kd.R_set ho H1.out (by decide) 0 .nilIface); obtain ⟨A, c, eA, lA, CA⟩ := Kd.R_reads HO.out; subst eA; have HCA := Aside0.mk CA; have HLA := Aside0.mk lA; clear hv ho hb CA lA HO))
    have n0_ := Aside0.mk (blk_far (p := ⟨(w.heap.size + 1), 0, none⟩) H0.out (Ne.symm HNE.out) .nilIface)
    have n1_ := Aside0.mk (blk_set H1.out 0 .nilIface)
    have n2_ := Aside0.mk (HB.out.setCell (p := ⟨(w.heap.size + 1), 0, none⟩) HG1.out .nilIface)
    generalize World.setCell w2 _ _ = w3 at n0_ n1_ n2_ HCA ⊢
    clear H0 H1 HB k1 y1
    have H0 := n0_
    have H1 := n1_
    have HB := n2_
    clear n0_ n1_ n2_ HALL HK0 HK1 HB0
    have HST := Aside0.mk (HS.start HCA.out HLA.out HLP.out)
    have HFO := Aside0.mk (rd_form HST.out HT1.out HT2.out HT3.out)
    have hmk := @run_makeMap Tryd.prog
    obtain ⟨R, hR⟩ : ∃ R, formS l = R := ⟨_, rfl⟩
    rw [hR] at HFO HPF
    have HR := Aside0.mk hR
    clear hR
    cases R with
    | error f =>
      have HPV : Aside0 (parseS s = .error f) := ⟨HPF.out⟩
      go_wp2_with (go_at_call 40; ((with_reducible refine HFO.out.mono ?_); rintro e w4 ⟨⟨older, rfl, ho⟩, hb⟩))
      refine leaves_cons (f := 38) (args := #[.pointer (some ⟨w.heap.size, 0, none⟩), .pointer (some ⟨(w.heap.size + 1), 0, none⟩)]) (by simp) (by simp [go_sem]) ?_
      refine (parse1_panic (blk_below H0.out hb) (blk_below H1.out hb) (e := f.1) (p := f.2) (form_err HR.out) older).mono ?_
      rintro e u'' w'' ⟨rfl, rfl, hp⟩
      have hBW := P1End.below hp (HB.out.trans (hb.mono HB.out.size))
      obtain ⟨v', q0, q1, hv, _⟩ := hp
      show Leaves _ _ _ _ [] (settle _) _
      rw [show settle (.panicking ({ v := .iface 82 (.agg #[.int .i64 f.1, .int .i64 f.2]), recovered := true } :: older)) = .returning from by simp [settle, ho]]
      refine ⟨_, results_ci (fn := Tryd.f21) rfl _ _ w.heap.size (w.heap.size + 1) 30 _ (0, 0) _ _ _ rfl q0 Tryd.underlying30 rfl (by kernel_rfl) rfl ((blk_cell q1 0).trans rfl) Tryd.underlying44 rfl, ?_⟩
      rw [HPV.out]
      exact ⟨hBW, _, rfl, hv⟩
    | ok p =>
      obtain ⟨x, rs⟩ := p
      have HFF := Aside0.mk (form_fine HR.out HT1.out)
      have HPV : Aside0 (parseS s = buildB x rs) := ⟨HPF.out⟩
      go_upto_region 7 with (go_at_call 40; ((with_reducible refine HFO.out.mono ?_); rintro e w4 ⟨rfl, l', v1, v2, v3, v4, hrs⟩; have HRD := Aside0.mk hrs.read; have HB4 := Aside0.mk hrs.rl.below; clear hrs))
      have n0_ := Aside0.mk (blk_below H0.out HB4.out)
      have n1_ := Aside0.mk (blk_below H1.out HB4.out)
      have n2_ := Aside0.mk (HB.out.trans (HB4.out.mono HB.out.size))
      clear H0 H1 HB HST HFO HCA HLA HB4
      have H0 := n0_
      have H1 := n1_
      have HB := n2_
      clear n0_ n1_ n2_
      have HBU := Aside0.mk (b_build (BS.start HRD.out) (by have := HFF.out.dlen; have := HT3.out; omega) (fun z hz => HT2.out z (HFF.out.dec z hz)) (fun z hz => HT2.out z (HFF.out.sta z hz)) (fun hn e => hn (List.eq_nil_of_length_eq_zero (by rw [HFF.out.par, e]; rfl))) (by have := HFF.out.rlen; have := HT3.out; have := HT4.out; omega) (fun r hr => ⟨HT2.out _ (HFF.out.rin r hr).1, by have := (HFF.out.rin r hr).2.1; have := HT3.out; omega, fun s hs => ⟨by have := ((HFF.out.rin r hr).2.2 s hs).1; have := HT3.out; omega, fun t ht => HT2.out t (((HFF.out.rin r hr).2.2 s hs).2 t ht)⟩⟩))
      obtain ⟨R2, hR2⟩ : ∃ R, buildB x rs = R := ⟨_, rfl⟩
      rw [hR2] at HBU HPV
      have HR2 := Aside0.mk hR2
      clear hR2
      cases R2 with
      | error f =>
        go_wp2_with (go_at_call 41; ((with_reducible refine HBU.out.mono ?_); rintro e w5 ⟨⟨older, rfl, ho⟩, hb⟩))
        refine leaves_cons (f := 38) (args := #[.pointer (some ⟨w.heap.size, 0, none⟩), .pointer (some ⟨(w.heap.size + 1), 0, none⟩)]) (by simp) (by simp [go_sem]) ?_
        refine (parse1_panic (blk_below H0.out hb) (blk_below H1.out hb) (e := f.1) (p := f.2) (build_errB HR2.out) older).mono ?_
        rintro e u'' w'' ⟨rfl, rfl, hp⟩
        have hBW := P1End.below hp (HB.out.trans (hb.mono HB.out.size))
        obtain ⟨v', q0, q1, hv, _⟩ := hp
        show Leaves _ _ _ _ [] (settle _) _
        rw [show settle (.panicking ({ v := .iface 82 (.agg #[.int .i64 f.1, .int .i64 f.2]), recovered := true } :: older)) = .returning from by simp [settle, ho]]
        refine ⟨_, results_ci (fn := Tryd.f21) rfl _ _ w.heap.size (w.heap.size + 1) 30 _ (0, 0) _ _ _ rfl q0 Tryd.underlying30 rfl (by kernel_rfl) rfl ((blk_cell q1 0).trans rfl) Tryd.underlying44 rfl, ?_⟩
        rw [HPV.out]
        exact ⟨hBW, _, rfl, hv⟩
      | ok g =>
        go_wp2_with (go_at_call 41; ((with_reducible refine HBU.out.mono ?_); rintro e w5 ⟨A0, A1, A2, c0, c1, c2, rfl, hgm, hb⟩; have HGM := Aside0.mk hgm; have n0_ := Aside0.mk (blk_below H0.out hb); have n1_ := Aside0.mk (blk_below H1.out hb); have n2_ := Aside0.mk (HB.out.trans (hb.mono HB.out.size)); have HW4 := Aside0.mk (show w.heap.size + 1 < w4.heap.size from blk_lt H1.out); clear H0 H1 HB hgm hb; have H0 := n0_; have H1 := n1_; have HB := n2_; clear n0_ n1_ n2_; have x0 := (blk_cell H1.out 0).trans rfl; have u0 := blk_frozen H1.out 0; have z0 := (blk_cell H0.out 0).trans rfl; have z1 := (blk_cell H0.out 1).trans rfl; have z2 := (blk_cell H0.out 2).trans rfl; have z3 := (blk_cell H0.out 3).trans rfl; have y0 := blk_frozen H0.out 0; have y1 := blk_frozen H0.out 1; have y2 := blk_frozen H0.out 2; have y3 := blk_frozen H0.out 3; unfold gv))
        refine leaves_cons (f := 38) (args := #[.pointer (some ⟨w.heap.size, 0, none⟩), .pointer (some ⟨(w.heap.size + 1), 0, none⟩)]) (by simp) (by simp [go_sem]) ?_
        refine parse1_ret.mono ?_
        rintro e u'' w'' ⟨rfl, rfl, rfl⟩
        have e0 := blk_set (blk_set (blk_set (blk_set H0.out 0 (.slice A0 g.terms.length c0)) 1 (.slice A1 g.nons.length c1)) 2 (.slice A2 g.rules.length c2)) 3 (.int .i64 g.start)
        have e1 := blk_far (p := ⟨w.heap.size, 3, none⟩) (blk_far (p := ⟨w.heap.size, 2, none⟩) (blk_far (p := ⟨w.heap.size, 1, none⟩) (blk_far (p := ⟨w.heap.size, 0, none⟩) H1.out HNE.out (.slice A0 g.terms.length c0)) HNE.out (.slice A1 g.nons.length c1)) HNE.out (.slice A2 g.rules.length c2)) HNE.out (.int .i64 g.start)
        have e2 := (((HB.out.setCell (p := ⟨w.heap.size, 0, none⟩) HG0.out (.slice A0 g.terms.length c0)).setCell (p := ⟨w.heap.size, 1, none⟩) HG0.out (.slice A1 g.nons.length c1)).setCell (p := ⟨w.heap.size, 2, none⟩) HG0.out (.slice A2 g.rules.length c2)).setCell (p := ⟨w.heap.size, 3, none⟩) HG0.out (.int .i64 g.start)
        have d0 := blk_far (p := ⟨(w.heap.size + 1), 0, none⟩) e0 (Ne.symm HNE.out) .nilIface
        have d1 := blk_set e1 0 .nilIface
        have d2 := e2.setCell (p := ⟨(w.heap.size + 1), 0, none⟩) HG1.out .nilIface
        refine ⟨_, results_ci (fn := Tryd.f21) rfl _ _ w.heap.size (w.heap.size + 1) 30 _ (0, 0) _ _ _ rfl d0 Tryd.underlying30 rfl (by kernel_rfl) rfl ((blk_cell d1 0).trans rfl) Tryd.underlying44 rfl, ?_⟩
        rw [HPV.out]
        refine ⟨d2, A0, A1, A2, c0, c1, c2, rfl, fun w'' hfar => HGM.out _ (fun k hk hk2 => ?_)⟩
        have hw := HW4.out
        have n0 : k ≠ w.heap.size := by omega
        have n1 : k ≠ (w.heap.size + 1) := by omega
        refine (hfar k (by omega) (by simpa using hk2)).trans ?_
        exact (Below.heap_setCell _ ⟨(w.heap.size + 1), 0, none⟩ _ k n1).trans ((Below.heap_setCell _ ⟨w.heap.size, 3, none⟩ _ k n0).trans ((Below.heap_setCell _ ⟨w.heap.size, 2, none⟩ _ k n0).trans ((Below.heap_setCell _ ⟨w.heap.size, 1, none⟩ _ k n0).trans (Below.heap_setCell _ ⟨w.heap.size, 0, none⟩ _ k n0))))
  · have HR := Aside0.mk (parse_all hc)
    have HC := Aside0.mk hc
    clear hc
    go_enter_defers Tryd.func21, Tryd.ntmps21
    go_wp2_with (go_at_call 37; ((with_reducible refine HALL.out.mono ?_); rintro e w2 ⟨vs, v, rfl, hv, ho, hb⟩; have H0 := Aside0.mk (blk_below HK0.out hb); have H1 := Aside0.mk (blk_below HK1.out hb); have HV := Aside0.mk hv; have HB := Aside0.mk (HB0.out.trans (hb.mono HB0.out.size)); have k1 := (blk_cell H1.out 0).trans rfl; have y1 := blk_frozen H1.out 0; obtain ⟨b2, eb⟩ := hv.some_ HC.out; subst eb; clear hv ho hb))
    have n0_ := Aside0.mk (blk_far (p := ⟨(w.heap.size + 1), 0, none⟩) H0.out (Ne.symm HNE.out) (.iface 116 (.pointer (some ⟨b2, 0, none⟩))))
    have n1_ := Aside0.mk (blk_set H1.out 0 (.iface 116 (.pointer (some ⟨b2, 0, none⟩))))
    have n2_ := Aside0.mk (HB.out.setCell (p := ⟨(w.heap.size + 1), 0, none⟩) HG1.out (.iface 116 (.pointer (some ⟨b2, 0, none⟩))))
    have n3_ := Aside0.mk (HV.out.set_ H1.out (by decide) 0 (.iface 116 (.pointer (some ⟨b2, 0, none⟩))))
    generalize World.setCell w2 _ _ = w3 at n0_ n1_ n2_ n3_ ⊢
    clear H0 H1 HB HV k1 y1
    have H0 := n0_
    have H1 := n1_
    have HB := n2_
    have HV := n3_
    clear n0_ n1_ n2_ n3_
    have x0 := (blk_cell H1.out 0).trans rfl
    have v0 := blk_frozen H1.out 0
    have z0 := (blk_cell H0.out 0).trans rfl
    have z1 := (blk_cell H0.out 1).trans rfl
    have z2 := (blk_cell H0.out 2).trans rfl
    have z3 := (blk_cell H0.out 3).trans rfl
    have y0 := blk_frozen H0.out 0
    have y1 := blk_frozen H0.out 1
    have y2 := blk_frozen H0.out 2
    have y3 := blk_frozen H0.out 3
    have e0 := blk_set (blk_set (blk_set (blk_set H0.out 0 (.slice none 0 0)) 1 (.slice none 0 0)) 2 (.slice none 0 0)) 3 (.int .i64 0)
    have e1 := blk_far (p := ⟨w.heap.size, 3, none⟩) (blk_far (p := ⟨w.heap.size, 2, none⟩) (blk_far (p := ⟨w.heap.size, 1, none⟩) (blk_far (p := ⟨w.heap.size, 0, none⟩) H1.out HNE.out (.slice none 0 0)) HNE.out (.slice none 0 0)) HNE.out (.slice none 0 0)) HNE.out (.int .i64 0)
    have e2 := (((HB.out.setCell (p := ⟨w.heap.size, 0, none⟩) HG0.out (.slice none 0 0)).setCell (p := ⟨w.heap.size, 1, none⟩) HG0.out (.slice none 0 0)).setCell (p := ⟨w.heap.size, 2, none⟩) HG0.out (.slice none 0 0)).setCell (p := ⟨w.heap.size, 3, none⟩) HG0.out (.int .i64 0)
    have e3 := (((HV.out.set_ H0.out (by decide) 0 (.slice none 0 0)).set_ (blk_set H0.out 0 (.slice none 0 0)) (by decide) 1 (.slice none 0 0)).set_ (blk_set (blk_set H0.out 0 (.slice none 0 0)) 1 (.slice none 0 0)) (by decide) 2 (.slice none 0 0)).set_ (blk_set (blk_set (blk_set H0.out 0 (.slice none 0 0)) 1 (.slice none 0 0)) 2 (.slice none 0 0)) (by decide) 3 (.int .i64 0)
    have d0 := Aside0.mk (blk_drew (blk_far (p := ⟨(w.heap.size + 1), 0, none⟩) e0 (Ne.symm HNE.out) (.iface 116 (.pointer (some ⟨b2, 0, none⟩)))))
    have d1 := Aside0.mk (blk_drew (blk_set e1 0 (.iface 116 (.pointer (some ⟨b2, 0, none⟩)))))
    have d2 := Aside0.mk (below_drew (e2.setCell (p := ⟨(w.heap.size + 1), 0, none⟩) HG1.out (.iface 116 (.pointer (some ⟨b2, 0, none⟩)))))
    have d3 := Aside0.mk ((e3.set_ e1 (by decide) 0 (.iface 116 (.pointer (some ⟨b2, 0, none⟩)))).below (below_drew (Below.refl _ _)))
    clear e0 e1 e2 e3
    go_region
    all_goals
      go_wp2
      refine ⟨_, results_ci (fn := Tryd.f21) rfl _ _ w.heap.size (w.heap.size + 1) 30 _ (0, 0) _ _ _ rfl d0.out Tryd.underlying30 rfl (by kernel_rfl) rfl ((blk_cell d1.out 0).trans rfl) Tryd.underlying44 rfl, ?_⟩
      rw [HR.out]
      exact ⟨d2.out, _, rfl, d3.out⟩
end Go.Proofs.YtliofoikejdjeaaDoor
/- gram.Name. -/
namespace Go.Proofs.YtliofoikejdjeaaDoor
open Go.RowKit Go.Proofs.YtliofoikejdjeaaDoorW.PrintWords
set_option linter.unusedVariables false
set_option linter.unusedSimpArgs false
section
variable {w : World} {A0 A1 A2 : Option Addr} {c0 c1 c2 : Nat} {g : Gm}
theorem gram_Name (h : GmAt w A0 A1 A2 c0 c1 c2 g) (s : Int) : Calls Tryd.prog 26 #[.agg (gv A0 A1 A2 c0 c1 c2 g), .int .i64 s] w fun e w' => e = .returned (.string (g.nameOf s)) ∧ Below w.heap.size w w' := by
  have m0 := h.m0
  have m1 := h.m1
  by_cases z : s = 0
  · subst z
    clear h
    unfold gv
    go_enter Tryd.func26, Tryd.ntmps26
    go_wp2
    go_ret
    exact ⟨rfl, below_alloc (Below.refl _ _) _⟩
  have hzb : (s == 0) = false := beq_false_of_ne z
  have hb0 := below_alloc (Below.refl _ w) (.cells (gv A0 A1 A2 c0 c1 c2 g) 30)
  have hk0 := blk_new w (.cells (gv A0 A1 A2 c0 c1 c2 g) 30)
  have HTm := Aside0.mk (gram_Term (h.below hb0) s)
  have HNn := Aside0.mk (fun (W : World) (hb : Below w.heap.size w W) => gram_Non (h.below hb) s)
  have HT := Aside0.mk h.terms
  have HN := Aside0.mk h.nons
  have HK := Aside0.mk hk0
  have HB0 := Aside0.mk hb0
  have hlt := blk_lt hk0
  clear h hb0 hk0
  by_cases z1 : 1 ≤ s ∧ s ≤ g.terms.length
  · have ht : g.isTerm s = true := by simp [Gm.isTerm, z1]
    obtain ⟨y1, y2⟩ := z1
    have hl : (s.toNat - 1) < g.terms.length := by omega
    have hl1 : s - 1 < (g.terms.length : Int) := by omega
    have hs : s.natAbs < 4611686018427387904 := by omega
    have hl0 : 0 ≤ s - 1 := by omega
    have hr : g.nameOf s = g.terms.getD (s.toNat - 1) default := by
      unfold Gm.nameOf Gm.names
      rw [if_neg z, if_pos (by unfold Gm.top; omega), List.getD_eq_getElem?_getD, List.getD_eq_getElem?_getD, List.getElem?_append_left hl]
    rw [ht] at HTm
    rw [hr]
    obtain ⟨y, hy⟩ : ∃ y, g.terms.getD (s.toNat - 1) default = y := ⟨_, rfl⟩
    rw [hy]
    have HY := Aside0.mk hy
    clear hy
    clear hr ht HNn
    unfold gv at *
    go_enter Tryd.func26, Tryd.ntmps26
    go_wp2_with (go_at_call 44; refine HTm.out.mono ?_; rintro e w1 ⟨rfl, hb1⟩; obtain ⟨f0, f1, f2, f3⟩ := gcells (blk_below HK.out hb1); obtain ⟨ad, rfl, l2⟩ := at_str (Kd.C_below HT.out (below_new hb1)) _ hl; rw [HY.out] at l2)
    go_ret
    exact ⟨rfl, below_new hb1⟩
  have ht : g.isTerm s = false := by simp [Gm.isTerm]; omega
  rw [ht] at HTm
  clear ht
  by_cases z2 : (g.terms.length : Int) < s ∧ s ≤ g.top
  · have hn : g.isNon s = true := by simp [Gm.isNon, z2]
    obtain ⟨y1, y2⟩ := z2
    unfold Gm.top at y2
    have hl : (s.toNat - 1 - g.terms.length) < g.nons.length := by omega
    have hl1 : s - 1 - g.terms.length < (g.nons.length : Int) := by omega
    have hs : s.natAbs < 4611686018427387904 := by omega
    have hl0 : 0 ≤ s - 1 - g.terms.length := by omega
    have hr : g.nameOf s = g.nons.getD (s.toNat - 1 - g.terms.length) default := by
      unfold Gm.nameOf Gm.names
      rw [if_neg z, if_pos (by unfold Gm.top; omega), List.getD_eq_getElem?_getD, List.getD_eq_getElem?_getD, List.getElem?_append_right (by omega)]
    rw [hn] at HNn
    rw [hr]
    obtain ⟨y, hy⟩ : ∃ y, g.nons.getD (s.toNat - 1 - g.terms.length) default = y := ⟨_, rfl⟩
    rw [hy]
    have HY := Aside0.mk hy
    clear hy
    clear hr hn
    unfold gv at *
    go_enter Tryd.func26, Tryd.ntmps26
    go_wp2_with (first | (go_at_call 44; refine HTm.out.mono ?_; rintro e w1 ⟨rfl, hb1⟩; obtain ⟨f0, f1, f2, f3⟩ := gcells (blk_below HK.out hb1)) | (go_at_call 45; refine (HNn.out _ (below_new hb1)).mono ?_; rintro e w2 ⟨rfl, hb2⟩; clear f0 f1 f2 f3; obtain ⟨f0, f1, f2, f3⟩ := gcells (blk_below HK.out (hb1.trans (hb2.mono hb1.size))); obtain ⟨ad, rfl, l2⟩ := at_str (Kd.C_below HN.out ((below_new hb1).trans (hb2.mono (below_new hb1).size))) _ hl; rw [HY.out] at l2))
    go_ret
    exact ⟨rfl, (below_new hb1).trans (hb2.mono (below_new hb1).size)⟩
  · have hn : g.isNon s = false := by simp [Gm.isNon]; omega
    have hr : g.nameOf s = ⟨#[]⟩ := by
      unfold Gm.nameOf
      rw [if_neg z, if_neg (by unfold Gm.top at *; omega)]
    rw [hn] at HNn
    rw [hr]
    clear hr hn z1 z2
    unfold gv at *
    go_enter Tryd.func26, Tryd.ntmps26
    go_wp2_with (first | (go_at_call 44; refine HTm.out.mono ?_; rintro e w1 ⟨rfl, hb1⟩; obtain ⟨f0, f1, f2, f3⟩ := gcells (blk_below HK.out hb1)) | (go_at_call 45; refine (HNn.out _ (below_new hb1)).mono ?_; rintro e w2 ⟨rfl, hb2⟩))
    go_ret
    exact ⟨rfl, (below_new hb1).trans (hb2.mono (below_new hb1).size)⟩
end
end Go.Proofs.YtliofoikejdjeaaDoor
/- Tokens of a text that is laid out token by token (plain). -/
namespace Go.Proofs.YtliofoikejdjeaaDoor
open Go.RowKit Go.Proofs.YtliofoikejdjeaaDoorW.PrintWords
set_option linter.unusedVariables false
set_option linter.unusedSimpArgs false
/-- The text from a place on. -/
structure At (s : ByteArray) (a : Nat) (u : List UInt8) : Prop where
  le : a ≤ s.size
  eq : s.data.toList.drop a = u
section
variable {s : ByteArray} {a : Nat} {t u : List UInt8} {c : UInt8}
theorem At.len (h : At s a u) : s.size = a + u.length := by
  have h1 : (s.data.toList.drop a).length = u.length := by rw [h.eq]
  rw [List.length_drop, data_length] at h1
  have := h.le
  omega
theorem At.app (h : At s a (t ++ u)) : At s (a + t.length) u := by
  refine ⟨by have := h.len; rw [List.length_append] at this; omega, ?_⟩
  rw [← List.drop_drop, h.eq, List.drop_left]
theorem At.tail (h : At s a (c :: u)) : At s (a + 1) u := At.app (t := [c]) h
theorem At.lt (h : At s a (c :: u)) : a < s.size := by
  have := h.len
  simp only [List.length_cons] at this
  omega
theorem At.get (h : At s a (c :: u)) : s[a]'h.lt = c := by
  have h2 : a < s.data.toList.length := by rw [data_length]; exact h.lt
  have := h.eq
  rw [List.drop_eq_getElem_cons h2] at this
  injection this
theorem At.byte (h : At s a (c :: u)) : byteN s a = c.toNat := by rw [← byteN_at h.lt, h.get]
theorem At.span {p : UInt8 → Bool} (h : At s a (t ++ u)) (h1 : ∀ c ∈ t, p c = true) (h2 : u.takeWhile p = []) : spanS p s a = t.length := by
  unfold spanS
  rw [h.eq, List.takeWhile_append_of_pos h1, h2, List.append_nil]
theorem At.cut {t : ByteArray} (h : At s a (t.data.toList ++ u)) : cutS s a t.size = t := by
  have hl := h.len
  apply WideShapes.bytes_inj
  unfold cutS
  rw [ByteArray.data_extract, Array.toList_extract, List.extract_eq_take_drop, show a + t.size - a = t.size from by omega, h.eq, ← data_length t, List.take_left]
end
/-- From a place on these are the tokens. -/
def Toks (s : ByteArray) (a : Nat) (l : List Tk) : Prop := ∀ f, s.size < a + f → toksS s f a = (l, 0, 0)
section
variable {s : ByteArray} {a : Nat} {t u : List UInt8} {c : UInt8} {l : List Tk}
theorem Toks.done (h : At s a []) : Toks s a [⟨0, ⟨#[]⟩, s.size⟩] := by
  intro f hf
  have := h.len
  simp only [List.length_nil] at this
  obtain ⟨g, rfl⟩ : ∃ g, f = g + 1 := ⟨f - 1, by omega⟩
  rw [toksS, if_pos (by omega)]
theorem Toks.step {k : Int} {n : Nat} (ha : a < s.size) (h1 : oneS s a = (k, (n : Int), 0, 0)) (hn : 0 < n) (h : Toks s (a + n) l) : Toks s a (if k = 0 then l else ⟨k, cutS s a n, a⟩ :: l) := by
  intro f hf
  obtain ⟨g, rfl⟩ : ∃ g, f = g + 1 := ⟨f - 1, by omega⟩
  rw [toksS, if_neg (by omega)]
  simp only [h1, Int.toNat_natCast, h g (by omega)]
  rw [if_neg (by simp), if_neg (by simp)]
theorem Toks.white (h : At s a (t ++ u)) (ht : t ≠ []) (h1 : ∀ c ∈ t, whiteB c = true) (h2 : u.takeWhile whiteB = []) (hr : Toks s (a + t.length) l) : Toks s a l := by
  have hsp := h.span h1 h2
  cases t with
  | nil => exact absurd rfl ht
  | cons c t =>
    have ho : oneS s a = (0, (((c :: t).length : Nat) : Int), 0, 0) := by
      unfold oneS
      rw [dif_pos (At.lt h)]
      simp only [At.get (u := t ++ u) h]
      rw [if_pos (h1 c (List.mem_cons_self ..)), hsp]
    have := Toks.step (At.lt h) ho (by simp) hr
    rwa [if_pos rfl] at this
theorem name_head : ∀ c : UInt8, cls c.toNat = 4 → whiteB c = false ∧ c.toNat ≠ 47 ∧ c.toNat ≠ 39 ∧ c.toNat ≠ 37 := by
  have h : ∀ n : Fin 256, cls n.val = 4 → (decide (n.val = 32) || decide (n.val = 9) || decide (n.val = 10) || decide (n.val = 13)) = false ∧ n.val ≠ 47 ∧ n.val ≠ 39 ∧ n.val ≠ 37 := by decide +kernel
  intro c
  exact h ⟨c.toNat, c.toNat_lt⟩
theorem name_bytes {t : ByteArray} (h : nameOk t = true) : ∃ c r, t.data.toList = c :: r ∧ cls c.toNat = 4 ∧ ∀ x ∈ c :: r, letterB x = true := by
  unfold nameOk at h
  simp only [Bool.and_eq_true, decide_eq_true_eq] at h
  obtain ⟨h1, h2⟩ := h
  have hl := data_length t
  cases e : t.data.toList with
  | nil => rw [e] at hl; simp at hl; omega
  | cons c r =>
    have hg : ∀ (i : Nat) (hi : i < t.size), t[i]'hi = (c :: r)[i]'(by rw [← e, hl]; exact hi) := by
      intro i hi
      have : t[i]'hi = t.data.toList[i]'(by rw [hl]; exact hi) := rfl
      rw [this]
      congr 1
    refine ⟨c, r, rfl, ?_, fun x hx => ?_⟩
    · have := h2 0 h1
      rw [hg 0 h1] at this
      rcases this with h | h
      · exact h
      · exact absurd h.2 (Nat.lt_irrefl 0)
    · obtain ⟨i, hi, rfl⟩ := List.mem_iff_getElem.1 hx
      have hi' : i < t.size := by rw [← hl, e]; exact hi
      have := h2 i hi'
      rw [hg i hi'] at this
      unfold letterB
      rcases this with h | h
      · simp [h]
      · simp [h.1]
theorem Toks.name {t : ByteArray} (h : At s a (t.data.toList ++ u)) (hn : nameOk t = true) (hs : t.size ≤ 24) (h2 : u.takeWhile letterB = []) (hr : Toks s (a + t.size) l) : Toks s a (⟨1, t, a⟩ :: l) := by
  obtain ⟨c, r, e, hc, hx⟩ := name_bytes hn
  have hcut := h.cut
  have hl := data_length t
  have h3 := h
  rw [e] at h
  have hsp := h.span hx h2
  rw [← e, hl] at hsp
  obtain ⟨n1, n2, n3, n4⟩ := name_head c hc
  have ho : oneS s a = (1, (t.size : Int), 0, 0) := by
    unfold oneS
    rw [dif_pos (At.lt h)]
    simp only [At.get (u := r ++ u) h]
    rw [if_neg (by rw [n1]; decide), if_neg n2, if_neg n3, if_neg n4, if_pos hc, hsp, if_neg (by omega)]
  have hp : 0 < t.size := by rw [← hl, e]; simp
  have := Toks.step (At.lt h) ho hp hr
  rwa [if_neg (by decide), hcut] at this
theorem Toks.sign {k : Int} (h : At s a (c :: u)) (hk : signS c.toNat = k) (hk0 : k ≠ 0) (hr : Toks s (a + 1) l) : Toks s a (⟨k, ⟨#[c]⟩, a⟩ :: l) := by
  have hc : c.toNat = 58 ∨ c.toNat = 124 ∨ c.toNat = 59 := by
    unfold signS at hk
    by_cases h1 : c.toNat = 58
    · exact .inl h1
    · by_cases h2 : c.toNat = 124
      · exact .inr (.inl h2)
      · by_cases h3 : c.toNat = 59
        · exact .inr (.inr h3)
        · rw [if_neg h1, if_neg h2, if_neg h3] at hk
          exact absurd hk.symm hk0
  have hw : whiteB c = false ∧ cls c.toNat ≠ 4 := by
    unfold whiteB
    rcases hc with h | h | h <;> rw [h] <;> decide
  have ho : oneS s a = (k, ((1 : Nat) : Int), 0, 0) := by
    unfold oneS
    rw [dif_pos (At.lt h)]
    simp only [At.get h]
    rw [if_neg (by rw [hw.1]; decide), if_neg (by omega), if_neg (by omega), if_neg (by omega), if_neg hw.2, if_pos (by rw [hk]; exact hk0), hk]
    rfl
  have hcut := At.cut (s := s) (a := a) (t := ⟨#[c]⟩) (u := u) h
  have := Toks.step (At.lt h) ho (by decide) hr
  rw [if_neg hk0] at this
  rw [show cutS s a 1 = ⟨#[c]⟩ from hcut] at this
  exact this
theorem Toks.quoted {t : ByteArray} (h : At s a (t.data.toList ++ u)) (h1 : byteN t 0 = 39) (h2 : (quotedS t 0).2.1 = 0) (h3 : (quotedS t 0).1 = t.size) (hp : 0 < t.size) (hr : Toks s (a + t.size) l) : Toks s a (⟨2, t, a⟩ :: l) := by
  have hl := data_length t
  have hcut := h.cut
  -- what t is
  obtain ⟨m, hm⟩ : ∃ m, spanS insideB t 1 = m := ⟨_, rfl⟩
  have hq : ¬ t.size ≤ 1 + m ∧ byteN t (1 + m) = 39 ∧ m ≠ 0 ∧ ¬ 23 ≤ m ∧ t.size = m + 2 := by
    unfold quotedS at h2 h3
    simp only [Nat.zero_add, hm] at h2 h3
    split at h2
    · exact absurd h2 (by simp)
    · rename_i g1
      rw [if_neg g1] at h3
      split at h2
      · exact absurd h2 (by simp)
      · rename_i g2
        rw [if_neg g2] at h3
        split at h2
        · exact absurd h2 (by simp)
        · rename_i g3
          rw [if_neg g3] at h3
          simp only at h3
          exact ⟨g1, by omega, by omega, g3, by omega⟩
  obtain ⟨q1, q2, q3, q4, q5⟩ := hq
  obtain ⟨c, r, e⟩ : ∃ c r, t.data.toList = c :: r := by
    cases e : t.data.toList with
    | nil => rw [e] at hl; simp at hl; omega
    | cons c r => exact ⟨c, r, rfl⟩
  have hA : At t 0 (c :: r) := ⟨Nat.zero_le _, by rw [List.drop_zero, e]⟩
  have hc : c.toNat = 39 := by rw [← hA.byte, h1]
  have hA1 := hA.tail
  rw [Nat.zero_add] at hA1
  have hrl : r.length = m + 1 := by have := hA1.len; omega
  have hin : r.takeWhile insideB = r.take m := by
    unfold spanS at hm
    rw [hA1.eq] at hm
    have := List.takeWhile_prefix insideB (l := r)
    rw [List.prefix_iff_eq_take] at this
    rw [hm] at this
    exact this
  obtain ⟨d, hd⟩ : ∃ d, r.drop m = [d] := by
    have : (r.drop m).length = 1 := by rw [List.length_drop]; omega
    exact List.length_eq_one_iff.1 this
  have hr2 : r = r.take m ++ [d] := by rw [← hd, List.take_append_drop]
  have htl : (r.take m).length = m := by rw [List.length_take]; omega
  have hA2 : At t (1 + m) [d] := by
    have := hA1
    rw [hr2] at this
    have := this.app
    rwa [htl] at this
  have hd39 : d.toNat = 39 := by rw [← hA2.byte, q2]
  have hall : ∀ x ∈ r.take m, insideB x = true := by
    intro x hx
    rw [← hin] at hx
    exact List.all_eq_true.1 List.all_takeWhile x hx
  rw [e] at h
  have hB1 : At s (a + 1) (r.take m ++ (d :: u)) := by
    have := At.tail (u := r ++ u) h
    rw [hr2, List.append_assoc] at this
    exact this
  have hsp := hB1.span hall (by
    rw [List.takeWhile_cons]
    have : insideB d = false := by simp [insideB, hd39]
    rw [this]
    rfl)
  rw [htl] at hsp
  have hB2 := hB1.app
  rw [htl] at hB2
  have hby : byteN s (a + (1 + m)) = 39 := by
    have := hB2.byte
    rw [Nat.add_assoc] at this
    rw [this, hd39]
  have hqs : quotedS s a = ((t.size : Int), 0, 0) := by
    unfold quotedS
    simp only [hsp]
    have hlt : ¬ s.size ≤ a + (1 + m) := by have := hB2.lt; omega
    rw [if_neg hlt, if_neg (by omega), if_neg q4, q5]
    simp only [Prod.mk.injEq, and_true]
    omega
  have hw : whiteB c = false := by unfold whiteB; rw [hc]; decide
  have ho : oneS s a = (2, (t.size : Int), 0, 0) := by
    unfold oneS
    rw [dif_pos (At.lt h)]
    simp only [At.get (u := r ++ u) h]
    rw [if_neg (by rw [hw]; decide), if_neg (by omega), if_pos hc, hqs]
  have := Toks.step (At.lt h) ho hp hr
  rwa [if_neg (by decide), hcut] at this
theorem mark_head {c : UInt8} (h : At s a (c :: u)) (hc : c.toNat = 37) : oneS s a = markS s a := by
  have hw : whiteB c = false := by unfold whiteB; rw [hc]; decide
  unfold oneS
  rw [dif_pos h.lt]
  simp only [h.get]
  rw [if_neg (by rw [hw]; decide), if_neg (by omega), if_neg (by omega), if_pos hc]
theorem Toks.mark (h : At s a (37 :: 37 :: u)) (hr : Toks s (a + 2) l) : Toks s a (⟨6, ⟨#[37, 37]⟩, a⟩ :: l) := by
  have ho : oneS s a = (6, ((2 : Nat) : Int), 0, 0) := by
    rw [mark_head h rfl]
    unfold markS
    rw [if_pos (by rw [h.tail.byte]; rfl)]
    rfl
  have hcut := At.cut (s := s) (a := a) (t := ⟨#[37, 37]⟩) (u := u) h
  have := Toks.step h.lt ho (by decide) hr
  rw [if_neg (by decide), show cutS s a 2 = ⟨#[37, 37]⟩ from hcut] at this
  exact this
theorem Toks.token (h : At s a ([37, 116, 111, 107, 101, 110] ++ u)) (h2 : u.takeWhile letterB = []) (hr : Toks s (a + 6) l) : Toks s a (⟨7, ⟨#[37, 116, 111, 107, 101, 110]⟩, a⟩ :: l) := by
  have ht : At s (a + 1) ([116, 111, 107, 101, 110] ++ u) := At.tail h
  have hsp := ht.span (p := letterB) (by decide) h2
  have ho : oneS s a = (7, ((6 : Nat) : Int), 0, 0) := by
    rw [mark_head (c := 37) (u := [116, 111, 107, 101, 110] ++ u) h rfl]
    unfold markS
    rw [if_neg (by rw [At.byte (c := 116) (u := [111, 107, 101, 110] ++ u) ht]; decide)]
    simp only [hsp, ht.eq, List.take_left]
    rfl
  have hcut := At.cut (s := s) (a := a) (t := ⟨#[37, 116, 111, 107, 101, 110]⟩) (u := u) h
  have := Toks.step (At.lt (c := 37) (u := [116, 111, 107, 101, 110] ++ u) h) ho (by decide) hr
  rw [if_neg (by decide), show cutS s a 6 = ⟨#[37, 116, 111, 107, 101, 110]⟩ from hcut] at this
  exact this
theorem Toks.start (h : At s a ([37, 115, 116, 97, 114, 116] ++ u)) (h2 : u.takeWhile letterB = []) (hr : Toks s (a + 6) l) : Toks s a (⟨8, ⟨#[37, 115, 116, 97, 114, 116]⟩, a⟩ :: l) := by
  have ht : At s (a + 1) ([115, 116, 97, 114, 116] ++ u) := At.tail h
  have hsp := ht.span (p := letterB) (by decide) h2
  have ho : oneS s a = (8, ((6 : Nat) : Int), 0, 0) := by
    rw [mark_head (c := 37) (u := [115, 116, 97, 114, 116] ++ u) h rfl]
    unfold markS
    rw [if_neg (by rw [At.byte (c := 115) (u := [116, 97, 114, 116] ++ u) ht]; decide)]
    simp only [hsp, ht.eq, List.take_left]
    rw [if_neg (by decide)]
    rfl
  have hcut := At.cut (s := s) (a := a) (t := ⟨#[37, 115, 116, 97, 114, 116]⟩) (u := u) h
  have := Toks.step (At.lt (c := 37) (u := [115, 116, 97, 114, 116] ++ u) h) ho (by decide) hr
  rw [if_neg (by decide), show cutS s a 6 = ⟨#[37, 115, 116, 97, 114, 116]⟩ from hcut] at this
  exact this
end
end Go.Proofs.YtliofoikejdjeaaDoor
/- The tokens of a text, out of the list of its bytes (plain): the same, for the kernel to reckon. -/
namespace Go.Proofs.YtliofoikejdjeaaDoor
open Go.RowKit Go.Proofs.YtliofoikejdjeaaDoorW.PrintWords
set_option linter.unusedVariables false
set_option linter.unusedSimpArgs false
def spanL (p : UInt8 → Bool) (u : List UInt8) : Nat := (u.takeWhile p).length
def byteL (u : List UInt8) : Nat := match u with | [] => 0 | c :: _ => c.toNat
def quotedL (n a : Nat) (u : List UInt8) : Int × Int × Int :=
  let m := spanL insideB u.tail
  if n ≤ a + (1 + m) then (0, 4, n) else if byteL (u.drop (1 + m)) ≠ 39 ∨ m = 0 then (0, 2, a + (1 + m)) else if 23 ≤ m then (0, 5, a) else (1 + m + 1, 0, 0)
def commentL (n a : Nat) (u : List UInt8) : Int × Int × Int :=
  if byteL u.tail = 42 then
    let k := Lib.index u.tail.tail [42, 47]
    if k < 0 then (0, 4, n) else (k + 4, 0, 0)
  else (0, 2, a)
def markL (a : Nat) (u : List UInt8) : Int × Int × Int × Int :=
  if byteL u.tail = 37 then (6, 2, 0, 0) else
    let n := spanL letterB u.tail
    let t := u.tail.take n
    if t = [116, 111, 107, 101, 110] then (7, 1 + n, 0, 0) else if t = [115, 116, 97, 114, 116] then (8, 1 + n, 0, 0) else (0, 0, 2, a)
def oneL (n a : Nat) (u : List UInt8) : Int × Int × Int × Int :=
  match u with
  | [] => (0, 0, 0, 0)
  | c :: _ =>
    if whiteB c then (0, spanL whiteB u, 0, 0)
    else if c.toNat = 47 then (0, commentL n a u)
    else if c.toNat = 39 then (2, quotedL n a u)
    else if c.toNat = 37 then markL a u
    else if cls c.toNat = 4 then
      let k := spanL letterB u
      if 24 < k then (0, 0, 5, a) else (1, k, 0, 0)
    else if signS c.toNat ≠ 0 then (signS c.toNat, 1, 0, 0)
    else (0, 0, 2, a)
def toksL (n : Nat) : Nat → Nat → List UInt8 → List Tk × Int × Int
  | 0, _, _ => ([], 0, 0)
  | f + 1, a, u =>
    match u with
    | [] => ([⟨0, ⟨#[]⟩, n⟩], 0, 0)
    | c :: t =>
      let o := oneL n a (c :: t)
      if o.2.2.1 ≠ 0 then ([], o.2.2) else
      let r := toksL n f (a + o.2.1.toNat) ((c :: t).drop o.2.1.toNat)
      if r.2.1 ≠ 0 then ([], r.2) else (if o.1 = 0 then r.1 else ⟨o.1, ⟨((c :: t).take o.2.1.toNat).toArray⟩, a⟩ :: r.1, 0, 0)
def allL (u : List UInt8) : List Tk × Int × Int := if 8192 < u.length then ([], 5, 0) else toksL u.length (u.length + 1) 0 u
section
variable {s : ByteArray} {a : Nat} {u : List UInt8}
theorem At.span_L {p : UInt8 → Bool} (h : At s a u) : spanS p s a = spanL p u := by
  unfold spanS spanL
  rw [h.eq]
theorem At.byte_L (h : At s a u) : byteN s a = byteL u := by
  cases u with
  | nil =>
    have := h.len
    simp only [List.length_nil] at this
    unfold byteN byteL
    rw [dif_neg (by omega)]
  | cons c u => exact h.byte
theorem At.drop (h : At s a u) {n : Nat} (hn : n ≤ u.length) : At s (a + n) (u.drop n) := by
  have h2 : At s a (u.take n ++ u.drop n) := by rw [List.take_append_drop]; exact h
  have := h2.app
  rwa [List.length_take, Nat.min_eq_left hn] at this
theorem At.quoted {c : UInt8} (h : At s a (c :: u)) : quotedS s a = quotedL s.size a (c :: u) := by
  unfold quotedS quotedL
  rw [h.tail.span_L, List.tail_cons]
  have hl := h.tail.len
  by_cases h1 : s.size ≤ a + (1 + spanL insideB u)
  · simp only [if_pos h1]
  · simp only [if_neg h1]
    have h2 := h.drop (n := 1 + spanL insideB u) (by simp only [List.length_cons]; omega)
    rw [h2.byte_L]
theorem At.comment {c : UInt8} (h : At s a (c :: u)) : commentS s a = commentL s.size a (c :: u) := by
  unfold commentS commentL
  rw [h.tail.byte_L, List.tail_cons]
  have h3 : s.data.toList.drop (a + 2) = u.tail := by rw [← List.tail_drop, h.tail.eq]
  rw [h3]
theorem At.mark {c : UInt8} (h : At s a (c :: u)) : markS s a = markL a (c :: u) := by
  unfold markS markL
  rw [h.tail.byte_L, List.tail_cons, h.tail.span_L, h.tail.eq]
theorem At.one (h : At s a u) : oneS s a = oneL s.size a u := by
  cases u with
  | nil =>
    have := h.len
    simp only [List.length_nil] at this
    unfold oneS oneL
    rw [dif_neg (by omega)]
  | cons c u =>
    unfold oneS oneL
    rw [dif_pos h.lt]
    simp only [h.get, h.quoted, h.comment, h.mark, h.span_L]
theorem toks_L : ∀ (f : Nat) {a : Nat} {u : List UInt8}, At s a u → toksS s f a = toksL s.size f a u := by
  intro f
  induction f with
  | zero => intro a u h; rfl
  | succ f ih =>
    intro a u h
    have hl := h.len
    cases u with
    | nil =>
      simp only [List.length_nil] at hl
      rw [toksS, if_pos (by omega)]
      rfl
    | cons c u =>
      rw [toksS, if_neg (by simp only [List.length_cons] at hl; omega), toksL]
      dsimp only
      rw [h.one]
      by_cases hc : (oneL s.size a (c :: u)).2.2.1 = 0
      · simp only [hc, ne_eq, not_true_eq_false, if_false]
        have hb := one_bounds h.lt (by rw [h.one]; exact hc)
        rw [h.one] at hb
        obtain ⟨m, hm⟩ : ∃ m : Nat, (oneL s.size a (c :: u)).2.1.toNat = m := ⟨_, rfl⟩
        have hmle : m ≤ (c :: u).length := by omega
        rw [hm, ih (h.drop hmle)]
        have hcut : cutS s a m = ⟨((c :: u).take m).toArray⟩ := by
          have h2 : At s a ((⟨((c :: u).take m).toArray⟩ : ByteArray).data.toList ++ (c :: u).drop m) := by
            show At s a ((c :: u).take m ++ (c :: u).drop m)
            rw [List.take_append_drop]
            exact h
          have h3 := h2.cut
          have h4 : (⟨((c :: u).take m).toArray⟩ : ByteArray).size = m := by
            show ((c :: u).take m).toArray.size = m
            rw [List.size_toArray, List.length_take, Nat.min_eq_left hmle]
          rwa [h4] at h3
        rw [hcut]
      · rw [if_pos hc, if_pos hc]
theorem all_L (s : ByteArray) : allS s = allL s.data.toList := by
  unfold allS allL
  rw [data_length, toks_L (s.size + 1) ⟨Nat.zero_le _, by rw [List.drop_zero]⟩]
end
end Go.Proofs.YtliofoikejdjeaaDoor
/- The document's tokens: white, letters, comment, mark. -/
namespace Go.Proofs.YtliofoikejdjeaaDoor
open Go.RowKit Go.Proofs.YtliofoikejdjeaaDoorW.PrintWords
set_option linter.unusedVariables false
set_option linter.unusedSimpArgs false
theorem results_ttc {P : Program} {fn : Func} {u v p : Tmp} {ty : TypeId} (h : fn.results = #[.tmp u, .tmp v, .cell p ty]) (tmps : Array Value) (w : World) (g : Nat) (t : TypeId) (cs : Array Value) (fr : Nat × Nat) (d : TypeDesc)
    (hp : tmps.getD p undef = .pointer (some ⟨g, 0, none⟩)) (hg : w.heap[g]? = some (.cells cs t fr))
    (hu : P.underlying ty = some d) (hd : (match d with | .struct _ | .array _ _ => true | _ => false) = true) (hi : (P.info? ty).map (·.size) = some cs.size) :
    (results fn tmps).run P w = .ok (.tuple #[tmps.getD u undef, tmps.getD v undef, .agg cs]) w := by
  have hp' : tmps[p]?.getD undef = .pointer (some ⟨g, 0, none⟩) := by simpa using hp
  simp [results, h, hp', asAddr, run_loadVar_row w g t ty cs fr d hg hu hd hi]
theorem ref05_white (c : UInt8) (w : World) : Calls Tryd.prog 64 #[.int .u8 c.toNat] w fun e w' => e = .returned (.bool (whiteB c)) ∧ w' = w := by
  unfold whiteB
  generalize c.toNat = n
  by_cases h1 : n = 32
  · subst h1
    rw [show ((32 : Nat) : Int) = 32 from rfl]
    go_enter Tryd.func64, Tryd.ntmps64
    go_wp2
    go_ret
    exact ⟨rfl, rfl⟩
  have b1 : ((n : Int) == 32) = false := beq_false_of_ne (by omega)
  by_cases h2 : n = 9
  · subst h2
    rw [show ((9 : Nat) : Int) = 9 from rfl]
    try clear h1
    go_enter Tryd.func64, Tryd.ntmps64
    go_wp2
    go_ret
    exact ⟨rfl, rfl⟩
  have b2 : ((n : Int) == 9) = false := beq_false_of_ne (by omega)
  by_cases h3 : n = 10
  · subst h3
    rw [show ((10 : Nat) : Int) = 10 from rfl]
    try clear h1
    try clear h2
    go_enter Tryd.func64, Tryd.ntmps64
    go_wp2
    go_ret
    exact ⟨rfl, rfl⟩
  have b3 : ((n : Int) == 10) = false := beq_false_of_ne (by omega)
  by_cases h4 : n = 13
  · subst h4
    rw [show ((13 : Nat) : Int) = 13 from rfl]
    try clear h1
    try clear h2
    try clear h3
    go_enter Tryd.func64, Tryd.ntmps64
    go_wp2
    go_ret
    exact ⟨rfl, rfl⟩
  have b4 : ((n : Int) == 13) = false := beq_false_of_ne (by omega)
  rw [decide_eq_false h1, decide_eq_false h2, decide_eq_false h3, decide_eq_false h4]
  clear h1 h2 h3 h4
  go_enter Tryd.func64, Tryd.ntmps64
  go_wp2
  go_ret
  exact ⟨rfl, rfl⟩
set_option maxHeartbeats 1000000 in
theorem ref05_letters (s : ByteArray) (hs : s.size ≤ 140737488351232) (a : Nat) (ha : a ≤ s.size) (w : World) :
    Calls Tryd.prog 67 #[.string s, .int .i64 a] w fun e w' => e = .returned (.int .i64 (spanS letterB s a)) ∧ w' = w := by
  go_enter Tryd.func67, Tryd.ntmps67
  go_wp2
  go_loop [5] (fun v => ∃ k : Nat, a + k ≤ s.size ∧ v = .int .i64 k ∧ Aside0 (∀ (j : Nat) (h : a + j < s.size), j < k → letterB (s[a + j]'h) = true)) (fun v => s.size - (intOf v).toNat)
  case atStart => exact ⟨0, by omega, rfl, ⟨fun j _ hj => absurd hj (Nat.not_lt_zero _)⟩⟩
  case round =>
    obtain ⟨k, hk, rfl, AF⟩ := hrel
    by_cases hlt : a + k < s.size
    · have hltz : (a : Int) + (k : Int) < (s.size : Int) := by omega
      have hcl := fun W => ref01_Class (s[a + k]'hlt) W
      obtain ⟨q, hq⟩ : ∃ q, cls (s[a + k]'hlt).toNat = q := ⟨_, rfl⟩
      have HQ := Aside0.mk hq
      simp only [hq] at hcl
      by_cases q4 : q = 4
      · have HL : Aside0 (letterB (s[a + k]'hlt) = true) := ⟨by unfold letterB; rw [hq, q4]; simp⟩
        subst q4
        clear hq
        go_wp2_with (go_at_call 66; refine (hcl _).mono ?_; rintro e w' ⟨rfl, rfl⟩)
        go_round
        case rel =>
          refine ⟨k + 1, by omega, by go_num, ⟨fun j h hj => ?_⟩⟩
          by_cases e : j = k
          · subst e
            exact HL.out
          · exact AF.out j h (by omega)
        case measure => simp [intOf]; omega
      · by_cases q3 : q = 3
        · have HL : Aside0 (letterB (s[a + k]'hlt) = true) := ⟨by unfold letterB; rw [hq, q3]; simp⟩
          subst q3
          clear hq
          go_wp2_with (go_at_call 66; refine (hcl _).mono ?_; rintro e w' ⟨rfl, rfl⟩)
          go_round
          case rel =>
            refine ⟨k + 1, by omega, by go_num, ⟨fun j h hj => ?_⟩⟩
            by_cases e : j = k
            · subst e
              exact HL.out
            · exact AF.out j h (by omega)
          case measure => simp [intOf]; omega
        · have HS : Aside0 (spanS letterB s a = k) := ⟨spanS_eq hk AF.out (fun h => by unfold letterB; rw [hq, decide_eq_false q4, decide_eq_false q3]; simp)⟩
          have b4 : (q != 4) = true := by simpa using q4
          have b3 : (q != 3) = true := by simpa using q3
          clear hq q4 q3
          go_wp2_with (go_at_call 66; refine (hcl _).mono ?_; rintro e w' ⟨rfl, rfl⟩)
          go_ret
          exact ⟨rint (by rw [HS.out]), rfl⟩
    · have hltz : ¬ (a : Int) + (k : Int) < (s.size : Int) := by omega
      have HS : Aside0 (spanS letterB s a = k) := ⟨spanS_eq hk AF.out (fun h => absurd h hlt)⟩
      go_wp2
      go_ret
      exact ⟨rint (by rw [HS.out]), rfl⟩
theorem byte_out {s : ByteArray} {i : Nat} (h : ¬ i < s.size) : byteN s i = 0 := by unfold byteN; rw [dif_neg h]
theorem occ_bytes (s : ByteArray) (b i : Nat) : Lib.occAt (s.data.toList.drop b) [42, 47] i = decide (byteN s (b + i) = 42 ∧ byteN s (b + i + 1) = 47) := by
  unfold Lib.occAt
  rw [List.drop_drop]
  have hl := data_length s
  have e8 : ∀ c : UInt8, (42 == c) = decide (c.toNat = 42) := by
    intro c
    rw [Bool.eq_iff_iff, beq_iff_eq, decide_eq_true_eq]
    exact ⟨fun h => by rw [← h]; rfl, fun h => UInt8.toNat_inj.1 (by rw [h]; rfl)⟩
  have e9 : ∀ c : UInt8, (47 == c) = decide (c.toNat = 47) := by
    intro c
    rw [Bool.eq_iff_iff, beq_iff_eq, decide_eq_true_eq]
    exact ⟨fun h => by rw [← h]; rfl, fun h => UInt8.toNat_inj.1 (by rw [h]; rfl)⟩
  by_cases h1 : b + i < s.size
  · rw [List.drop_eq_getElem_cons (by omega)]
    rw [show s.data.toList[b + i]'(by omega) = s[b + i]'h1 from rfl]
    by_cases h2 : b + i + 1 < s.size
    · rw [List.drop_eq_getElem_cons (by omega)]
      rw [show s.data.toList[b + i + 1]'(by omega) = s[b + i + 1]'h2 from rfl]
      simp only [List.isPrefixOf, e8, e9, byteN_at h1, byteN_at h2, Bool.and_true]
      rw [Bool.eq_iff_iff]
      simp
    · rw [List.drop_eq_nil_of_le (by omega), byte_out h2]
      simp [List.isPrefixOf]
  · rw [List.drop_eq_nil_of_le (by omega), byte_out h1]
    simp [List.isPrefixOf]
set_option maxHeartbeats 2000000 in
theorem ref05_comment (s : ByteArray) (hs : s.size ≤ 140737488351232) (a : Nat) (ha : a < s.size) (w : World) :
    Calls Tryd.prog 65 #[.string s, .int .i64 a] w fun e w' => e = .returned (.tuple #[.int .i64 (commentS s a).1, .agg #[.int .i64 (commentS s a).2.1, .int .i64 (commentS s a).2.2]]) ∧ Below w.heap.size w w' := by
  have hcell : ∀ W : World, (W.alloc (.cells #[.int .i64 0, .int .i64 0] 34)).heap[W.heap.size]? = some (.cells #[.int .i64 0, .int .i64 0] 34 (0, 0)) := fun W => heap_alloc_new _ _
  by_cases h1 : a + 1 < s.size
  · have hbn := byteN_at h1
    have h1z : ¬ (s.size : Int) ≤ (a : Int) + 1 := by omega
    by_cases h2 : byteN s (a + 1) = 42
    · have b2 : (((s[a + 1]'h1).toNat : Int) != 42) = false := by rw [hbn, h2]; rfl
      have HC : Aside0 (∀ r, commentS s a = (if Lib.index (s.data.toList.drop (a + 2)) [42, 47] < 0 then (0, 4, (s.size : Int)) else (Lib.index (s.data.toList.drop (a + 2)) [42, 47] + 4, 0, 0)) ∨ r) := ⟨fun r => .inl (by unfold commentS; rw [if_pos h2])⟩
      have HC2 : Aside0 (commentS s a = (if Lib.index (s.data.toList.drop (a + 2)) [42, 47] < 0 then (0, 4, (s.size : Int)) else (Lib.index (s.data.toList.drop (a + 2)) [42, 47] + 4, 0, 0))) := ⟨by unfold commentS; rw [if_pos h2]⟩
      clear hbn h2 HC
      go_enter Tryd.func65, Tryd.ntmps65
      go_wp2
      go_loop [6] (fun v => ∃ k : Nat, a + 2 + k ≤ s.size + 1 ∧ v = .int .i64 ((a : Int) + 2 + k) ∧ Aside0 (∀ j, j < k → Lib.occAt (s.data.toList.drop (a + 2)) [42, 47] j = false)) (fun v => s.size + 2 - (intOf v).toNat)
      case atStart => exact ⟨0, by omega, by simp, ⟨fun j hj => absurd hj (Nat.not_lt_zero _)⟩⟩
      case round =>
        obtain ⟨k, hk, rfl, AF⟩ := hrel
        by_cases hlt : a + 2 + k + 1 < s.size
        · have hlt0 : a + 2 + k < s.size := by omega
          have hltz : (a : Int) + 2 + (k : Int) + 1 < (s.size : Int) := by omega
          have e1 : ((a : Int) + 2 + (k : Int)).toNat = a + 2 + k := by omega
          have e2 : ((a : Int) + 2 + (k : Int) + 1).toNat = a + 2 + k + 1 := by omega
          have hn := byteN_at hlt0
          have hn2 := byteN_at hlt
          have HO : Aside0 (Lib.occAt (s.data.toList.drop (a + 2)) [42, 47] k = decide (byteN s (a + 2 + k) = 42 ∧ byteN s (a + 2 + k + 1) = 47)) := ⟨occ_bytes s (a + 2) k⟩
          by_cases k1 : byteN s (a + 2 + k) = 42
          · have c1 : (((s[a + 2 + k]'hlt0).toNat : Int) == 42) = true := by rw [hn, k1]; rfl
            by_cases k2 : byteN s (a + 2 + k + 1) = 47
            · have c2 : (((s[a + 2 + k + 1]'hlt).toNat : Int) == 47) = true := by rw [hn2, k2]; rfl
              have HX : Aside0 (commentS s a = ((k : Int) + 4, 0, 0)) := ⟨by
                have hf := Lib.index_first (s := s.data.toList.drop (a + 2)) (sub := [42, 47]) (i := k) (by rw [List.length_drop, data_length]; omega) (by rw [HO.out]; exact decide_eq_true ⟨k1, k2⟩) AF.out
                rw [HC2.out, hf, if_neg (by omega)]⟩
              clear hn hn2 k1 k2
              go_wp2
              refine bodyPost_ret (v := .tuple #[.int .i64 ((k : Int) + 4), .agg #[.int .i64 0, .int .i64 0]]) ?_ rfl ⟨by rw [HX.out], ?_⟩
              · simp [results, Tryd.results65, go_sem]
                omega
              exact below_alloc (Below.refl _ _) _
            · have c2 : (((s[a + 2 + k + 1]'hlt).toNat : Int) == 47) = false := by rw [hn2]; exact beq_false_of_ne (by omega)
              have HF : Aside0 (Lib.occAt (s.data.toList.drop (a + 2)) [42, 47] k = false) := ⟨by rw [HO.out]; exact decide_eq_false (fun h => k2 h.2)⟩
              clear hn hn2 k1 k2
              go_wp2
              go_round
              case rel =>
                refine ⟨k + 1, by omega, by go_num, ⟨fun j hj => ?_⟩⟩
                by_cases e : j = k
                · subst e
                  exact HF.out
                · exact AF.out j (by omega)
              case measure => simp [intOf]; omega
          · have c1 : (((s[a + 2 + k]'hlt0).toNat : Int) == 42) = false := by rw [hn]; exact beq_false_of_ne (by omega)
            have HF : Aside0 (Lib.occAt (s.data.toList.drop (a + 2)) [42, 47] k = false) := ⟨by rw [HO.out]; exact decide_eq_false (fun h => k1 h.1)⟩
            clear hn hn2 k1
            go_wp2
            go_round
            case rel =>
              refine ⟨k + 1, by omega, by go_num, ⟨fun j hj => ?_⟩⟩
              by_cases e : j = k
              · subst e
                exact HF.out
              · exact AF.out j (by omega)
            case measure => simp [intOf]; omega
        · have hltz : ¬ (a : Int) + 2 + (k : Int) + 1 < (s.size : Int) := by omega
          have HX : Aside0 (commentS s a = (0, 4, (s.size : Int))) := ⟨by
            have hf := Lib.index_none (s := s.data.toList.drop (a + 2)) (sub := [42, 47]) (fun j _ => by
              by_cases hj : j < k
              · exact AF.out j hj
              · rw [occ_bytes]
                exact decide_eq_false (fun h => by rw [byte_out (i := a + 2 + j + 1) (by omega)] at h; exact absurd h.2 (by decide)))
            rw [HC2.out, hf, if_pos (by decide)]⟩
          go_wp2
          refine bodyPost_ret (v := .tuple #[.int .i64 0, .agg #[.int .i64 4, .int .i64 (s.size : Int)]]) (by simp [results, Tryd.results65, go_sem]) rfl ⟨by rw [HX.out], ?_⟩
          exact below_alloc (Below.refl _ _) _
    · have HX : Aside0 (commentS s a = (0, 2, (a : Int))) := ⟨by unfold commentS; rw [if_neg h2]⟩
      have b2 : (((s[a + 1]'h1).toNat : Int) != 42) = true := by rw [hbn]; simp; omega
      clear hbn h2
      go_enter Tryd.func65, Tryd.ntmps65
      go_wp2
      refine bodyPost_ret (v := .tuple #[.int .i64 0, .agg #[.int .i64 2, .int .i64 (a : Int)]]) (by simp [results, Tryd.results65, go_sem]) rfl ⟨by rw [HX.out], ?_⟩
      exact below_alloc (Below.refl _ _) _
  · have h1z : (s.size : Int) ≤ (a : Int) + 1 := by omega
    have HX : Aside0 (commentS s a = (0, 2, (a : Int))) := ⟨by unfold commentS; rw [if_neg (by rw [byte_out h1]; decide)]⟩
    go_enter Tryd.func65, Tryd.ntmps65
    go_wp2
    refine bodyPost_ret (v := .tuple #[.int .i64 0, .agg #[.int .i64 2, .int .i64 (a : Int)]]) (by simp [results, Tryd.results65, go_sem]) rfl ⟨by rw [HX.out], ?_⟩
    exact below_alloc (Below.refl _ _) _
end Go.Proofs.YtliofoikejdjeaaDoor
/- The document's quoted. -/
namespace Go.Proofs.YtliofoikejdjeaaDoor
open Go.RowKit Go.Proofs.YtliofoikejdjeaaDoorW.PrintWords
set_option linter.unusedVariables false
set_option linter.unusedSimpArgs false
set_option maxHeartbeats 4000000 in
theorem ref05_quoted (s : ByteArray) (hs : s.size ≤ 140737488351232) (a : Nat) (ha : a < s.size) (w : World) :
    Calls Tryd.prog 68 #[.string s, .int .i64 a] w fun e w' => e = .returned (.tuple #[.int .i64 (quotedS s a).1, .agg #[.int .i64 (quotedS s a).2.1, .int .i64 (quotedS s a).2.2]]) ∧ Below w.heap.size w w' := by
  have hle := spanS_le insideB s (a + 1) (by omega)
  have hcell : ∀ W : World, (W.alloc (.cells #[.int .i64 0, .int .i64 0] 34)).heap[W.heap.size]? = some (.cells #[.int .i64 0, .int .i64 0] 34 (0, 0)) := fun W => heap_alloc_new _ _
  go_enter Tryd.func68, Tryd.ntmps68
  go_wp2
  go_loop [6] (fun v => ∃ k : Nat, a + 1 + k ≤ s.size ∧ v = .int .i64 ((1 : Int) + k) ∧ Aside0 (∀ (j : Nat) (h : a + 1 + j < s.size), j < k → insideB (s[a + 1 + j]'h) = true)) (fun v => s.size + 1 - (intOf v).toNat)
  case atStart => exact ⟨0, by omega, rfl, ⟨fun j _ hj => absurd hj (Nat.not_lt_zero _)⟩⟩
  case round =>
    obtain ⟨k, hk, rfl, AF⟩ := hrel
    by_cases hlt : a + (1 + k) < s.size
    · have hlt' : a + 1 + k < s.size := by omega
      have hltz : (a : Int) + (1 + (k : Int)) < (s.size : Int) := by omega
      have hin := fun W => ref05_inside (s[a + (1 + k)]'hlt) W
      cases hq : insideB (s[a + (1 + k)]'hlt) with
      | true =>
        have HQ : Aside0 (insideB (s[a + 1 + k]'hlt') = true) := ⟨by rw [← hq]; simp only [Nat.add_assoc]⟩
        rw [hq] at hin
        clear hq
        go_wp2_with (go_at_call 99; refine (hin _).mono ?_; rintro e w' ⟨rfl, rfl⟩)
        go_round
        case rel =>
          refine ⟨k + 1, by omega, by go_num, ⟨fun j h hj => ?_⟩⟩
          by_cases e : j = k
          · subst e
            exact HQ.out
          · exact AF.out j h (by omega)
        case measure => simp [intOf]; omega
      | false =>
        have HS : Aside0 (spanS insideB s (a + 1) = k) := ⟨spanS_eq hk AF.out (fun h => by rw [← hq]; simp only [Nat.add_assoc])⟩
        rw [hq] at hin
        clear hq
        have hbn := byteN_at hlt
        by_cases h2 : byteN s (a + (1 + k)) ≠ 39 ∨ k = 0
        · have HF : Aside0 (quotedS s a = (0, 2, (a : Int) + (1 + k))) := ⟨by unfold quotedS; simp only [HS.out]; rw [if_neg (by omega), if_pos h2]⟩
          by_cases h3 : byteN s (a + (1 + k)) = 39
          · obtain rfl : k = 0 := h2.resolve_left (by simp [h3])
            have h4 : (((s[a + 1]'hlt).toNat : Int) != 39) = false := by rw [show (s[a + 1]'hlt).toNat = byteN s (a + 1) from hbn, show byteN s (a + 1) = 39 from h3]; rfl
            clear hbn h2 h3
            go_wp2_with (go_at_call 99; refine (hin _).mono ?_; rintro e w' ⟨rfl, rfl⟩)
            refine bodyPost_ret (v := .tuple #[.int .i64 0, .agg #[.int .i64 2, .int .i64 ((a : Int) + 1)]]) (by simp [results, Tryd.results68, go_sem]) rfl ⟨by rw [HF.out]; simp, ?_⟩
            exact below_alloc (Below.refl _ _) _
          · have h4 : (((s[a + (1 + k)]'hlt).toNat : Int) != 39) = true := by rw [hbn]; simp; omega
            clear hbn h2 h3
            go_wp2_with (go_at_call 99; refine (hin _).mono ?_; rintro e w' ⟨rfl, rfl⟩)
            refine bodyPost_ret (v := .tuple #[.int .i64 0, .agg #[.int .i64 2, .int .i64 ((a : Int) + (1 + k))]]) (by simp [results, Tryd.results68, go_sem]) rfl ⟨by rw [HF.out], ?_⟩
            exact below_alloc (Below.refl _ _) _
        · have h3 : byteN s (a + (1 + k)) = 39 := by omega
          have h5 : (1 + (k : Int) == 1) = false := by simp; omega
          have h4 : (((s[a + (1 + k)]'hlt).toNat : Int) != 39) = false := by rw [hbn, h3]; rfl
          by_cases h6 : 23 ≤ k
          · have HF : Aside0 (quotedS s a = (0, 5, (a : Int))) := ⟨by unfold quotedS; simp only [HS.out]; rw [if_neg (by omega), if_neg h2, if_pos h6]⟩
            clear hbn h2 h3
            go_wp2_with (go_at_call 99; refine (hin _).mono ?_; rintro e w' ⟨rfl, rfl⟩)
            refine bodyPost_ret (v := .tuple #[.int .i64 0, .agg #[.int .i64 5, .int .i64 (a : Int)]]) (by simp [results, Tryd.results68, go_sem]) rfl ⟨by rw [HF.out], ?_⟩
            exact below_alloc (Below.refl _ _) _
          · have HF : Aside0 (quotedS s a = (1 + (k : Int) + 1, 0, 0)) := ⟨by unfold quotedS; simp only [HS.out]; rw [if_neg (by omega), if_neg h2, if_neg h6]⟩
            clear hbn h2 h3
            go_wp2_with (go_at_call 99; refine (hin _).mono ?_; rintro e w' ⟨rfl, rfl⟩)
            refine bodyPost_ret (v := .tuple #[.int .i64 (1 + (k : Int) + 1), .agg #[.int .i64 0, .int .i64 0]]) (by simp [results, Tryd.results68, go_sem]) rfl ⟨by rw [HF.out], ?_⟩
            exact below_alloc (Below.refl _ _) _
    · have hltz : ¬ (a : Int) + (1 + (k : Int)) < (s.size : Int) := by omega
      have HS : Aside0 (spanS insideB s (a + 1) = k) := ⟨spanS_eq hk AF.out (fun h => absurd h (by omega))⟩
      have HF : Aside0 (quotedS s a = (0, 4, (s.size : Int))) := ⟨by unfold quotedS; simp only [HS.out]; rw [if_pos (by omega)]⟩
      go_wp2
      refine bodyPost_ret (v := .tuple #[.int .i64 0, .agg #[.int .i64 4, .int .i64 (s.size : Int)]]) (by simp [results, Tryd.results68, go_sem]) rfl ⟨by rw [HF.out], ?_⟩
      exact below_alloc (Below.refl _ _) _
end Go.Proofs.YtliofoikejdjeaaDoor
/- The document's tokens: mark, one. -/
namespace Go.Proofs.YtliofoikejdjeaaDoor
open Go.RowKit Go.Proofs.YtliofoikejdjeaaDoorW.PrintWords
set_option linter.unusedVariables false
set_option linter.unusedSimpArgs false
set_option maxHeartbeats 2000000 in
theorem ref05_mark (s : ByteArray) (hs : s.size ≤ 140737488351232) (a : Nat) (ha : a < s.size) (w : World) :
    Calls Tryd.prog 69 #[.string s, .int .i64 a] w fun e w' => e = .returned (.tuple #[.int .i64 (markS s a).1, .int .i64 (markS s a).2.1, .agg #[.int .i64 (markS s a).2.2.1, .int .i64 (markS s a).2.2.2]]) ∧ Below w.heap.size w w' := by
  have hcell : ∀ W : World, (W.alloc (.cells #[.int .i64 0, .int .i64 0] 34)).heap[W.heap.size]? = some (.cells #[.int .i64 0, .int .i64 0] 34 (0, 0)) := fun W => heap_alloc_new _ _
  by_cases h1 : byteN s (a + 1) = 37
  · have hlt : a + 1 < s.size := byteN_lt (by omega)
    have hltz : (a : Int) + 1 < (s.size : Int) := by omega
    have b1 : (((s[a + 1]'hlt).toNat : Int) == 37) = true := by rw [byteN_at hlt, h1]; rfl
    have HX : Aside0 (markS s a = (6, 2, 0, 0)) := ⟨by unfold markS; rw [if_pos h1]⟩
    clear h1
    go_enter Tryd.func69, Tryd.ntmps69
    go_wp2
    refine bodyPost_ret (v := .tuple #[.int .i64 6, .int .i64 2, .agg #[.int .i64 0, .int .i64 0]]) (by simp [results, Tryd.results69, go_sem]) rfl ⟨by rw [HX.out], ?_⟩
    exact below_alloc (Below.refl _ _) _
  · have hsp := fun W => ref05_letters s hs (a + 1) (by omega) W
    have hle := spanS_le letterB s (a + 1) (by omega)
    rw [show (((a + 1 : Nat) : Int)) = (a : Int) + 1 from by omega] at hsp
    have hsl := span_list s (a + 1) (spanS letterB s (a + 1))
    have hM : markS s a = (if (s.data.toList.drop (a + 1)).take (spanS letterB s (a + 1)) = [116, 111, 107, 101, 110] then (7, 1 + (spanS letterB s (a + 1) : Int), 0, 0) else if (s.data.toList.drop (a + 1)).take (spanS letterB s (a + 1)) = [115, 116, 97, 114, 116] then (8, 1 + (spanS letterB s (a + 1) : Int), 0, 0) else (0, 0, 2, (a : Int))) := by unfold markS; rw [if_neg h1]
    generalize spanS letterB s (a + 1) = n at *
    have hlen : ((s.data.toList.drop (a + 1)).take n).length = n := by rw [List.length_take, List.length_drop, data_length]; omega
    rw [← hsl] at hM hlen
    have ht : (s.extract (a + 1) (a + 1 + n)).toList = (s.extract (a + 1) (a + 1 + n)).data.toList := ByteArray.toList_eq ..
    obtain ⟨t, ht'⟩ : ∃ t, (s.extract (a + 1) (a + 1 + n)).data.toList = t := ⟨_, rfl⟩
    rw [ht'] at ht hM hlen
    clear ht' hsl
    have HM := Aside0.mk hM
    have hz1 : ¬ (s.size : Int) < (a : Int) + 1 + (n : Int) := by omega
    have hz2 : ¬ (a : Int) + 1 + (n : Int) < (a : Int) + 1 := by omega
    have HH : Aside0 (byteN s (a + 1) ≠ 37) := ⟨h1⟩
    clear hM h1
    have start : (∃ hlt : a + 1 < s.size, (((s[a + 1]'hlt).toNat : Int) == 37) = false) ∨ ¬ (a : Int) + 1 < (s.size : Int) := by
      by_cases hlt : a + 1 < s.size
      · exact .inl ⟨hlt, by rw [byteN_at hlt]; exact beq_false_of_ne (by have := HH.out; omega)⟩
      · exact .inr (by omega)
    rcases start with ⟨hlt, b1⟩ | hno
    all_goals
      (try have hltz : (a : Int) + 1 < (s.size : Int) := by omega)
      by_cases h2 : t = [116, 111, 107, 101, 110]
      · have HX : Aside0 (markS s a = (7, 6, 0, 0)) := ⟨by
          rw [HM.out, if_pos h2]
          have : n = 5 := by rw [← hlen, h2]; rfl
          rw [this]
          rfl⟩
        clear hlen
        go_enter Tryd.func69, Tryd.ntmps69
        go_wp2_with (go_at_call 67; refine (hsp _).mono ?_; rintro e w' ⟨rfl, rfl⟩)
        refine bodyPost_ret (v := .tuple #[.int .i64 7, .int .i64 6, .agg #[.int .i64 0, .int .i64 0]]) (by simp [results, Tryd.results69, go_sem]) rfl ⟨by rw [HX.out], ?_⟩
        exact below_alloc (Below.refl _ _) _
      · have q1 : (t == [116, 111, 107, 101, 110]) = false := by simpa using h2
        by_cases h3 : t = [115, 116, 97, 114, 116]
        · have HX : Aside0 (markS s a = (8, 6, 0, 0)) := ⟨by
            rw [HM.out, if_neg h2, if_pos h3]
            have : n = 5 := by rw [← hlen, h3]; rfl
            rw [this]
            rfl⟩
          clear hlen h2
          go_enter Tryd.func69, Tryd.ntmps69
          go_wp2_with (go_at_call 67; refine (hsp _).mono ?_; rintro e w' ⟨rfl, rfl⟩)
          refine bodyPost_ret (v := .tuple #[.int .i64 8, .int .i64 6, .agg #[.int .i64 0, .int .i64 0]]) (by simp [results, Tryd.results69, go_sem]) rfl ⟨by rw [HX.out], ?_⟩
          exact below_alloc (Below.refl _ _) _
        · have q2 : (t == [115, 116, 97, 114, 116]) = false := by simpa using h3
          have HX : Aside0 (markS s a = (0, 0, 2, (a : Int))) := ⟨by rw [HM.out, if_neg h2, if_neg h3]⟩
          clear hlen h2 h3
          go_enter Tryd.func69, Tryd.ntmps69
          go_wp2_with (go_at_call 67; refine (hsp _).mono ?_; rintro e w' ⟨rfl, rfl⟩)
          refine bodyPost_ret (v := .tuple #[.int .i64 0, .int .i64 0, .agg #[.int .i64 2, .int .i64 (a : Int)]]) (by simp [results, Tryd.results69, go_sem]) rfl ⟨by rw [HX.out], ?_⟩
          exact below_alloc (Below.refl _ _) _
/-- The document passes a white byte over alone. -/
def oneR (s : ByteArray) (a : Nat) : Int × Int × Int × Int := if h : a < s.size then (if whiteB (s[a]'h) then (0, 1, 0, 0) else oneS s a) else (0, 0, 0, 0)
end Go.Proofs.YtliofoikejdjeaaDoor
/- The errors of a text's tokens, as the document comes to them (plain). -/
namespace Go.Proofs.YtliofoikejdjeaaDoor
open Go.RowKit Go.Proofs.YtliofoikejdjeaaDoorW.PrintWords
set_option linter.unusedVariables false
set_option linter.unusedSimpArgs false
theorem toks_fuel {s : ByteArray} : ∀ (f g a : Nat), a ≤ s.size → s.size < a + f → s.size < a + g → toksS s f a = toksS s g a := by
  intro f
  induction f with
  | zero => intro g a h1 h2; omega
  | succ f ih =>
    intro g a h1 h2 h3
    obtain ⟨g, rfl⟩ : ∃ k, g = k + 1 := ⟨g - 1, by omega⟩
    by_cases hlt : a < s.size
    · by_cases hc : (oneS s a).2.2.1 = 0
      · obtain ⟨b1, b2⟩ := one_bounds hlt hc
        unfold toksS
        dsimp only
        rw [ih g (a + (oneS s a).2.1.toNat) (by omega) (by omega) (by omega)]
      · rw [toks_bad hlt hc, toks_bad hlt hc]
    · rw [toks_end (by omega), toks_end (by omega)]
/-- The error from a place on. -/
def errS (s : ByteArray) (a : Nat) : Int × Int := (toksS s (s.size + 1) a).2
theorem errS_end (s : ByteArray) : errS s s.size = (0, 0) := by unfold errS; rw [toks_end (Nat.le_refl _)]
theorem errS_bad {s : ByteArray} {a : Nat} (h : a < s.size) (hc : (oneS s a).2.2.1 ≠ 0) : errS s a = (oneS s a).2.2 := by unfold errS; rw [toks_bad h hc]
theorem errS_step {s : ByteArray} {a n : Nat} (h : a < s.size) (hc : (oneS s a).2.2.1 = 0) (hn : (oneS s a).2.1 = n) : errS s a = errS s (a + n) := by
  obtain ⟨b1, b2⟩ := one_bounds h hc
  unfold errS
  rw [toks_fuel (s.size + 1) s.size (a + n) (by omega) (by omega) (by omega)]
  rw [toksS, if_neg (by omega)]
  dsimp only
  rw [hn, Int.toNat_natCast, if_neg (by rw [hc]; simp)]
  have hf := toks_form s s.size (a + n)
  by_cases hr : (toksS s s.size (a + n)).2.1 = 0
  · rw [if_neg (by rw [hr]; simp), hf.1 hr]
  · rw [if_pos hr]
theorem span_out {p : UInt8 → Bool} {s : ByteArray} : spanS p s s.size = 0 := by
  unfold spanS
  rw [List.drop_eq_nil_of_le (by rw [data_length]; exact Nat.le_refl _)]
  rfl
theorem span_cons {p : UInt8 → Bool} {s : ByteArray} {a : Nat} (h : a < s.size) : spanS p s a = if p (s[a]'h) then spanS p s (a + 1) + 1 else 0 := by
  unfold spanS
  have hl := data_length s
  rw [List.drop_eq_getElem_cons (by omega), List.takeWhile_cons, show s.data.toList[a]'(by omega) = s[a]'h from rfl]
  split <;> rfl
theorem one_white {s : ByteArray} {a : Nat} (h : a < s.size) (hw : whiteB (s[a]'h) = true) : oneS s a = (0, (spanS whiteB s a : Int), 0, 0) := by
  unfold oneS
  simp only [dif_pos h, if_pos hw]
theorem errS_white {s : ByteArray} {a : Nat} (h : a < s.size) (hw : whiteB (s[a]'h) = true) : errS s a = errS s (a + 1) := by
  have h1 := one_white h hw
  have h2 := errS_step h (by rw [h1]) (n := spanS whiteB s a) (by rw [h1])
  have h3 := span_cons (p := whiteB) h
  rw [if_pos hw] at h3
  rw [h2, h3]
  by_cases hlt : a + 1 < s.size
  · by_cases hw2 : whiteB (s[a + 1]'hlt) = true
    · have k1 := one_white hlt hw2
      have k2 := errS_step hlt (by rw [k1]) (n := spanS whiteB s (a + 1)) (by rw [k1])
      rw [k2]
      congr 1
      omega
    · rw [span_cons hlt, if_neg hw2]
  · rw [show a + 1 = s.size from by omega, span_out]
    congr 1
    omega
/-- The document's step: the same errors. -/
theorem errR_bad {s : ByteArray} {a : Nat} (h : a < s.size) (hc : (oneR s a).2.2.1 ≠ 0) : errS s a = (oneR s a).2.2 := by
  unfold oneR at hc ⊢
  simp only [dif_pos h] at hc ⊢
  by_cases hw : whiteB (s[a]'h) = true
  · rw [if_pos hw] at hc
    exact absurd rfl hc
  · rw [if_neg hw] at hc ⊢
    exact errS_bad h hc
theorem errR_step {s : ByteArray} {a n : Nat} (h : a < s.size) (hc : (oneR s a).2.2.1 = 0) (hn : (oneR s a).2.1 = n) : errS s a = errS s (a + n) ∧ 1 ≤ n ∧ a + n ≤ s.size := by
  unfold oneR at hc hn
  simp only [dif_pos h] at hc hn
  by_cases hw : whiteB (s[a]'h) = true
  · rw [if_pos hw] at hn
    obtain rfl : n = 1 := by
      have : (1 : Int) = (n : Int) := hn
      omega
    exact ⟨errS_white h hw, Nat.le_refl _, by omega⟩
  · rw [if_neg hw] at hc hn
    obtain ⟨b1, b2⟩ := one_bounds h hc
    exact ⟨errS_step h hc hn, by omega, by omega⟩
theorem all_err {s : ByteArray} (h : ¬ 8192 < s.size) : (allS s).2 = errS s 0 := by
  unfold allS errS
  rw [if_neg h]
end Go.Proofs.YtliofoikejdjeaaDoor
/- The document's tokens: one; all. -/
namespace Go.Proofs.YtliofoikejdjeaaDoor
open Go.RowKit Go.Proofs.YtliofoikejdjeaaDoorW.PrintWords
set_option linter.unusedVariables false
set_option linter.unusedSimpArgs false
def kindR (o : Int × Int × Int × Int) (e : Ending) : Prop := e = .returned (.tuple #[.int .i64 o.1, .int .i64 o.2.1, .agg #[.int .i64 o.2.2.1, .int .i64 o.2.2.2]])
set_option maxHeartbeats 8000000 in
set_option maxRecDepth 100000 in
theorem ref05_one (s : ByteArray) (hs : s.size ≤ 140737488351232) (a : Nat) (ha : a < s.size) (w : World) :
    Calls Tryd.prog 43 #[.string s, .int .i64 a] w fun e w' => kindR (oneR s a) e ∧ Below w.heap.size w w' := by
  have hw := fun W => ref05_white (s[a]'ha) W
  have hk := fun W => ref01_Class (s[a]'ha) W
  have hl := fun W => ref05_letters s hs a (Nat.le_of_lt ha) W
  have hcm := fun W => ref05_comment s hs a ha W
  have hq := fun W => ref05_quoted s hs a ha W
  have hm := fun W => ref05_mark s hs a ha W
  have hle := spanS_le letterB s a (Nat.le_of_lt ha)
  have HONE : Aside0 (oneR s a = if whiteB (s[a]'ha) then (0, 1, 0, 0) else oneS s a) := ⟨by unfold oneR; rw [dif_pos ha]⟩
  have HS : Aside0 (oneS s a = if whiteB (s[a]'ha) then (0, (spanS whiteB s a : Int), 0, 0) else if (s[a]'ha).toNat = 47 then (0, commentS s a) else if (s[a]'ha).toNat = 39 then (2, quotedS s a) else if (s[a]'ha).toNat = 37 then markS s a else if cls (s[a]'ha).toNat = 4 then (if 24 < spanS letterB s a then (0, 0, 5, (a : Int)) else (1, (spanS letterB s a : Int), 0, 0)) else if signS (s[a]'ha).toNat ≠ 0 then (signS (s[a]'ha).toNat, 1, 0, 0) else (0, 0, 2, (a : Int))) := ⟨by unfold oneS; rw [dif_pos ha]⟩
  obtain ⟨c, hc⟩ : ∃ c, s[a]'ha = c := ⟨_, rfl⟩
  simp only [hc] at hw hk HONE HS
  obtain ⟨q, hcq⟩ : ∃ q, cls c.toNat = q := ⟨_, rfl⟩
  simp only [hcq] at hk HS
  have HQ := Aside0.mk hcq
  have HC := Aside0.mk (hc : s[a]'ha = c)
  obtain ⟨v, hv⟩ : ∃ v, whiteB c = v := ⟨_, rfl⟩
  have HV := Aside0.mk hv
  rw [hv] at HONE HS
  simp only [hv] at hw
  clear hcq hv
  generalize spanS letterB s a = n at hl hle HS
  cases v with
  | true =>
    have HX : Aside0 (oneR s a = (0, 1, 0, 0)) := ⟨by rw [HONE.out, if_pos rfl]⟩
    unfold kindR
    go_enter Tryd.func43, Tryd.ntmps43
    go_wp2_with (go_at_call 64; refine (hw _).mono ?_; rintro e w2 ⟨rfl, rfl⟩)
    refine bodyPost_ret (v := .tuple #[.int .i64 0, .int .i64 1, .agg #[.int .i64 0, .int .i64 0]]) (by simp [results, Tryd.results43, go_sem]) rfl ⟨by rw [HX.out], ?_⟩
    exact below_alloc (Below.refl _ _) _
  | false =>
    have HR : Aside0 (oneR s a = oneS s a) := ⟨by rw [HONE.out]; rfl⟩
    by_cases c47 : c.toNat = 47
    · have b47 := u8_eq c47
      have HX : Aside0 (oneR s a = (0, commentS s a)) := ⟨by rw [HR.out, HS.out, if_neg (by simp), if_pos c47]⟩
      obtain ⟨⟨r1, r2, r3⟩, hr⟩ : ∃ r, commentS s a = r := ⟨_, rfl⟩
      rw [hr] at HX
      simp only [hr] at hcm
      unfold kindR
      clear c47 hr
      go_enter Tryd.func43, Tryd.ntmps43
      go_wp2_with (first | (go_at_call 64; refine (hw _).mono ?_; rintro e w2 ⟨rfl, rfl⟩) | (go_at_call 65; refine (hcm _).mono ?_; rintro e w3 ⟨rfl, hb⟩; have HB := Aside0.mk hb; have HK := Aside0.mk (blk_below (heap_alloc_new w (.cells #[.int .i64 0, .int .i64 0] 34 (0, 0))) hb); have z0 := (blk_cell HK.out 0).trans rfl; have z1 := (blk_cell HK.out 1).trans rfl; have y0 := blk_frozen HK.out 0; have y1 := blk_frozen HK.out 1; have hlw : w.heap.size < w3.heap.size := blk_lt HK.out; clear hb))
      have HBB := Aside0.mk (below_alloc (Below.refl _ _) (.cells #[.int .i64 0, .int .i64 0] 34) : Below w.heap.size w _)
      have d0 := Aside0.mk (blk_drew (blk_alloc (blk_set (blk_set HK.out 0 (.int .i64 r2)) 1 (.int .i64 r3)) (.cells #[.int .i64 r2, .int .i64 r3] 34)))
      have d2 := Aside0.mk (below_drew (below_alloc (((HBB.out.trans (HB.out.mono HBB.out.size)).setCell (p := ⟨w.heap.size, 0, none⟩) (Nat.le_refl _) (.int .i64 r2)).setCell (p := ⟨w.heap.size, 1, none⟩) (Nat.le_refl _) (.int .i64 r3)) (.cells #[.int .i64 r2, .int .i64 r3] 34)))
      go_region
      all_goals
        go_wp2
        refine bodyPost_ret (results_ttc (fn := Tryd.f43) rfl _ _ w.heap.size 34 _ (0, 0) _ rfl d0.out Tryd.underlying34 rfl (by kernel_rfl)) rfl ?_
        rw [HX.out]
        exact ⟨rfl, d2.out⟩
    · have b47 := u8_ne c47
      by_cases q4 : q = 4
      · obtain ⟨d1, d2, d3, d4⟩ := name_head c (by rw [HQ.out, q4])
        have HX : Aside0 (oneR s a = if 24 < n then (0, 0, 5, (a : Int)) else (1, (n : Int), 0, 0)) := ⟨by rw [HR.out, HS.out, if_neg (by simp), if_neg c47, if_neg d3, if_neg d4, if_pos q4]⟩
        unfold kindR
        subst q4
        clear d1 d2 d3 d4 c47
        by_cases h24 : 24 < n
        · have HX : Aside0 (oneR s a = (0, 0, 5, (a : Int))) := ⟨by rw [HX.out, if_pos h24]⟩
          have hz : (24 : Int) < (n : Int) := by omega
          go_enter Tryd.func43, Tryd.ntmps43
          go_wp2_with (first | (go_at_call 64; refine (hw _).mono ?_; rintro e w2 ⟨rfl, rfl⟩) | (go_at_call 66; refine (hk _).mono ?_; rintro e w2 ⟨rfl, rfl⟩) | (go_at_call 67; refine (hl _).mono ?_; rintro e w2 ⟨rfl, rfl⟩))
          refine bodyPost_ret (v := .tuple #[.int .i64 0, .int .i64 0, .agg #[.int .i64 5, .int .i64 (a : Int)]]) (by simp [results, Tryd.results43, go_sem]) rfl ⟨by rw [HX.out], ?_⟩
          exact below_alloc (Below.refl _ _) _
        · have HX : Aside0 (oneR s a = (1, (n : Int), 0, 0)) := ⟨by rw [HX.out, if_neg h24]⟩
          have hz : ¬ (24 : Int) < (n : Int) := by omega
          go_enter Tryd.func43, Tryd.ntmps43
          go_wp2_with (first | (go_at_call 64; refine (hw _).mono ?_; rintro e w2 ⟨rfl, rfl⟩) | (go_at_call 66; refine (hk _).mono ?_; rintro e w2 ⟨rfl, rfl⟩) | (go_at_call 67; refine (hl _).mono ?_; rintro e w2 ⟨rfl, rfl⟩))
          refine bodyPost_ret (v := .tuple #[.int .i64 1, .int .i64 (n : Int), .agg #[.int .i64 0, .int .i64 0]]) (by simp [results, Tryd.results43, go_sem]) rfl ⟨by rw [HX.out], ?_⟩
          exact below_alloc (Below.refl _ _) _
      · have bq : (q == 4) = false := by simpa using q4
        by_cases c39 : c.toNat = 39
        · have b39 := u8_eq c39
          have HX : Aside0 (oneR s a = (2, quotedS s a)) := ⟨by rw [HR.out, HS.out, if_neg (by simp), if_neg c47, if_pos c39]⟩
          obtain ⟨⟨r1, r2, r3⟩, hr⟩ : ∃ r, quotedS s a = r := ⟨_, rfl⟩
          rw [hr] at HX
          simp only [hr] at hq
          unfold kindR
          clear c47 c39 hr q4
          go_enter Tryd.func43, Tryd.ntmps43
          go_wp2_with (first | (go_at_call 64; refine (hw _).mono ?_; rintro e w2 ⟨rfl, rfl⟩) | (go_at_call 68; refine (hq _).mono ?_; rintro e w3 ⟨rfl, hb⟩; have HB := Aside0.mk hb; have HK := Aside0.mk (blk_below (heap_alloc_new w (.cells #[.int .i64 0, .int .i64 0] 34 (0, 0))) hb); have z0 := (blk_cell HK.out 0).trans rfl; have z1 := (blk_cell HK.out 1).trans rfl; have y0 := blk_frozen HK.out 0; have y1 := blk_frozen HK.out 1; have hlw : w.heap.size < w3.heap.size := blk_lt HK.out; clear hb) | (go_at_call 66; refine (hk _).mono ?_; rintro e w2 ⟨rfl, rfl⟩))
          have HBB := Aside0.mk (below_alloc (Below.refl _ _) (.cells #[.int .i64 0, .int .i64 0] 34) : Below w.heap.size w _)
          have d0 := Aside0.mk (blk_drew (blk_alloc (blk_set (blk_set HK.out 0 (.int .i64 r2)) 1 (.int .i64 r3)) (.cells #[.int .i64 r2, .int .i64 r3] 34)))
          have d2 := Aside0.mk (below_drew (below_alloc (((HBB.out.trans (HB.out.mono HBB.out.size)).setCell (p := ⟨w.heap.size, 0, none⟩) (Nat.le_refl _) (.int .i64 r2)).setCell (p := ⟨w.heap.size, 1, none⟩) (Nat.le_refl _) (.int .i64 r3)) (.cells #[.int .i64 r2, .int .i64 r3] 34)))
          go_region
          all_goals
            go_wp2
            refine bodyPost_ret (results_ttc (fn := Tryd.f43) rfl _ _ w.heap.size 34 _ (0, 0) _ rfl d0.out Tryd.underlying34 rfl (by kernel_rfl)) rfl ?_
            rw [HX.out]
            exact ⟨rfl, d2.out⟩
        · have b39 := u8_ne c39
          by_cases c37 : c.toNat = 37
          · have b37 := u8_eq c37
            have b58 := u8_ne (c := c) (k := 58) (by omega)
            have b124 := u8_ne (c := c) (k := 124) (by omega)
            have b59 := u8_ne (c := c) (k := 59) (by omega)
            have HX : Aside0 (oneR s a = markS s a) := ⟨by rw [HR.out, HS.out, if_neg (by simp), if_neg c47, if_neg c39, if_pos c37]⟩
            obtain ⟨⟨r0, r1, r2, r3⟩, hr⟩ : ∃ r, markS s a = r := ⟨_, rfl⟩
            rw [hr] at HX
            simp only [hr] at hm
            unfold kindR
            clear c47 c39 c37 hr q4
            go_enter Tryd.func43, Tryd.ntmps43
            go_wp2_with (first | (go_at_call 64; refine (hw _).mono ?_; rintro e w2 ⟨rfl, rfl⟩) | (go_at_call 66; refine (hk _).mono ?_; rintro e w2 ⟨rfl, rfl⟩) | (go_at_call 69; refine (hm _).mono ?_; rintro e w3 ⟨rfl, hb⟩; have HB := Aside0.mk hb; have HK := Aside0.mk (blk_below (heap_alloc_new w (.cells #[.int .i64 0, .int .i64 0] 34 (0, 0))) hb); have z0 := (blk_cell HK.out 0).trans rfl; have z1 := (blk_cell HK.out 1).trans rfl; have y0 := blk_frozen HK.out 0; have y1 := blk_frozen HK.out 1; have hlw : w.heap.size < w3.heap.size := blk_lt HK.out; clear hb))
            have HBB := Aside0.mk (below_alloc (Below.refl _ _) (.cells #[.int .i64 0, .int .i64 0] 34) : Below w.heap.size w _)
            refine bodyPost_ret (results_ttc (fn := Tryd.f43) rfl _ _ w.heap.size 34 _ (0, 0) _ rfl (blk_set (blk_set HK.out 0 (.int .i64 r2)) 1 (.int .i64 r3)) Tryd.underlying34 rfl (by kernel_rfl)) rfl ?_
            rw [HX.out]
            exact ⟨rfl, ((HBB.out.trans (HB.out.mono HBB.out.size)).setCell (p := ⟨w.heap.size, 0, none⟩) (Nat.le_refl _) (.int .i64 r2)).setCell (p := ⟨w.heap.size, 1, none⟩) (Nat.le_refl _) (.int .i64 r3)⟩
          · have b37 := u8_ne c37
            have HY : Aside0 (oneR s a = if signS c.toNat ≠ 0 then (signS c.toNat, 1, 0, 0) else (0, 0, 2, (a : Int))) := ⟨by rw [HR.out, HS.out, if_neg (by simp), if_neg c47, if_neg c39, if_neg c37, if_neg q4]⟩
            unfold kindR
            by_cases c58 : c.toNat = 58
            · have b58 := u8_eq c58
              have HX : Aside0 (oneR s a = (3, 1, 0, 0)) := ⟨by rw [HY.out]; unfold signS; rw [if_pos c58]; rfl⟩
              clear c47 c39 c37 c58 q4
              go_enter Tryd.func43, Tryd.ntmps43
              go_wp2_with (first | (go_at_call 64; refine (hw _).mono ?_; rintro e w2 ⟨rfl, rfl⟩) | (go_at_call 66; refine (hk _).mono ?_; rintro e w2 ⟨rfl, rfl⟩))
              refine bodyPost_ret (v := .tuple #[.int .i64 3, .int .i64 1, .agg #[.int .i64 0, .int .i64 0]]) (by simp [results, Tryd.results43, go_sem]) rfl ⟨by rw [HX.out], ?_⟩
              exact below_alloc (Below.refl _ _) _
            · have b58 := u8_ne c58
              by_cases c124 : c.toNat = 124
              · have b124 := u8_eq c124
                have HX : Aside0 (oneR s a = (4, 1, 0, 0)) := ⟨by rw [HY.out]; unfold signS; rw [if_neg c58, if_pos c124]; rfl⟩
                clear c47 c39 c37 c58 c124 q4
                go_enter Tryd.func43, Tryd.ntmps43
                go_wp2_with (first | (go_at_call 64; refine (hw _).mono ?_; rintro e w2 ⟨rfl, rfl⟩) | (go_at_call 66; refine (hk _).mono ?_; rintro e w2 ⟨rfl, rfl⟩))
                refine bodyPost_ret (v := .tuple #[.int .i64 4, .int .i64 1, .agg #[.int .i64 0, .int .i64 0]]) (by simp [results, Tryd.results43, go_sem]) rfl ⟨by rw [HX.out], ?_⟩
                exact below_alloc (Below.refl _ _) _
              · have b124 := u8_ne c124
                by_cases c59 : c.toNat = 59
                · have b59 := u8_eq c59
                  have HX : Aside0 (oneR s a = (5, 1, 0, 0)) := ⟨by rw [HY.out]; unfold signS; rw [if_neg c58, if_neg c124, if_pos c59]; rfl⟩
                  clear c47 c39 c37 c58 c124 c59 q4
                  go_enter Tryd.func43, Tryd.ntmps43
                  go_wp2_with (first | (go_at_call 64; refine (hw _).mono ?_; rintro e w2 ⟨rfl, rfl⟩) | (go_at_call 66; refine (hk _).mono ?_; rintro e w2 ⟨rfl, rfl⟩))
                  refine bodyPost_ret (v := .tuple #[.int .i64 5, .int .i64 1, .agg #[.int .i64 0, .int .i64 0]]) (by simp [results, Tryd.results43, go_sem]) rfl ⟨by rw [HX.out], ?_⟩
                  exact below_alloc (Below.refl _ _) _
                · have b59 := u8_ne c59
                  have HX : Aside0 (oneR s a = (0, 0, 2, (a : Int))) := ⟨by rw [HY.out]; unfold signS; rw [if_neg c58, if_neg c124, if_neg c59]; rfl⟩
                  clear c47 c39 c37 c58 c124 c59 q4
                  go_enter Tryd.func43, Tryd.ntmps43
                  go_wp2_with (first | (go_at_call 64; refine (hw _).mono ?_; rintro e w2 ⟨rfl, rfl⟩) | (go_at_call 66; refine (hk _).mono ?_; rintro e w2 ⟨rfl, rfl⟩))
                  refine bodyPost_ret (v := .tuple #[.int .i64 0, .int .i64 0, .agg #[.int .i64 2, .int .i64 (a : Int)]]) (by simp [results, Tryd.results43, go_sem]) rfl ⟨by rw [HX.out], ?_⟩
                  exact below_alloc (Below.refl _ _) _
end Go.Proofs.YtliofoikejdjeaaDoor
/- The document's tokens: All (its error). -/
namespace Go.Proofs.YtliofoikejdjeaaDoor
open Go.RowKit Go.Proofs.YtliofoikejdjeaaDoorW.PrintWords
set_option linter.unusedVariables false
set_option linter.unusedSimpArgs false
theorem results_tc1 {P : Program} {fn : Func} {u p : Tmp} {ty : TypeId} (h : fn.results = #[.tmp u, .cell p ty]) (tmps : Array Value) (w : World) (g : Nat) (t : TypeId) (cs : Array Value) (fr : Nat × Nat) (d : TypeDesc)
    (hp : tmps.getD p undef = .pointer (some ⟨g, 0, none⟩)) (hg : w.heap[g]? = some (.cells cs t fr))
    (hu : P.underlying ty = some d) (hd : (match d with | .struct _ | .array _ _ => true | _ => false) = true) (hi : (P.info? ty).map (·.size) = some cs.size) :
    (results fn tmps).run P w = .ok (.tuple #[tmps.getD u undef, .agg cs]) w := by
  have hp' : tmps[p]?.getD undef = .pointer (some ⟨g, 0, none⟩) := by simpa using hp
  simp [results, h, hp', asAddr, run_loadVar_row w g t ty cs fr d hg hu hd hi]
theorem blk_below2 {w w' : World} {b : Nat} {o : Obj} (h : w.heap[b]? = some o) (hb : b < w.heap.size) (h2 : Below w.heap.size w w') : w'.heap[b]? = some o := by rw [h2.block _ hb]; exact h
set_option maxHeartbeats 8000000 in
set_option maxRecDepth 100000 in
theorem ref05_All (s : ByteArray) (hs : s.size ≤ 8192) {w : World} :
    Calls Tryd.prog 25 #[.string s] w fun e w' => ∃ vs, e = .returned (.tuple #[vs, .agg #[.int .i64 (allS s).2.1, .int .i64 (allS s).2.2]]) ∧ Below w.heap.size w w' := by
  have HA : Aside0 (errS s 0 = (allS s).2) := ⟨(all_err (by omega)).symm⟩
  obtain ⟨⟨R1, R2⟩, hR⟩ : ∃ R, (allS s).2 = R := ⟨_, rfl⟩
  rw [hR] at HA ⊢
  clear hR
  have h1z : ¬ (8192 : Int) < (s.size : Int) := by omega
  go_enter Tryd.func25, Tryd.ntmps25
  go_wp2
  have hb0 := below_alloc (Below.refl w.heap.size w) (.cells #[.int .i64 0, .int .i64 0] 34)
  have hk0 := blk_new w (.cells #[.int .i64 0, .int .i64 0] 34)
  generalize w.alloc (.cells #[.int .i64 0, .int .i64 0] 34) = W0 at *
  have hlt0 : w.heap.size < W0.heap.size := blk_lt hk0
  have HB0 := Aside0.mk hb0
  have HK0 := Aside0.mk hk0
  clear hb0 hk0
  go_loopg [4, 5] (s.size + 1) (fun gg v4 v5 wr => ∃ (a : Nat) (acc : List Tk), a ≤ s.size ∧ s.size + 1 - a ≤ gg ∧ acc.length ≤ a ∧ v5 = .int .i64 a ∧ Aside0 (errS s a = (R1, R2)) ∧ Aside0 (Kd.R kTk 66 wr W0.heap.size (fun _ => True) v4 acc) ∧ Aside0 (Below W0.heap.size W0 wr))
  case atStart => exact ⟨0, [], by omega, by omega, Nat.le_refl _, rfl, HA, ⟨Kd.R_nil _ _ _ _ _⟩, ⟨Below.refl _ _⟩⟩
  case round =>
    clear HA
    obtain ⟨a, acc, ha, hgg, hacc, rfl, HA, HO, HB⟩ := hrel
    by_cases hlt : a < s.size
    · have hltz : (a : Int) < (s.size : Int) := by omega
      have hone := fun W => ref05_one s (by omega) a hlt W
      unfold kindR at hone
      by_cases hc : (oneR s a).2.2.1 = 0
      · obtain ⟨m, hme⟩ : ∃ m : Nat, (oneR s a).2.1 = m := by
          by_cases hw : whiteB (s[a]'hlt) = true
          · exact ⟨1, by unfold oneR; rw [dif_pos hlt, if_pos hw]; rfl⟩
          · have e : oneR s a = oneS s a := by unfold oneR; rw [dif_pos hlt, if_neg hw]
            rw [e] at hc ⊢
            have := one_bounds hlt hc
            exact ⟨(oneS s a).2.1.toNat, by omega⟩
        obtain ⟨hst, hm1, hm2⟩ := errR_step hlt hc hme
        have HS : Aside0 (errS s (a + m) = (R1, R2)) := ⟨by rw [← hst]; exact HA.out⟩
        rw [hc, hme] at hone
        generalize (oneR s a).1 = k at *
        generalize (oneR s a).2.2.2 = p at *
        clear hc HA hme hst
        by_cases hk : k = 0
        · subst hk
          go_wp2_with (go_at_call 43; refine (hone _).mono ?_; rintro e w1 ⟨rfl, hb3⟩; have HB3 := Aside0.mk hb3; clear hb3)
          go_roundg (s.size + 1 - (a + m))
          case measure => omega
          case rel => exact ⟨a + m, acc, by omega, by omega, by omega, by go_num, HS, ⟨Kd.R_below HO.out (below_alloc HB3.out _)⟩, ⟨HB.out.trans ((below_alloc HB3.out _).mono HB.out.size)⟩⟩
        · have hk1 : (k != 0) = true := by simpa using hk
          have HK := Aside0.mk hk
          clear hk
          have hz1 : ¬ (s.size : Int) < (a : Int) + (m : Int) := by omega
          have hz2 : ¬ (a : Int) + (m : Int) < (a : Int) := by omega
          go_wp2_with (first | (go_at_call 43; refine (hone _).mono ?_; rintro e w1 ⟨rfl, hb3⟩; have HB3 := Aside0.mk hb3; clear hb3) | (at_builtin; go_loud (refine Kd.R_append kTk (w0 := W0) W0.heap.size rfl (.tmp 30) (.tmp 40) 50 66 (.agg #[.int .i64 0, .string ⟨#[]⟩, .int .i64 0]) 32 rfl Tryd.underlying50 infoTok rfl (by decide) (by omega) u4 acc ⟨k, cutS s a m, a⟩ [.int .i64 k, .string (cutS s a m), .int .i64 a] (fun _ => True) (fun _ => False) rfl ?aX ?aP (fun _ hk => hk.elim) ?aF ?aO ?aB ?aS ?aL ?_); (case aX => simp [Act.eval]); (case aP => exact kTk_M _); (case aF => exact (fun _ _ => trivial)); (case aO => exact Kd.R_below HO.out (below_alloc HB3.out _)); (case aB => exact HB.out.trans ((below_alloc HB3.out _).mono HB.out.size)); (case aS => exact (HB.out.trans ((below_alloc HB3.out _).mono HB.out.size)).size); (case aL => omega); intro v1 w4 ho hb hg hat))
          go_roundg (s.size + 1 - (a + m))
          case measure => omega
          case rel => exact ⟨a + m, acc ++ [⟨k, cutS s a m, a⟩], by omega, by omega, by rw [List.length_append]; simp only [List.length_cons, List.length_nil]; omega, by go_num, HS, ⟨ho⟩, ⟨hb⟩⟩
      · have HC := Aside0.mk hc
        have HR : Aside0 ((oneR s a).2.2 = (R1, R2)) := ⟨by rw [← errR_bad hlt hc]; exact HA.out⟩
        generalize (oneR s a).1 = k at *
        generalize (oneR s a).2.1 = m at *
        generalize (oneR s a).2.2 = q at *
        obtain ⟨c, p⟩ := q
        have hc1 : (c != 0) = true := by simpa using hc
        clear hc HA
        go_wp2_with (go_at_call 43; refine (hone _).mono ?_; rintro e w1 ⟨rfl, hb3⟩; have HB3 := Aside0.mk hb3; clear hb3)
        have HKW := Aside0.mk (blk_below (blk_below2 HK0.out hlt0 HB.out) HB3.out)
        have z0 := blk_frozen HKW.out 0
        have z1 := blk_frozen HKW.out 1
        have c0 := (blk_cell HKW.out 0).trans rfl
        have c1 := (blk_cell HKW.out 1).trans rfl
        have hl1 : w.heap.size < w1.heap.size := blk_lt HKW.out
        have d0 := Aside0.mk (blk_drew (blk_alloc (blk_set (blk_set HKW.out 0 (.int .i64 c)) 1 (.int .i64 p)) (.cells #[.int .i64 c, .int .i64 p] 34)))
        have d2 := Aside0.mk (below_drew (below_alloc ((((HB0.out.trans (HB.out.mono (Nat.le_of_lt hlt0))).trans (HB3.out.mono (Nat.le_trans (Nat.le_of_lt hlt0) HB.out.size))).setCell (p := ⟨w.heap.size, 0, none⟩) (Nat.le_refl _) (.int .i64 c)).setCell (p := ⟨w.heap.size, 1, none⟩) (Nat.le_refl _) (.int .i64 p)) (.cells #[.int .i64 c, .int .i64 p] 34)))
        go_region
        all_goals
          go_wp2
          refine bodyPost_ret (results_tc1 (fn := Tryd.f25) rfl _ _ w.heap.size 34 _ (0, 0) _ rfl d0.out Tryd.underlying34 rfl (by kernel_rfl)) rfl ?_
          have hq := HR.out
          obtain ⟨rfl, rfl⟩ : c = R1 ∧ p = R2 := by simpa using hq
          exact ⟨_, rfl, d2.out⟩
    · have hltz : ¬ (a : Int) < (s.size : Int) := by omega
      have HE : Aside0 (R1 = 0 ∧ R2 = 0) := ⟨by
        have h1 := HA.out
        rw [show a = s.size from by omega, errS_end] at h1
        simp at h1
        exact ⟨h1.1.symm, h1.2.symm⟩⟩
      have HKW := Aside0.mk (blk_below2 HK0.out hlt0 HB.out)
      go_wp2_with (at_builtin; go_loud (refine Kd.R_append kTk (w0 := W0) W0.heap.size rfl (.tmp 45) (.tmp 49) 50 66 (.agg #[.int .i64 0, .string ⟨#[]⟩, .int .i64 0]) 32 rfl Tryd.underlying50 infoTok rfl (by decide) (by omega) u4 acc ⟨0, ⟨#[]⟩, s.size⟩ [.int .i64 0, .string ⟨#[]⟩, .int .i64 s.size] (fun _ => True) (fun _ => False) rfl ?aX ?aP (fun _ hk => hk.elim) ?aF ?aO ?aB ?aS ?aL ?_); (case aX => simp [Act.eval]); (case aP => exact kTk_M _); (case aF => exact (fun _ _ => trivial)); (case aO => exact HO.out); (case aB => exact HB.out); (case aS => exact (HB.out).size); (case aL => omega); intro v1 w4 ho hb hg hat; have HKX := Aside0.mk (blk_below2 HK0.out hlt0 hb); have z0 := blk_frozen HKX.out 0; have z1 := blk_frozen HKX.out 1; have c0 := (blk_cell HKX.out 0).trans rfl; have c1 := (blk_cell HKX.out 1).trans rfl)
      refine bodyPost_ret (results_tc1 (fn := Tryd.f25) rfl _ _ w.heap.size 34 _ (0, 0) _ rfl (blk_set (blk_set HKX.out 0 (.int .i64 0)) 1 (.int .i64 0)) Tryd.underlying34 rfl (by kernel_rfl)) rfl ?_
      obtain ⟨rfl, rfl⟩ := HE.out
      exact ⟨⟨_, rfl⟩, ((HB0.out.trans (hb.mono (Nat.le_of_lt hlt0))).setCell (p := ⟨w.heap.size, 0, none⟩) (Nat.le_refl _) (.int .i64 0)).setCell (p := ⟨w.heap.size, 1, none⟩) (Nat.le_refl _) (.int .i64 0)⟩
end Go.Proofs.YtliofoikejdjeaaDoor
