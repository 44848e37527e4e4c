/- Texts laid one behind the other: BG, BM, BN, Q1, PL, PX. -/
import Derived.Test.YtliofoikejdjeaaDoorY7
import Derived.Recover
import Derived.Test.YtliofoikejdjeaaDoorY8
import Derived.Test.YtliofoikejdjeaaDoorWTab
import Derived.RegionTactic
import Derived.Test.YtliofoikejdjeaaDoorY1
import Derived.Test.YtliofoikejdjeaaDoorY2
import Derived.KernelRfl
/- gread.Parse: its deferred closure. -/
namespace Go.Proofs.YtliofoikejdjeaaDoor
open Go.RowKit Go.Proofs.YtliofoikejdjeaaDoorW.PrintWords
set_option linter.unusedVariables false
set_option linter.unusedSimpArgs false
/-- What the deferred closure leaves of a panic: the zero grammar, the error. -/
def P1End (w : World) (g0 g1 : Nat) (e p : Int) (w' : World) : Prop :=
  ∃ v', w'.heap[g0]? = some (.cells #[.slice none 0 0, .slice none 0 0, .slice none 0 0, .int .i64 0] 30 (0, 0)) ∧ w'.heap[g1]? = some (.cells #[v'] 44 (0, 0)) ∧ ErrIs w' v' e p ∧ w.heap.size ≤ w'.heap.size ∧ (∀ k, k < w.heap.size → k ≠ g0 → k ≠ g1 → w'.heap[k]? = w.heap[k]?) ∧ w'.os = w.os ∧ w'.tape = w.tape ∧ w'.output = w.output
set_option maxHeartbeats 4000000 in
set_option maxRecDepth 100000 in
theorem parse1_panic {w : World} {g0 g1 : Nat} {a0 a1 a2 a3 v : Value} (h0 : w.heap[g0]? = some (.cells #[a0, a1, a2, a3] 30 (0, 0))) (h1 : w.heap[g1]? = some (.cells #[v] 44 (0, 0))) {e p : Int} (he : e ≠ 0) (older : List PanicEntry) :
    CallsD Tryd.prog 38 #[.pointer (some ⟨g0, 0, none⟩), .pointer (some ⟨g1, 0, none⟩)] (.panicking ({ v := .iface 82 (.agg #[.int .i64 e, .int .i64 p]), recovered := false } :: older)) w fun ev u' w' =>
      ev = .returned (.tuple #[]) ∧ u' = .panicking ({ v := .iface 82 (.agg #[.int .i64 e, .int .i64 p]), recovered := true } :: older) ∧ P1End w g0 g1 e p w' := by
  have hne : g1 ≠ g0 := fun e => by
    subst e
    rw [h0] at h1
    injection h1 with h1
    injection h1 with _ h1
    exact absurd h1 (by decide)
  have hne2 : g0 ≠ g1 := Ne.symm hne
  have HNE := Aside0.mk hne
  have HA := Aside0.mk (below_alloc (Below.refl w.heap.size w) (.cells #[.int .i64 e, .int .i64 p] 82 (0, 0)))
  have HE := Aside0.mk he
  have H0 := Aside0.mk h0
  have H1 := Aside0.mk h1
  have ta := fun x W => taWr x W
  clear h0 h1 he
  refine callsD_of_wpS Tryd.func38 rfl fun c₀ cs hu => ?_
  apply wpS_seq
  apply wpS_region
  simp [wpOpsS, go_sem, recoverD, hu, Tryd.ntmps38, Exit.thenS]
  simp only [← List.toArray_replicate, List.replicate, List.setIfInBounds_toArray, List.set_cons_zero, List.set_cons_succ, List.append_toArray, List.cons_append, List.nil_append]
  refine wpS_of_wp ?_
  go_wp2_with (go_at_call 39; (with_reducible refine (fault_New _ _ _ (beq_false_of_ne HE.out)).mono ?_); rintro e2 w1 ⟨v2, rfl, hv, hb1⟩; have HV := Aside0.mk hv; have HW := Aside0.mk (HA.out.trans (hb1.mono HA.out.size)); have K0 := Aside0.mk (blk_below H0.out HW.out); have K1 := Aside0.mk (blk_below H1.out HW.out); have q0 : w1.cell? ⟨g0, 0, none⟩ = some a0 := (blk_cell K0.out 0).trans rfl; have q1 : w1.cell? ⟨g0, 1, none⟩ = some a1 := (blk_cell K0.out 1).trans rfl; have q2 : w1.cell? ⟨g0, 2, none⟩ = some a2 := (blk_cell K0.out 2).trans rfl; have q3 : w1.cell? ⟨g0, 3, none⟩ = some a3 := (blk_cell K0.out 3).trans rfl; have q4 : w1.cell? ⟨g1, 0, none⟩ = some v := (blk_cell K1.out 0).trans rfl; have f0 := blk_frozen K0.out 0; have f1 := blk_frozen K0.out 1; have f2 := blk_frozen K0.out 2; have f3 := blk_frozen K0.out 3; have f4 := blk_frozen K1.out 0; obtain ⟨b2, eb2⟩ := HV.out.some_ HE.out; subst eb2; clear hv hb1)
  have k0 := blk_set (blk_set (blk_set (blk_set K0.out 0 (.slice none 0 0)) 1 (.slice none 0 0)) 2 (.slice none 0 0)) 3 (.int .i64 0)
  have k1 := blk_far (p := ⟨g0, 3, none⟩) (blk_far (p := ⟨g0, 2, none⟩) (blk_far (p := ⟨g0, 1, none⟩) (blk_far (p := ⟨g0, 0, none⟩) K1.out HNE.out (.slice none 0 0)) HNE.out (.slice none 0 0)) HNE.out (.slice none 0 0)) HNE.out (.int .i64 0)
  refine ⟨rfl, _, rfl, _, results_none rfl _ _ _, rfl, rfl, ⟨_, blk_far (p := ⟨g1, 0, none⟩) k0 hne2 _, blk_set k1 0 _, ?_, ?_, ?_, ?_, ?_, ?_⟩⟩
  · rcases HV.out with hz | ⟨hz, b, eb, hb⟩
    · exact absurd hz.1 HE.out
    · have n0 : b ≠ g0 := fun e => by
        subst e
        have := K0.out
        rw [hb] at this
        injection this with this
        injection this with _ this
        exact absurd this (by decide)
      have n1 : b ≠ g1 := fun e => by
        subst e
        have := K1.out
        rw [hb] at this
        injection this with this
        injection this with _ this
        exact absurd this (by decide)
      exact .inr ⟨hz, b, eb, blk_far (p := ⟨g1, 0, none⟩) (blk_far (p := ⟨g0, 3, none⟩) (blk_far (p := ⟨g0, 2, none⟩) (blk_far (p := ⟨g0, 1, none⟩) (blk_far (p := ⟨g0, 0, none⟩) hb n0 _) n0 _) n0 _) n0 _) n1 _⟩
  · simpa using HW.out.size
  · intro k hk h0 h1
    exact (Below.heap_setCell _ ⟨g1, 0, none⟩ _ k h1).trans ((Below.heap_setCell _ ⟨g0, 3, none⟩ _ k h0).trans ((Below.heap_setCell _ ⟨g0, 2, none⟩ _ k h0).trans ((Below.heap_setCell _ ⟨g0, 1, none⟩ _ k h0).trans ((Below.heap_setCell _ ⟨g0, 0, none⟩ _ k h0).trans (HW.out.block k hk)))))
  · exact HW.out.os
  · exact HW.out.tape
  · exact HW.out.output
set_option maxHeartbeats 4000000 in
set_option maxRecDepth 100000 in
theorem parse1_ret {w : World} {g0 g1 : Nat} :
    CallsD Tryd.prog 38 #[.pointer (some ⟨g0, 0, none⟩), .pointer (some ⟨g1, 0, none⟩)] .returning w fun ev u' w' => ev = .returned (.tuple #[]) ∧ u' = .returning ∧ w' = w := by
  refine callsD_of_wpS Tryd.func38 rfl fun c₀ cs hu => ?_
  apply wpS_seq
  apply wpS_region
  simp [wpOpsS, go_sem, recoverD, hu, Tryd.ntmps38, Exit.thenS]
  simp only [← List.toArray_replicate, List.replicate, List.setIfInBounds_toArray, List.set_cons_zero, List.set_cons_succ, List.append_toArray, List.cons_append, List.nil_append]
  refine wpS_of_wp ?_
  go_wp2
  exact ⟨rfl, .returning, (by cases c₀; simp_all), _, results_none rfl _ _ _, rfl, rfl, rfl⟩
end Go.Proofs.YtliofoikejdjeaaDoor
/- gread.Parse. -/
namespace Go.Proofs.YtliofoikejdjeaaDoor
open Go.RowKit Go.Proofs.YtliofoikejdjeaaDoorW.PrintWords Go.Proofs.YtliofoikejdjeaaDoorW.PrintLast
set_option linter.unusedVariables false
set_option linter.unusedSimpArgs false
/-! errors have numbers -/
theorem bad_err (l : List Tk) : (badS l).1 ≠ 0 := by
  unfold badS
  split <;> simp
theorem sides_err : ∀ (f : Nat) {l : List Tk} {acc : List Sd} {e : Ft}, sidesS f l acc = .error e → e.1 ≠ 0 := by
  intro f
  induction f with
  | zero => intro l acc e h; cases h; exact bad_err _
  | succ f ih =>
    intro l acc e h
    rw [sides_cont] at h
    unfold contS at h
    split at h
    · exact ih h
    · split at h
      · cases h
      · cases h
        exact bad_err _
theorem rule_err {l : List Tk} {e : Ft} (h : ruleS l = .error e) : e.1 ≠ 0 := by
  unfold ruleS at h
  split at h
  · split at h
    · cases hr : sidesS (l.length + 1) l.tail.tail [] with
      | error e' => rw [hr] at h; cases h; exact sides_err _ hr
      | ok p => rw [hr] at h; cases h
    · cases h
      exact bad_err _
  · cases h
    exact bad_err _
theorem rules_err : ∀ (f : Nat) {l : List Tk} {acc : List Ru} {e : Ft}, rulesS f l acc = .error e → e.1 ≠ 0 := by
  intro f
  induction f with
  | zero => intro l acc e h; cases h; exact bad_err _
  | succ f ih =>
    intro l acc e h
    rw [rulesS] at h
    split at h
    · cases h
    · cases hr : ruleS l with
      | error e' => rw [hr] at h; cases h; exact rule_err hr
      | ok p => obtain ⟨l2, r⟩ := p; rw [hr] at h; exact ih h
theorem head_err {l : List Tk} {x : Hd} {e : Ft} (h : headS l x = .error e) : e.1 ≠ 0 := by
  unfold headS at h
  split at h
  · split at h
    · cases h
    · cases h; exact bad_err _
  · split at h
    · split at h
      · cases h
      · cases h; exact bad_err _
    · cases h; exact bad_err _
theorem heads_err : ∀ (f : Nat) {l : List Tk} {x : Hd} {e : Ft}, headsS f l x = .error e → e.1 ≠ 0 := by
  intro f
  induction f with
  | zero => intro l x e h; cases h; exact bad_err _
  | succ f ih =>
    intro l x e h
    rw [headsS] at h
    split at h
    · cases h
    · cases hr : headS l x with
      | error e' => rw [hr] at h; cases h; exact head_err hr
      | ok p => obtain ⟨l2, r⟩ := p; rw [hr] at h; exact ih h
theorem form_err {l : List Tk} {e : Ft} (h : formS l = .error e) : e.1 ≠ 0 := by
  unfold formS at h
  cases h1 : headsS (l.length + 1) l ⟨[], [], []⟩ with
  | error e' => rw [h1] at h; cases h; exact heads_err _ h1
  | ok p =>
    obtain ⟨l1, x1⟩ := p
    rw [h1] at h
    dsimp only at h
    cases h2 : ruleS l1 with
    | error e' => rw [h2] at h; cases h; exact rule_err h2
    | ok p =>
      obtain ⟨l2, r1⟩ := p
      rw [h2] at h
      dsimp only at h
      cases h3 : rulesS (l.length + 1) l2 [r1] with
      | error e' => rw [h3] at h; cases h; exact rules_err _ h3
      | ok rs2 => rw [h3] at h; cases h
theorem term_err {t : Tk} {ts : List ByteArray} {e : Ft} (h : termB t ts = .error e) : e.1 ≠ 0 := by
  unfold termB at h
  split at h <;> cases h
  simp
theorem start_err {rs : List Ru} {x : Hd} {e : Ft} (h : startB rs x = .error e) : e.1 ≠ 0 := by
  unfold startB at h
  split at h <;> cases h
  simp
theorem declare_errN {rs : List Ru} {x : Hd} {e : Ft} : ∀ {l : List Tk} {p : Bool} {ts : List ByteArray}, declareB rs x l p ts = .error e → e.1 ≠ 0
  | [], p, ts, h => by
    rw [declareB] at h
    split at h
    · split at h
      · cases h
      · rename_i e' h'
        cases h
        exact start_err h'
    · cases h
  | t :: l, p, ts, h => by
    rw [declareB] at h
    split at h
    · rename_i e' h'
      cases h
      split at h'
      · exact start_err h'
      · cases h'
    · split at h
      · cases h
        simp
      · split at h
        · rename_i e' h'
          cases h
          exact term_err h'
        · exact declare_errN h
theorem heads_errB {rs : List Ru} {x : Hd} {e : Ft} (h : headsB rs x = .error e) : e.1 ≠ 0 := by
  unfold headsB at h
  cases hd : declareB rs x x.declared (!x.starts.isEmpty) [] with
  | ok ts =>
    rw [hd] at h
    dsimp only at h
    split at h <;> cases h
    simp
  | error e' =>
    rw [hd] at h
    dsimp only at h
    split at h <;> cases h
    · simp
    · exact declare_errN hd
theorem symbol_err {rs : List Ru} {t : Tk} {k : Nat} {ts : List ByteArray} {e : Ft} (h : symbolB rs t k ts = .error e) : e.1 ≠ 0 := by
  unfold symbolB at h
  split at h
  · cases h; simp
  · split at h
    · cases h
    · split at h
      · exact term_err h
      · split at h <;> cases h
        simp
theorem symbols_err {rs : List Ru} {e : Ft} : ∀ {l : List Tk} {k : Nat} {ts : List ByteArray}, symbolsB rs l k ts = .error e → e.1 ≠ 0
  | [], _, _, h => by cases h
  | t :: l, k, ts, h => by
    rw [symbols_step] at h
    cases hs : symbolB rs t k ts with
    | error e' => rw [hs] at h; cases h; exact symbol_err hs
    | ok ts2 => rw [hs] at h; exact symbols_err h
theorem side_err {rs : List Ru} {left : ByteArray} {s : Sd} {u : Bu} {e : Ft} (h : sideB rs left s u = .error e) : e.1 ≠ 0 := by
  unfold sideB at h
  split at h
  · cases h; simp
  · cases hs : symbolsB rs s.l 0 u.ts with
    | error e' => rw [hs] at h; cases h; exact symbols_err hs
    | ok ts2 =>
      rw [hs] at h
      dsimp only at h
      split at h <;> cases h
      simp
theorem sides_errB {rs : List Ru} {left : ByteArray} {e : Ft} : ∀ {l : List Sd} {u : Bu}, sidesB rs left l u = .error e → e.1 ≠ 0
  | [], _, h => by cases h
  | s :: l, u, h => by
    rw [sides_step] at h
    cases hs : sideB rs left s u with
    | error e' => rw [hs] at h; cases h; exact side_err hs
    | ok u' => rw [hs] at h; exact sides_errB h
theorem left_err {t : Tk} {d : Nat} {ts ns : List ByteArray} {e : Ft} (h : leftB t d ts ns = .error e) : e.1 ≠ 0 := by
  unfold leftB at h
  split at h
  · cases h; simp
  · split at h
    · cases h
    · split at h <;> cases h
      simp
theorem rules_errB {rs : List Ru} {d : Nat} {e : Ft} : ∀ {l : List Ru} {u : Bu}, rulesB rs d l u = .error e → e.1 ≠ 0
  | [], _, h => by cases h
  | r :: l, u, h => by
    rw [rulesB_step] at h
    cases hl : leftB r.left d u.ts u.ns with
    | error e' => rw [hl] at h; cases h; exact left_err hl
    | ok ns =>
      rw [hl] at h
      dsimp only at h
      cases hs : sidesB rs r.left.s r.sides { u with ns := ns } with
      | error e' => rw [hs] at h; cases h; exact sides_errB hs
      | ok u' => rw [hs] at h; exact rules_errB h
theorem build_errB {x : Hd} {rs : List Ru} {e : Ft} (h : buildB x rs = .error e) : e.1 ≠ 0 := by
  unfold buildB at h
  cases hh : headsB rs x with
  | error e' => rw [hh] at h; cases h; exact heads_errB hh
  | ok ts =>
    rw [hh] at h
    dsimp only at h
    cases hr : rulesB rs ts.length rs ⟨ts, [], []⟩ with
    | error e' => rw [hr] at h; cases h; exact rules_errB hr
    | ok u => rw [hr] at h; cases h
theorem parse_err {s : ByteArray} {e : Ft} (h : parseS s = .error e) : e.1 ≠ 0 := by
  unfold parseS at h
  split at h
  · rename_i h1
    cases h
    exact h1
  · cases hf : formS (allS s).1 with
    | error e' => rw [hf] at h; cases h; exact form_err hf
    | ok p => obtain ⟨x, rs⟩ := p; rw [hf] at h; exact build_errB h
/-! results -/
theorem results_ci {P : Program} {fn : Func} {p q : Tmp} {ty ty' : TypeId} (h : fn.results = #[.cell p ty, .cell q ty']) (tmps : Array Value) (w : World) (g g' : Nat) (t : TypeId) (cs : Array Value) (fr : Nat × Nat) (d d' : TypeDesc) (v : Value)
    (hp : tmps.getD p undef = .pointer (some ⟨g, 0, none⟩)) (hg : w.heap[g]? = some (.cells cs t fr))
    (hu : P.underlying ty = some d) (hd : (match d with | .struct _ | .array _ _ => true | _ => false) = true) (hi : (P.info? ty).map (·.size) = some cs.size)
    (hq : tmps.getD q undef = .pointer (some ⟨g', 0, none⟩)) (hv : w.cell? ⟨g', 0, none⟩ = some v) (hu' : P.underlying ty' = some d') (hd' : (match d' with | .struct _ | .array _ _ => true | _ => false) = false) :
    (results fn tmps).run P w = .ok (.tuple #[.agg cs, v]) w := by
  have hp' : tmps[p]?.getD undef = .pointer (some ⟨g, 0, none⟩) := by simpa using hp
  have hq' : tmps[q]?.getD undef = .pointer (some ⟨g', 0, none⟩) := by simpa using hq
  have hagg : (isAgg ty').run P w = .ok false w := by
    unfold isAgg
    rw [Sem.run_bind, run_underlying hu' w]
    cases d' <;> simp_all
  have hl : (loadVar ty' ⟨g', 0, none⟩).run P w = .ok v w := by
    simp [loadVar, Sem.run_bind, hagg, hv]
  simp [results, h, hp', hq', asAddr, run_loadVar_row w g t ty cs fr d hg hu hd hi, hl]
end Go.Proofs.YtliofoikejdjeaaDoor
/- gread.Parse: the walk. -/
namespace Go.Proofs.YtliofoikejdjeaaDoor
open Go.RowKit Go.Proofs.YtliofoikejdjeaaDoorW.PrintWords Go.Proofs.YtliofoikejdjeaaDoorW.PrintLast
set_option linter.unusedVariables false
set_option linter.unusedSimpArgs false

def ParseEnd (w : World) (R : Except Ft Gm) (e : Ending) (w' : World) : Prop :=
  Below w.heap.size w w' ∧ match R with
  | .error f => ∃ v, e = .returned (.tuple #[.agg #[.slice none 0 0, .slice none 0 0, .slice none 0 0, .int .i64 0], v]) ∧ ErrIs w' v f.1 f.2
  | .ok g => ∃ A0 A1 A2 c0 c1 c2, e = .returned (.tuple #[.agg (gv A0 A1 A2 c0 c1 c2 g), .nilIface]) ∧ ∀ w'', (∀ k, w.heap.size ≤ k → k < w'.heap.size → w''.heap[k]? = w'.heap[k]?) → GmAt w'' A0 A1 A2 c0 c1 c2 g
theorem ErrIs.set_ {w : World} {v : Value} {c p : Int} (h : ErrIs w v c p) {g : Nat} {cs : Array Value} {t : TypeId} (hk : w.heap[g]? = some (.cells cs t (0, 0))) (ht : t ≠ 94) (i : Nat) (x : Value) : ErrIs (w.setCell ⟨g, i, none⟩ x) v c p := by
  rcases h with h | ⟨h0, b, e, hc⟩
  · exact .inl h
  · refine .inr ⟨h0, b, e, blk_far (p := ⟨g, i, none⟩) hc (fun e => ?_) x⟩
    subst e
    rw [hk] at hc
    injection hc with hc
    injection hc with _ hc
    exact ht hc
/-- The reader's state ahead of all. -/
theorem HS.start {W0 : World} {l : List Tk} {A : Option Addr} {c : Nat} (hC : Kd.C kTk W0 A l.length l) (hc : l.length ≤ c) (hp : 0 < l.length) :
    HS W0 ((W0.alloc (.map #[] 0)).alloc (.cells #[.slice A l.length c, .slice none 0 0, .slice none 0 0, .slice none 0 0, .slice none 0 0, .map (some W0.heap.size)] 88 (0, 0))) (W0.heap.size + 1) l (.slice none 0 0) (.slice none 0 0) (.slice none 0 0) (.slice none 0 0) W0.heap.size 0 (fun _ => none) 0 [] [] [] := by
  have hb := below_alloc (below_alloc (Below.refl W0.heap.size W0) (.map #[] 0)) (.cells #[.slice A l.length c, .slice none 0 0, .slice none 0 0, .slice none 0 0, .slice none 0 0, .map (some W0.heap.size)] 88 (0, 0))
  have hn := blk_new (W0.alloc (.map #[] 0)) (.cells #[.slice A l.length c, .slice none 0 0, .slice none 0 0, .slice none 0 0, .slice none 0 0, .map (some W0.heap.size)] 88 (0, 0))
  rw [show (W0.alloc (.map #[] 0)).heap.size = W0.heap.size + 1 from by simp] at hn
  obtain ⟨ad, ea, _⟩ := hC.2.2 hp
  subst ea
  exact ⟨⟨hb, Nat.le_succ _, ⟨ad, c, hn, hc, hC⟩, hp⟩, Kd.R_nil _ _ _ _ _, Kd.R_nil _ _ _ _ _, Kd.R_nil _ _ _ _ _, (MapSI.made W0).below (below_alloc (Below.refl _ _) _), Nat.le_refl _⟩
/-- The builder's state ahead of all. -/
theorem BS.start {W1 : World} {b m : Nat} {x : Hd} {rs : List Ru} (h : RdR W1 b m x rs) :
    BS W1 (((W1.alloc (.map #[] 0)).alloc (.map #[] 0)).alloc (.cells #[.pointer (some ⟨b, 0, none⟩), .map (some W1.heap.size), .map (some (W1.heap.size + 1)), .slice none 0 0, .slice none 0 0, .slice none 0 0, .int .i64 0, .slice none 0 0] 92 (0, 0))) b m x rs (W1.heap.size + 1 + 1) W1.heap.size (W1.heap.size + 1) (.slice none 0 0) (.slice none 0 0) (.slice none 0 0) ⟨[], [], []⟩ [] [] := by
  have hn := blk_new ((W1.alloc (.map #[] 0)).alloc (.map #[] 0)) (.cells #[.pointer (some ⟨b, 0, none⟩), .map (some W1.heap.size), .map (some (W1.heap.size + 1)), .slice none 0 0, .slice none 0 0, .slice none 0 0, .int .i64 0, .slice none 0 0] 92 (0, 0))
  rw [show ((W1.alloc (.map #[] 0)).alloc (.map #[] 0)).heap.size = W1.heap.size + 1 + 1 from by simp] at hn
  have h2 := MapSI.made (W1.alloc (.map #[] 0))
  rw [show (W1.alloc (.map #[] 0)).heap.size = W1.heap.size + 1 from by simp] at h2
  exact ⟨h, below_alloc (below_alloc (below_alloc (Below.refl _ _) _) _) _, by omega, hn, Kd.R_nil _ _ _ _ _, Kd.R_nil _ _ _ _ _, Kd.R_nil _ _ _ _ _,
    ⟨0, _, 0, ((MapSI.made W1).below (below_alloc (Below.refl _ _) _)).below (below_alloc (Below.refl _ _) _), fun s => rfl, Nat.le_refl _⟩,
    ⟨0, _, 0, h2.below (below_alloc (Below.refl _ _) _), fun s => rfl, Nat.le_refl _⟩, Nat.le_refl _, Nat.le_succ _, by omega⟩
theorem P1End.below {w w4 w' : World} {e p : Int} (h : P1End w4 w.heap.size (w.heap.size + 1) e p w') (hb : Below w.heap.size w w4) : Below w.heap.size w w' := by
  obtain ⟨v', _, _, _, hsz, hbl, h1, h2, h3⟩ := h
  exact ⟨h1.trans hb.os, h2.trans hb.tape, h3.trans hb.output, Nat.le_trans hb.size hsz, fun k hk => (hbl k (Nat.lt_of_lt_of_le hk hb.size) (by omega) (by omega)).trans (hb.block k hk)⟩
theorem parse_all {s : ByteArray} (h : (allS s).2.1 ≠ 0) : parseS s = .error (allS s).2 := by unfold parseS; rw [if_pos h]
theorem parse_form {s : ByteArray} (h : (allS s).2.1 = 0) : parseS s = match formS (allS s).1 with | .error e => .error e | .ok (x, rs) => buildB x rs := by
  unfold parseS
  rw [if_neg (by simp [h])]
  cases formS (allS s).1 <;> rfl
set_option maxHeartbeats 8000000 in
set_option maxRecDepth 100000 in
theorem gread_Parse (s : ByteArray) (hs : s.size ≤ 140737488351232) {w : World} (hm : MxAt w) :
    Calls Tryd.prog 21 #[.string s] w (ParseEnd w (parseS s)) := by
  have hmf : ∀ (fn : Fn) (first cap : Array Value) (w : World), (Instr.makeFunc fn first cap).run Tryd.prog w = .ok (.func fn first cap) w := fun _ _ _ _ => rfl
  have hb2 := below_alloc (below_alloc (Below.refl w.heap.size w) (.cells #[.slice none 0 0, .slice none 0 0, .slice none 0 0, .int .i64 0] 30 (0, 0))) (.cells #[.nilIface] 44 (0, 0))
  have hk0 := blk_alloc (blk_new w (.cells #[.slice none 0 0, .slice none 0 0, .slice none 0 0, .int .i64 0] 30 (0, 0))) (.cells #[.nilIface] 44 (0, 0))
  have hk1 := blk_new (w.alloc (.cells #[.slice none 0 0, .slice none 0 0, .slice none 0 0, .int .i64 0] 30 (0, 0))) (.cells #[.nilIface] 44 (0, 0))
  rw [show (w.alloc (.cells #[.slice none 0 0, .slice none 0 0, .slice none 0 0, .int .i64 0] 30 (0, 0))).heap.size = w.heap.size + 1 from by simp] at hk1
  have HALL := Aside0.mk (gtok_All s hs (hm.below hb2))
  have HB0 := Aside0.mk hb2
  have HNE : Aside0 ((w.heap.size + 1) ≠ w.heap.size) := ⟨by omega⟩
  have HG0 : Aside0 (w.heap.size ≤ w.heap.size) := ⟨by omega⟩
  have HG1 : Aside0 (w.heap.size ≤ (w.heap.size + 1)) := ⟨by omega⟩
  have HK0 := Aside0.mk hk0
  have HK1 := Aside0.mk hk1
  clear hm hb2 hk0 hk1
  by_cases hc : (allS s).2.1 = 0
  · obtain ⟨l, hl⟩ : ∃ l, (allS s).1 = l := ⟨_, rfl⟩
    have hpf := parse_form hc
    obtain ⟨t1, t2, t3⟩ := all_fine hc
    rw [hl] at HALL hpf t1 t2 t3
    have HPF := Aside0.mk hpf
    have HT1 := Aside0.mk t1
    have HT2 := Aside0.mk (fun t (h : t ∈ l) => Nat.le_trans (t2 t h) (by decide : 8192 ≤ 10000))
    have HT3 := Aside0.mk (Nat.le_trans t3 (by decide : 8193 ≤ 10000))
    have HT4 := Aside0.mk t3
    have HLP : Aside0 (0 < l.length) := ⟨by obtain ⟨l0, t, e, _⟩ := t1; rw [e]; simp⟩
    rw [hc] at HALL
    clear hc hl hpf t1 t2 t3
    go_enter_defers Tryd.func21, Tryd.ntmps21
    go_upto_region 4 with (go_at_call 37; ((with_reducible refine HALL.out.mono ?_); rintro e w2 ⟨vs, v, rfl, hv, ho, hb⟩; have H0 := Aside0.mk (blk_below HK0.out hb); have H1 := Aside0.mk (blk_below HK1.out hb); have HB := Aside0.mk (HB0.out.trans (hb.mono HB0.out.size)); have k1 := (blk_cell H1.out 0).trans rfl; have y1 := blk_frozen H1.out 0; obtain rfl := hv.nil; have HO := Aside0.mk (Kd.R_set ho H1.out (by decide) 0 .nilIface); obtain ⟨A, c, eA, lA, CA⟩ := Kd.R_reads HO.out; subst eA; have HCA := Aside0.mk CA; have HLA := Aside0.mk lA; clear hv ho hb CA lA HO))
    have n0_ := Aside0.mk (blk_far (p := ⟨(w.heap.size + 1), 0, none⟩) H0.out (Ne.symm HNE.out) .nilIface)
    have n1_ := Aside0.mk (blk_set H1.out 0 .nilIface)
    have n2_ := Aside0.mk (HB.out.setCell (p := ⟨(w.heap.size + 1), 0, none⟩) HG1.out .nilIface)
    generalize World.setCell w2 _ _ = w3 at n0_ n1_ n2_ HCA ⊢
    clear H0 H1 HB k1 y1
    have H0 := n0_
    have H1 := n1_
    have HB := n2_
    clear n0_ n1_ n2_ HALL HK0 HK1 HB0
    have HST := Aside0.mk (HS.start HCA.out HLA.out HLP.out)
    have HFO := Aside0.mk (rd_form HST.out HT1.out HT2.out HT3.out)
    have hmk := @run_makeMap Tryd.prog
    obtain ⟨R, hR⟩ : ∃ R, formS l = R := ⟨_, rfl⟩
    rw [hR] at HFO HPF
    have HR := Aside0.mk hR
    clear hR
    cases R with
    | error f =>
      have HPV : Aside0 (parseS s = .error f) := ⟨HPF.out⟩
      go_wp2_with (go_at_call 40; ((with_reducible refine HFO.out.mono ?_); rintro e w4 ⟨⟨older, rfl, ho⟩, hb⟩))
      refine leaves_cons (f := 38) (args := #[.pointer (some ⟨w.heap.size, 0, none⟩), .pointer (some ⟨(w.heap.size + 1), 0, none⟩)]) (by simp) (by simp [go_sem]) ?_
      refine (parse1_panic (blk_below H0.out hb) (blk_below H1.out hb) (e := f.1) (p := f.2) (form_err HR.out) older).mono ?_
      rintro e u'' w'' ⟨rfl, rfl, hp⟩
      have hBW := P1End.below hp (HB.out.trans (hb.mono HB.out.size))
      obtain ⟨v', q0, q1, hv, _⟩ := hp
      show Leaves _ _ _ _ [] (settle _) _
      rw [show settle (.panicking ({ v := .iface 82 (.agg #[.int .i64 f.1, .int .i64 f.2]), recovered := true } :: older)) = .returning from by simp [settle, ho]]
      refine ⟨_, results_ci (fn := Tryd.f21) rfl _ _ w.heap.size (w.heap.size + 1) 30 _ (0, 0) _ _ _ rfl q0 Tryd.underlying30 rfl (by kernel_rfl) rfl ((blk_cell q1 0).trans rfl) Tryd.underlying44 rfl, ?_⟩
      rw [HPV.out]
      exact ⟨hBW, _, rfl, hv⟩
    | ok p =>
      obtain ⟨x, rs⟩ := p
      have HFF := Aside0.mk (form_fine HR.out HT1.out)
      have HPV : Aside0 (parseS s = buildB x rs) := ⟨HPF.out⟩
      go_upto_region 7 with (go_at_call 40; ((with_reducible refine HFO.out.mono ?_); rintro e w4 ⟨rfl, l', v1, v2, v3, v4, hrs⟩; have HRD := Aside0.mk hrs.read; have HB4 := Aside0.mk hrs.rl.below; clear hrs))
      have n0_ := Aside0.mk (blk_below H0.out HB4.out)
      have n1_ := Aside0.mk (blk_below H1.out HB4.out)
      have n2_ := Aside0.mk (HB.out.trans (HB4.out.mono HB.out.size))
      clear H0 H1 HB HST HFO HCA HLA HB4
      have H0 := n0_
      have H1 := n1_
      have HB := n2_
      clear n0_ n1_ n2_
      have HBU := Aside0.mk (b_build (BS.start HRD.out) (by have := HFF.out.dlen; have := HT3.out; omega) (fun z hz => HT2.out z (HFF.out.dec z hz)) (fun z hz => HT2.out z (HFF.out.sta z hz)) (fun hn e => hn (List.eq_nil_of_length_eq_zero (by rw [HFF.out.par, e]; rfl))) (by have := HFF.out.rlen; have := HT3.out; have := HT4.out; omega) (fun r hr => ⟨HT2.out _ (HFF.out.rin r hr).1, by have := (HFF.out.rin r hr).2.1; have := HT3.out; omega, fun s hs => ⟨by have := ((HFF.out.rin r hr).2.2 s hs).1; have := HT3.out; omega, fun t ht => HT2.out t (((HFF.out.rin r hr).2.2 s hs).2 t ht)⟩⟩))
      obtain ⟨R2, hR2⟩ : ∃ R, buildB x rs = R := ⟨_, rfl⟩
      rw [hR2] at HBU HPV
      have HR2 := Aside0.mk hR2
      clear hR2
      cases R2 with
      | error f =>
        go_wp2_with (go_at_call 41; ((with_reducible refine HBU.out.mono ?_); rintro e w5 ⟨⟨older, rfl, ho⟩, hb⟩))
        refine leaves_cons (f := 38) (args := #[.pointer (some ⟨w.heap.size, 0, none⟩), .pointer (some ⟨(w.heap.size + 1), 0, none⟩)]) (by simp) (by simp [go_sem]) ?_
        refine (parse1_panic (blk_below H0.out hb) (blk_below H1.out hb) (e := f.1) (p := f.2) (build_errB HR2.out) older).mono ?_
        rintro e u'' w'' ⟨rfl, rfl, hp⟩
        have hBW := P1End.below hp (HB.out.trans (hb.mono HB.out.size))
        obtain ⟨v', q0, q1, hv, _⟩ := hp
        show Leaves _ _ _ _ [] (settle _) _
        rw [show settle (.panicking ({ v := .iface 82 (.agg #[.int .i64 f.1, .int .i64 f.2]), recovered := true } :: older)) = .returning from by simp [settle, ho]]
        refine ⟨_, results_ci (fn := Tryd.f21) rfl _ _ w.heap.size (w.heap.size + 1) 30 _ (0, 0) _ _ _ rfl q0 Tryd.underlying30 rfl (by kernel_rfl) rfl ((blk_cell q1 0).trans rfl) Tryd.underlying44 rfl, ?_⟩
        rw [HPV.out]
        exact ⟨hBW, _, rfl, hv⟩
      | ok g =>
        go_wp2_with (go_at_call 41; ((with_reducible refine HBU.out.mono ?_); rintro e w5 ⟨A0, A1, A2, c0, c1, c2, rfl, hgm, hb⟩; have HGM := Aside0.mk hgm; have n0_ := Aside0.mk (blk_below H0.out hb); have n1_ := Aside0.mk (blk_below H1.out hb); have n2_ := Aside0.mk (HB.out.trans (hb.mono HB.out.size)); have HW4 := Aside0.mk (show w.heap.size + 1 < w4.heap.size from blk_lt H1.out); clear H0 H1 HB hgm hb; have H0 := n0_; have H1 := n1_; have HB := n2_; clear n0_ n1_ n2_; have x0 := (blk_cell H1.out 0).trans rfl; have u0 := blk_frozen H1.out 0; have z0 := (blk_cell H0.out 0).trans rfl; have z1 := (blk_cell H0.out 1).trans rfl; have z2 := (blk_cell H0.out 2).trans rfl; have z3 := (blk_cell H0.out 3).trans rfl; have y0 := blk_frozen H0.out 0; have y1 := blk_frozen H0.out 1; have y2 := blk_frozen H0.out 2; have y3 := blk_frozen H0.out 3; unfold gv))
        refine leaves_cons (f := 38) (args := #[.pointer (some ⟨w.heap.size, 0, none⟩), .pointer (some ⟨(w.heap.size + 1), 0, none⟩)]) (by simp) (by simp [go_sem]) ?_
        refine parse1_ret.mono ?_
        rintro e u'' w'' ⟨rfl, rfl, rfl⟩
        have e0 := blk_set (blk_set (blk_set (blk_set H0.out 0 (.slice A0 g.terms.length c0)) 1 (.slice A1 g.nons.length c1)) 2 (.slice A2 g.rules.length c2)) 3 (.int .i64 g.start)
        have e1 := blk_far (p := ⟨w.heap.size, 3, none⟩) (blk_far (p := ⟨w.heap.size, 2, none⟩) (blk_far (p := ⟨w.heap.size, 1, none⟩) (blk_far (p := ⟨w.heap.size, 0, none⟩) H1.out HNE.out (.slice A0 g.terms.length c0)) HNE.out (.slice A1 g.nons.length c1)) HNE.out (.slice A2 g.rules.length c2)) HNE.out (.int .i64 g.start)
        have e2 := (((HB.out.setCell (p := ⟨w.heap.size, 0, none⟩) HG0.out (.slice A0 g.terms.length c0)).setCell (p := ⟨w.heap.size, 1, none⟩) HG0.out (.slice A1 g.nons.length c1)).setCell (p := ⟨w.heap.size, 2, none⟩) HG0.out (.slice A2 g.rules.length c2)).setCell (p := ⟨w.heap.size, 3, none⟩) HG0.out (.int .i64 g.start)
        have d0 := blk_far (p := ⟨(w.heap.size + 1), 0, none⟩) e0 (Ne.symm HNE.out) .nilIface
        have d1 := blk_set e1 0 .nilIface
        have d2 := e2.setCell (p := ⟨(w.heap.size + 1), 0, none⟩) HG1.out .nilIface
        refine ⟨_, results_ci (fn := Tryd.f21) rfl _ _ w.heap.size (w.heap.size + 1) 30 _ (0, 0) _ _ _ rfl d0 Tryd.underlying30 rfl (by kernel_rfl) rfl ((blk_cell d1 0).trans rfl) Tryd.underlying44 rfl, ?_⟩
        rw [HPV.out]
        refine ⟨d2, A0, A1, A2, c0, c1, c2, rfl, fun w'' hfar => HGM.out _ (fun k hk hk2 => ?_)⟩
        have hw := HW4.out
        have n0 : k ≠ w.heap.size := by omega
        have n1 : k ≠ (w.heap.size + 1) := by omega
        refine (hfar k (by omega) (by simpa using hk2)).trans ?_
        exact (Below.heap_setCell _ ⟨(w.heap.size + 1), 0, none⟩ _ k n1).trans ((Below.heap_setCell _ ⟨w.heap.size, 3, none⟩ _ k n0).trans ((Below.heap_setCell _ ⟨w.heap.size, 2, none⟩ _ k n0).trans ((Below.heap_setCell _ ⟨w.heap.size, 1, none⟩ _ k n0).trans (Below.heap_setCell _ ⟨w.heap.size, 0, none⟩ _ k n0))))
  · have HR := Aside0.mk (parse_all hc)
    have HC := Aside0.mk hc
    clear hc
    go_enter_defers Tryd.func21, Tryd.ntmps21
    go_wp2_with (go_at_call 37; ((with_reducible refine HALL.out.mono ?_); rintro e w2 ⟨vs, v, rfl, hv, ho, hb⟩; have H0 := Aside0.mk (blk_below HK0.out hb); have H1 := Aside0.mk (blk_below HK1.out hb); have HV := Aside0.mk hv; have HB := Aside0.mk (HB0.out.trans (hb.mono HB0.out.size)); have k1 := (blk_cell H1.out 0).trans rfl; have y1 := blk_frozen H1.out 0; obtain ⟨b2, eb⟩ := hv.some_ HC.out; subst eb; clear hv ho hb))
    have n0_ := Aside0.mk (blk_far (p := ⟨(w.heap.size + 1), 0, none⟩) H0.out (Ne.symm HNE.out) (.iface 116 (.pointer (some ⟨b2, 0, none⟩))))
    have n1_ := Aside0.mk (blk_set H1.out 0 (.iface 116 (.pointer (some ⟨b2, 0, none⟩))))
    have n2_ := Aside0.mk (HB.out.setCell (p := ⟨(w.heap.size + 1), 0, none⟩) HG1.out (.iface 116 (.pointer (some ⟨b2, 0, none⟩))))
    have n3_ := Aside0.mk (HV.out.set_ H1.out (by decide) 0 (.iface 116 (.pointer (some ⟨b2, 0, none⟩))))
    generalize World.setCell w2 _ _ = w3 at n0_ n1_ n2_ n3_ ⊢
    clear H0 H1 HB HV k1 y1
    have H0 := n0_
    have H1 := n1_
    have HB := n2_
    have HV := n3_
    clear n0_ n1_ n2_ n3_
    have x0 := (blk_cell H1.out 0).trans rfl
    have v0 := blk_frozen H1.out 0
    have z0 := (blk_cell H0.out 0).trans rfl
    have z1 := (blk_cell H0.out 1).trans rfl
    have z2 := (blk_cell H0.out 2).trans rfl
    have z3 := (blk_cell H0.out 3).trans rfl
    have y0 := blk_frozen H0.out 0
    have y1 := blk_frozen H0.out 1
    have y2 := blk_frozen H0.out 2
    have y3 := blk_frozen H0.out 3
    have e0 := blk_set (blk_set (blk_set (blk_set H0.out 0 (.slice none 0 0)) 1 (.slice none 0 0)) 2 (.slice none 0 0)) 3 (.int .i64 0)
    have e1 := blk_far (p := ⟨w.heap.size, 3, none⟩) (blk_far (p := ⟨w.heap.size, 2, none⟩) (blk_far (p := ⟨w.heap.size, 1, none⟩) (blk_far (p := ⟨w.heap.size, 0, none⟩) H1.out HNE.out (.slice none 0 0)) HNE.out (.slice none 0 0)) HNE.out (.slice none 0 0)) HNE.out (.int .i64 0)
    have e2 := (((HB.out.setCell (p := ⟨w.heap.size, 0, none⟩) HG0.out (.slice none 0 0)).setCell (p := ⟨w.heap.size, 1, none⟩) HG0.out (.slice none 0 0)).setCell (p := ⟨w.heap.size, 2, none⟩) HG0.out (.slice none 0 0)).setCell (p := ⟨w.heap.size, 3, none⟩) HG0.out (.int .i64 0)
    have e3 := (((HV.out.set_ H0.out (by decide) 0 (.slice none 0 0)).set_ (blk_set H0.out 0 (.slice none 0 0)) (by decide) 1 (.slice none 0 0)).set_ (blk_set (blk_set H0.out 0 (.slice none 0 0)) 1 (.slice none 0 0)) (by decide) 2 (.slice none 0 0)).set_ (blk_set (blk_set (blk_set H0.out 0 (.slice none 0 0)) 1 (.slice none 0 0)) 2 (.slice none 0 0)) (by decide) 3 (.int .i64 0)
    have d0 := Aside0.mk (blk_drew (blk_far (p := ⟨(w.heap.size + 1), 0, none⟩) e0 (Ne.symm HNE.out) (.iface 116 (.pointer (some ⟨b2, 0, none⟩)))))
    have d1 := Aside0.mk (blk_drew (blk_set e1 0 (.iface 116 (.pointer (some ⟨b2, 0, none⟩)))))
    have d2 := Aside0.mk (below_drew (e2.setCell (p := ⟨(w.heap.size + 1), 0, none⟩) HG1.out (.iface 116 (.pointer (some ⟨b2, 0, none⟩)))))
    have d3 := Aside0.mk ((e3.set_ e1 (by decide) 0 (.iface 116 (.pointer (some ⟨b2, 0, none⟩)))).below (below_drew (Below.refl _ _)))
    clear e0 e1 e2 e3
    go_region
    all_goals
      go_wp2
      refine ⟨_, results_ci (fn := Tryd.f21) rfl _ _ w.heap.size (w.heap.size + 1) 30 _ (0, 0) _ _ _ rfl d0.out Tryd.underlying30 rfl (by kernel_rfl) rfl ((blk_cell d1.out 0).trans rfl) Tryd.underlying44 rfl, ?_⟩
      rw [HR.out]
      exact ⟨d2.out, _, rfl, d3.out⟩
end Go.Proofs.YtliofoikejdjeaaDoor
/- Tokens of a text that is laid out token by token (plain). -/
namespace Go.Proofs.YtliofoikejdjeaaDoor
open Go.RowKit Go.Proofs.YtliofoikejdjeaaDoorW.PrintWords
set_option linter.unusedVariables false
set_option linter.unusedSimpArgs false
/-- The text from a place on. -/
structure At (s : ByteArray) (a : Nat) (u : List UInt8) : Prop where
  le : a ≤ s.size
  eq : s.data.toList.drop a = u
section
variable {s : ByteArray} {a : Nat} {t u : List UInt8} {c : UInt8}
theorem At.len (h : At s a u) : s.size = a + u.length := by
  have h1 : (s.data.toList.drop a).length = u.length := by rw [h.eq]
  rw [List.length_drop, data_length] at h1
  have := h.le
  omega
theorem At.app (h : At s a (t ++ u)) : At s (a + t.length) u := by
  refine ⟨by have := h.len; rw [List.length_append] at this; omega, ?_⟩
  rw [← List.drop_drop, h.eq, List.drop_left]
theorem At.tail (h : At s a (c :: u)) : At s (a + 1) u := At.app (t := [c]) h
theorem At.lt (h : At s a (c :: u)) : a < s.size := by
  have := h.len
  simp only [List.length_cons] at this
  omega
theorem At.get (h : At s a (c :: u)) : s[a]'h.lt = c := by
  have h2 : a < s.data.toList.length := by rw [data_length]; exact h.lt
  have := h.eq
  rw [List.drop_eq_getElem_cons h2] at this
  injection this
theorem At.byte (h : At s a (c :: u)) : byteN s a = c.toNat := by rw [← byteN_at h.lt, h.get]
theorem At.span {p : UInt8 → Bool} (h : At s a (t ++ u)) (h1 : ∀ c ∈ t, p c = true) (h2 : u.takeWhile p = []) : spanS p s a = t.length := by
  unfold spanS
  rw [h.eq, List.takeWhile_append_of_pos h1, h2, List.append_nil]
theorem At.cut {t : ByteArray} (h : At s a (t.data.toList ++ u)) : cutS s a t.size = t := by
  have hl := h.len
  apply WideShapes.bytes_inj
  unfold cutS
  rw [ByteArray.data_extract, Array.toList_extract, List.extract_eq_take_drop, show a + t.size - a = t.size from by omega, h.eq, ← data_length t, List.take_left]
end
/-- From a place on these are the tokens. -/
def Toks (s : ByteArray) (a : Nat) (l : List Tk) : Prop := ∀ f, s.size < a + f → toksS s f a = (l, 0, 0)
section
variable {s : ByteArray} {a : Nat} {t u : List UInt8} {c : UInt8} {l : List Tk}
theorem Toks.done (h : At s a []) : Toks s a [⟨0, ⟨#[]⟩, s.size⟩] := by
  intro f hf
  have := h.len
  simp only [List.length_nil] at this
  obtain ⟨g, rfl⟩ : ∃ g, f = g + 1 := ⟨f - 1, by omega⟩
  rw [toksS, if_pos (by omega)]
theorem Toks.step {k : Int} {n : Nat} (ha : a < s.size) (h1 : oneS s a = (k, (n : Int), 0, 0)) (hn : 0 < n) (h : Toks s (a + n) l) : Toks s a (if k = 0 then l else ⟨k, cutS s a n, a⟩ :: l) := by
  intro f hf
  obtain ⟨g, rfl⟩ : ∃ g, f = g + 1 := ⟨f - 1, by omega⟩
  rw [toksS, if_neg (by omega)]
  simp only [h1, Int.toNat_natCast, h g (by omega)]
  rw [if_neg (by simp), if_neg (by simp)]
theorem Toks.white (h : At s a (t ++ u)) (ht : t ≠ []) (h1 : ∀ c ∈ t, whiteB c = true) (h2 : u.takeWhile whiteB = []) (hr : Toks s (a + t.length) l) : Toks s a l := by
  have hsp := h.span h1 h2
  cases t with
  | nil => exact absurd rfl ht
  | cons c t =>
    have ho : oneS s a = (0, (((c :: t).length : Nat) : Int), 0, 0) := by
      unfold oneS
      rw [dif_pos (At.lt h)]
      simp only [At.get (u := t ++ u) h]
      rw [if_pos (h1 c (List.mem_cons_self ..)), hsp]
    have := Toks.step (At.lt h) ho (by simp) hr
    rwa [if_pos rfl] at this
theorem name_head : ∀ c : UInt8, cls c.toNat = 4 → whiteB c = false ∧ c.toNat ≠ 47 ∧ c.toNat ≠ 39 ∧ c.toNat ≠ 37 := by
  have h : ∀ n : Fin 256, cls n.val = 4 → (decide (n.val = 32) || decide (n.val = 9) || decide (n.val = 10) || decide (n.val = 13)) = false ∧ n.val ≠ 47 ∧ n.val ≠ 39 ∧ n.val ≠ 37 := by decide +kernel
  intro c
  exact h ⟨c.toNat, c.toNat_lt⟩
theorem name_bytes {t : ByteArray} (h : nameOk t = true) : ∃ c r, t.data.toList = c :: r ∧ cls c.toNat = 4 ∧ ∀ x ∈ c :: r, letterB x = true := by
  unfold nameOk at h
  simp only [Bool.and_eq_true, decide_eq_true_eq] at h
  obtain ⟨h1, h2⟩ := h
  have hl := data_length t
  cases e : t.data.toList with
  | nil => rw [e] at hl; simp at hl; omega
  | cons c r =>
    have hg : ∀ (i : Nat) (hi : i < t.size), t[i]'hi = (c :: r)[i]'(by rw [← e, hl]; exact hi) := by
      intro i hi
      have : t[i]'hi = t.data.toList[i]'(by rw [hl]; exact hi) := rfl
      rw [this]
      congr 1
    refine ⟨c, r, rfl, ?_, fun x hx => ?_⟩
    · have := h2 0 h1
      rw [hg 0 h1] at this
      rcases this with h | h
      · exact h
      · exact absurd h.2 (Nat.lt_irrefl 0)
    · obtain ⟨i, hi, rfl⟩ := List.mem_iff_getElem.1 hx
      have hi' : i < t.size := by rw [← hl, e]; exact hi
      have := h2 i hi'
      rw [hg i hi'] at this
      unfold letterB
      rcases this with h | h
      · simp [h]
      · simp [h.1]
theorem Toks.name {t : ByteArray} (h : At s a (t.data.toList ++ u)) (hn : nameOk t = true) (hs : t.size ≤ 24) (h2 : u.takeWhile letterB = []) (hr : Toks s (a + t.size) l) : Toks s a (⟨1, t, a⟩ :: l) := by
  obtain ⟨c, r, e, hc, hx⟩ := name_bytes hn
  have hcut := h.cut
  have hl := data_length t
  have h3 := h
  rw [e] at h
  have hsp := h.span hx h2
  rw [← e, hl] at hsp
  obtain ⟨n1, n2, n3, n4⟩ := name_head c hc
  have ho : oneS s a = (1, (t.size : Int), 0, 0) := by
    unfold oneS
    rw [dif_pos (At.lt h)]
    simp only [At.get (u := r ++ u) h]
    rw [if_neg (by rw [n1]; decide), if_neg n2, if_neg n3, if_neg n4, if_pos hc, hsp, if_neg (by omega)]
  have hp : 0 < t.size := by rw [← hl, e]; simp
  have := Toks.step (At.lt h) ho hp hr
  rwa [if_neg (by decide), hcut] at this
theorem Toks.sign {k : Int} (h : At s a (c :: u)) (hk : signS c.toNat = k) (hk0 : k ≠ 0) (hr : Toks s (a + 1) l) : Toks s a (⟨k, ⟨#[c]⟩, a⟩ :: l) := by
  have hc : c.toNat = 58 ∨ c.toNat = 124 ∨ c.toNat = 59 := by
    unfold signS at hk
    by_cases h1 : c.toNat = 58
    · exact .inl h1
    · by_cases h2 : c.toNat = 124
      · exact .inr (.inl h2)
      · by_cases h3 : c.toNat = 59
        · exact .inr (.inr h3)
        · rw [if_neg h1, if_neg h2, if_neg h3] at hk
          exact absurd hk.symm hk0
  have hw : whiteB c = false ∧ cls c.toNat ≠ 4 := by
    unfold whiteB
    rcases hc with h | h | h <;> rw [h] <;> decide
  have ho : oneS s a = (k, ((1 : Nat) : Int), 0, 0) := by
    unfold oneS
    rw [dif_pos (At.lt h)]
    simp only [At.get h]
    rw [if_neg (by rw [hw.1]; decide), if_neg (by omega), if_neg (by omega), if_neg (by omega), if_neg hw.2, if_pos (by rw [hk]; exact hk0), hk]
    rfl
  have hcut := At.cut (s := s) (a := a) (t := ⟨#[c]⟩) (u := u) h
  have := Toks.step (At.lt h) ho (by decide) hr
  rw [if_neg hk0] at this
  rw [show cutS s a 1 = ⟨#[c]⟩ from hcut] at this
  exact this
theorem Toks.quoted {t : ByteArray} (h : At s a (t.data.toList ++ u)) (h1 : byteN t 0 = 39) (h2 : (quotedS t 0).2.1 = 0) (h3 : (quotedS t 0).1 = t.size) (hp : 0 < t.size) (hr : Toks s (a + t.size) l) : Toks s a (⟨2, t, a⟩ :: l) := by
  have hl := data_length t
  have hcut := h.cut
  -- what t is
  obtain ⟨m, hm⟩ : ∃ m, spanS insideB t 1 = m := ⟨_, rfl⟩
  have hq : ¬ t.size ≤ 1 + m ∧ byteN t (1 + m) = 39 ∧ m ≠ 0 ∧ ¬ 23 ≤ m ∧ t.size = m + 2 := by
    unfold quotedS at h2 h3
    simp only [Nat.zero_add, hm] at h2 h3
    split at h2
    · exact absurd h2 (by simp)
    · rename_i g1
      rw [if_neg g1] at h3
      split at h2
      · exact absurd h2 (by simp)
      · rename_i g2
        rw [if_neg g2] at h3
        split at h2
        · exact absurd h2 (by simp)
        · rename_i g3
          rw [if_neg g3] at h3
          simp only at h3
          exact ⟨g1, by omega, by omega, g3, by omega⟩
  obtain ⟨q1, q2, q3, q4, q5⟩ := hq
  obtain ⟨c, r, e⟩ : ∃ c r, t.data.toList = c :: r := by
    cases e : t.data.toList with
    | nil => rw [e] at hl; simp at hl; omega
    | cons c r => exact ⟨c, r, rfl⟩
  have hA : At t 0 (c :: r) := ⟨Nat.zero_le _, by rw [List.drop_zero, e]⟩
  have hc : c.toNat = 39 := by rw [← hA.byte, h1]
  have hA1 := hA.tail
  rw [Nat.zero_add] at hA1
  have hrl : r.length = m + 1 := by have := hA1.len; omega
  have hin : r.takeWhile insideB = r.take m := by
    unfold spanS at hm
    rw [hA1.eq] at hm
    have := List.takeWhile_prefix insideB (l := r)
    rw [List.prefix_iff_eq_take] at this
    rw [hm] at this
    exact this
  obtain ⟨d, hd⟩ : ∃ d, r.drop m = [d] := by
    have : (r.drop m).length = 1 := by rw [List.length_drop]; omega
    exact List.length_eq_one_iff.1 this
  have hr2 : r = r.take m ++ [d] := by rw [← hd, List.take_append_drop]
  have htl : (r.take m).length = m := by rw [List.length_take]; omega
  have hA2 : At t (1 + m) [d] := by
    have := hA1
    rw [hr2] at this
    have := this.app
    rwa [htl] at this
  have hd39 : d.toNat = 39 := by rw [← hA2.byte, q2]
  have hall : ∀ x ∈ r.take m, insideB x = true := by
    intro x hx
    rw [← hin] at hx
    exact List.all_eq_true.1 List.all_takeWhile x hx
  rw [e] at h
  have hB1 : At s (a + 1) (r.take m ++ (d :: u)) := by
    have := At.tail (u := r ++ u) h
    rw [hr2, List.append_assoc] at this
    exact this
  have hsp := hB1.span hall (by
    rw [List.takeWhile_cons]
    have : insideB d = false := by simp [insideB, hd39]
    rw [this]
    rfl)
  rw [htl] at hsp
  have hB2 := hB1.app
  rw [htl] at hB2
  have hby : byteN s (a + (1 + m)) = 39 := by
    have := hB2.byte
    rw [Nat.add_assoc] at this
    rw [this, hd39]
  have hqs : quotedS s a = ((t.size : Int), 0, 0) := by
    unfold quotedS
    simp only [hsp]
    have hlt : ¬ s.size ≤ a + (1 + m) := by have := hB2.lt; omega
    rw [if_neg hlt, if_neg (by omega), if_neg q4, q5]
    simp only [Prod.mk.injEq, and_true]
    omega
  have hw : whiteB c = false := by unfold whiteB; rw [hc]; decide
  have ho : oneS s a = (2, (t.size : Int), 0, 0) := by
    unfold oneS
    rw [dif_pos (At.lt h)]
    simp only [At.get (u := r ++ u) h]
    rw [if_neg (by rw [hw]; decide), if_neg (by omega), if_pos hc, hqs]
  have := Toks.step (At.lt h) ho hp hr
  rwa [if_neg (by decide), hcut] at this
theorem mark_head {c : UInt8} (h : At s a (c :: u)) (hc : c.toNat = 37) : oneS s a = markS s a := by
  have hw : whiteB c = false := by unfold whiteB; rw [hc]; decide
  unfold oneS
  rw [dif_pos h.lt]
  simp only [h.get]
  rw [if_neg (by rw [hw]; decide), if_neg (by omega), if_neg (by omega), if_pos hc]
theorem Toks.mark (h : At s a (37 :: 37 :: u)) (hr : Toks s (a + 2) l) : Toks s a (⟨6, ⟨#[37, 37]⟩, a⟩ :: l) := by
  have ho : oneS s a = (6, ((2 : Nat) : Int), 0, 0) := by
    rw [mark_head h rfl]
    unfold markS
    rw [if_pos (by rw [h.tail.byte]; rfl)]
    rfl
  have hcut := At.cut (s := s) (a := a) (t := ⟨#[37, 37]⟩) (u := u) h
  have := Toks.step h.lt ho (by decide) hr
  rw [if_neg (by decide), show cutS s a 2 = ⟨#[37, 37]⟩ from hcut] at this
  exact this
theorem Toks.token (h : At s a ([37, 116, 111, 107, 101, 110] ++ u)) (h2 : u.takeWhile letterB = []) (hr : Toks s (a + 6) l) : Toks s a (⟨7, ⟨#[37, 116, 111, 107, 101, 110]⟩, a⟩ :: l) := by
  have ht : At s (a + 1) ([116, 111, 107, 101, 110] ++ u) := At.tail h
  have hsp := ht.span (p := letterB) (by decide) h2
  have ho : oneS s a = (7, ((6 : Nat) : Int), 0, 0) := by
    rw [mark_head (c := 37) (u := [116, 111, 107, 101, 110] ++ u) h rfl]
    unfold markS
    rw [if_neg (by rw [At.byte (c := 116) (u := [111, 107, 101, 110] ++ u) ht]; decide)]
    simp only [hsp, ht.eq, List.take_left]
    rfl
  have hcut := At.cut (s := s) (a := a) (t := ⟨#[37, 116, 111, 107, 101, 110]⟩) (u := u) h
  have := Toks.step (At.lt (c := 37) (u := [116, 111, 107, 101, 110] ++ u) h) ho (by decide) hr
  rw [if_neg (by decide), show cutS s a 6 = ⟨#[37, 116, 111, 107, 101, 110]⟩ from hcut] at this
  exact this
theorem Toks.start (h : At s a ([37, 115, 116, 97, 114, 116] ++ u)) (h2 : u.takeWhile letterB = []) (hr : Toks s (a + 6) l) : Toks s a (⟨8, ⟨#[37, 115, 116, 97, 114, 116]⟩, a⟩ :: l) := by
  have ht : At s (a + 1) ([115, 116, 97, 114, 116] ++ u) := At.tail h
  have hsp := ht.span (p := letterB) (by decide) h2
  have ho : oneS s a = (8, ((6 : Nat) : Int), 0, 0) := by
    rw [mark_head (c := 37) (u := [115, 116, 97, 114, 116] ++ u) h rfl]
    unfold markS
    rw [if_neg (by rw [At.byte (c := 115) (u := [116, 97, 114, 116] ++ u) ht]; decide)]
    simp only [hsp, ht.eq, List.take_left]
    rw [if_neg (by decide)]
    rfl
  have hcut := At.cut (s := s) (a := a) (t := ⟨#[37, 115, 116, 97, 114, 116]⟩) (u := u) h
  have := Toks.step (At.lt (c := 37) (u := [115, 116, 97, 114, 116] ++ u) h) ho (by decide) hr
  rw [if_neg (by decide), show cutS s a 6 = ⟨#[37, 115, 116, 97, 114, 116]⟩ from hcut] at this
  exact this
end
end Go.Proofs.YtliofoikejdjeaaDoor
/- The tokens of a text, out of the list of its bytes (plain): the same, for the kernel to reckon. -/
namespace Go.Proofs.YtliofoikejdjeaaDoor
open Go.RowKit Go.Proofs.YtliofoikejdjeaaDoorW.PrintWords
set_option linter.unusedVariables false
set_option linter.unusedSimpArgs false
def spanL (p : UInt8 → Bool) (u : List UInt8) : Nat := (u.takeWhile p).length
def byteL (u : List UInt8) : Nat := match u with | [] => 0 | c :: _ => c.toNat
def quotedL (n a : Nat) (u : List UInt8) : Int × Int × Int :=
  let m := spanL insideB u.tail
  if n ≤ a + (1 + m) then (0, 4, n) else if byteL (u.drop (1 + m)) ≠ 39 ∨ m = 0 then (0, 2, a + (1 + m)) else if 23 ≤ m then (0, 5, a) else (1 + m + 1, 0, 0)
def commentL (n a : Nat) (u : List UInt8) : Int × Int × Int :=
  if byteL u.tail = 42 then
    let k := Lib.index u.tail.tail [42, 47]
    if k < 0 then (0, 4, n) else (k + 4, 0, 0)
  else (0, 2, a)
def markL (a : Nat) (u : List UInt8) : Int × Int × Int × Int :=
  if byteL u.tail = 37 then (6, 2, 0, 0) else
    let n := spanL letterB u.tail
    let t := u.tail.take n
    if t = [116, 111, 107, 101, 110] then (7, 1 + n, 0, 0) else if t = [115, 116, 97, 114, 116] then (8, 1 + n, 0, 0) else (0, 0, 2, a)
def oneL (n a : Nat) (u : List UInt8) : Int × Int × Int × Int :=
  match u with
  | [] => (0, 0, 0, 0)
  | c :: _ =>
    if whiteB c then (0, spanL whiteB u, 0, 0)
    else if c.toNat = 47 then (0, commentL n a u)
    else if c.toNat = 39 then (2, quotedL n a u)
    else if c.toNat = 37 then markL a u
    else if cls c.toNat = 4 then
      let k := spanL letterB u
      if 24 < k then (0, 0, 5, a) else (1, k, 0, 0)
    else if signS c.toNat ≠ 0 then (signS c.toNat, 1, 0, 0)
    else (0, 0, 2, a)
def toksL (n : Nat) : Nat → Nat → List UInt8 → List Tk × Int × Int
  | 0, _, _ => ([], 0, 0)
  | f + 1, a, u =>
    match u with
    | [] => ([⟨0, ⟨#[]⟩, n⟩], 0, 0)
    | c :: t =>
      let o := oneL n a (c :: t)
      if o.2.2.1 ≠ 0 then ([], o.2.2) else
      let r := toksL n f (a + o.2.1.toNat) ((c :: t).drop o.2.1.toNat)
      if r.2.1 ≠ 0 then ([], r.2) else (if o.1 = 0 then r.1 else ⟨o.1, ⟨((c :: t).take o.2.1.toNat).toArray⟩, a⟩ :: r.1, 0, 0)
def allL (u : List UInt8) : List Tk × Int × Int := if 8192 < u.length then ([], 5, 0) else toksL u.length (u.length + 1) 0 u
section
variable {s : ByteArray} {a : Nat} {u : List UInt8}
theorem At.span_L {p : UInt8 → Bool} (h : At s a u) : spanS p s a = spanL p u := by
  unfold spanS spanL
  rw [h.eq]
theorem At.byte_L (h : At s a u) : byteN s a = byteL u := by
  cases u with
  | nil =>
    have := h.len
    simp only [List.length_nil] at this
    unfold byteN byteL
    rw [dif_neg (by omega)]
  | cons c u => exact h.byte
theorem At.drop (h : At s a u) {n : Nat} (hn : n ≤ u.length) : At s (a + n) (u.drop n) := by
  have h2 : At s a (u.take n ++ u.drop n) := by rw [List.take_append_drop]; exact h
  have := h2.app
  rwa [List.length_take, Nat.min_eq_left hn] at this
theorem At.quoted {c : UInt8} (h : At s a (c :: u)) : quotedS s a = quotedL s.size a (c :: u) := by
  unfold quotedS quotedL
  rw [h.tail.span_L, List.tail_cons]
  have hl := h.tail.len
  by_cases h1 : s.size ≤ a + (1 + spanL insideB u)
  · simp only [if_pos h1]
  · simp only [if_neg h1]
    have h2 := h.drop (n := 1 + spanL insideB u) (by simp only [List.length_cons]; omega)
    rw [h2.byte_L]
theorem At.comment {c : UInt8} (h : At s a (c :: u)) : commentS s a = commentL s.size a (c :: u) := by
  unfold commentS commentL
  rw [h.tail.byte_L, List.tail_cons]
  have h3 : s.data.toList.drop (a + 2) = u.tail := by rw [← List.tail_drop, h.tail.eq]
  rw [h3]
theorem At.mark {c : UInt8} (h : At s a (c :: u)) : markS s a = markL a (c :: u) := by
  unfold markS markL
  rw [h.tail.byte_L, List.tail_cons, h.tail.span_L, h.tail.eq]
theorem At.one (h : At s a u) : oneS s a = oneL s.size a u := by
  cases u with
  | nil =>
    have := h.len
    simp only [List.length_nil] at this
    unfold oneS oneL
    rw [dif_neg (by omega)]
  | cons c u =>
    unfold oneS oneL
    rw [dif_pos h.lt]
    simp only [h.get, h.quoted, h.comment, h.mark, h.span_L]
theorem toks_L : ∀ (f : Nat) {a : Nat} {u : List UInt8}, At s a u → toksS s f a = toksL s.size f a u := by
  intro f
  induction f with
  | zero => intro a u h; rfl
  | succ f ih =>
    intro a u h
    have hl := h.len
    cases u with
    | nil =>
      simp only [List.length_nil] at hl
      rw [toksS, if_pos (by omega)]
      rfl
    | cons c u =>
      rw [toksS, if_neg (by simp only [List.length_cons] at hl; omega), toksL]
      dsimp only
      rw [h.one]
      by_cases hc : (oneL s.size a (c :: u)).2.2.1 = 0
      · simp only [hc, ne_eq, not_true_eq_false, if_false]
        have hb := one_bounds h.lt (by rw [h.one]; exact hc)
        rw [h.one] at hb
        obtain ⟨m, hm⟩ : ∃ m : Nat, (oneL s.size a (c :: u)).2.1.toNat = m := ⟨_, rfl⟩
        have hmle : m ≤ (c :: u).length := by omega
        rw [hm, ih (h.drop hmle)]
        have hcut : cutS s a m = ⟨((c :: u).take m).toArray⟩ := by
          have h2 : At s a ((⟨((c :: u).take m).toArray⟩ : ByteArray).data.toList ++ (c :: u).drop m) := by
            show At s a ((c :: u).take m ++ (c :: u).drop m)
            rw [List.take_append_drop]
            exact h
          have h3 := h2.cut
          have h4 : (⟨((c :: u).take m).toArray⟩ : ByteArray).size = m := by
            show ((c :: u).take m).toArray.size = m
            rw [List.size_toArray, List.length_take, Nat.min_eq_left hmle]
          rwa [h4] at h3
        rw [hcut]
      · rw [if_pos hc, if_pos hc]
theorem all_L (s : ByteArray) : allS s = allL s.data.toList := by
  unfold allS allL
  rw [data_length, toks_L (s.size + 1) ⟨Nat.zero_le _, by rw [List.drop_zero]⟩]
end
end Go.Proofs.YtliofoikejdjeaaDoor
/- The grammar of the shell: its text, its tokens, its form, what it is (plain, by the kernel). -/
namespace Go.Proofs.YtliofoikejdjeaaDoor
set_option maxRecDepth 100000
def posixText : ByteArray := ⟨#[37, 116, 111, 107, 101, 110, 32, 87, 79, 82, 68, 32, 65, 83, 83, 73, 71, 78, 32, 78, 65, 77, 69, 32, 78, 85, 77, 32, 78, 69, 87, 76, 73, 78, 69, 32, 39, 38, 38, 39, 32, 39, 124, 124, 39, 32, 39, 59, 59, 39, 32, 39, 59, 39, 32, 39, 38, 39, 32, 39, 124, 39, 32, 39, 40, 39, 32, 39, 41, 39, 10, 37, 116, 111, 107, 101, 110, 32, 39, 60, 39, 32, 39, 62, 39, 32, 39, 62, 62, 39, 32, 39, 60, 60, 39, 32, 39, 60, 60, 45, 39, 32, 39, 60, 38, 39, 32, 39, 62, 38, 39, 32, 39, 60, 62, 39, 32, 39, 62, 124, 39, 10, 37, 116, 111, 107, 101, 110, 32, 73, 102, 32, 84, 104, 101, 110, 32, 69, 108, 115, 101, 32, 69, 108, 105, 102, 32, 70, 105, 32, 68, 111, 32, 68, 111, 110, 101, 32, 67, 97, 115, 101, 32, 69, 115, 97, 99, 32, 87, 104, 105, 108, 101, 32, 85, 110, 116, 105, 108, 32, 70, 111, 114, 32, 76, 98, 114, 97, 99, 101, 32, 82, 98, 114, 97, 99, 101, 32, 66, 97, 110, 103, 32, 73, 110, 10, 37, 115, 116, 97, 114, 116, 32, 117, 110, 105, 116, 10, 37, 37, 10, 117, 110, 105, 116, 32, 58, 32, 99, 111, 109, 112, 108, 101, 116, 101, 32, 78, 69, 87, 76, 73, 78, 69, 32, 59, 10, 99, 111, 109, 112, 108, 101, 116, 101, 32, 58, 32, 108, 105, 115, 116, 32, 124, 32, 108, 105, 115, 116, 32, 115, 101, 112, 111, 112, 32, 59, 10, 108, 105, 115, 116, 32, 58, 32, 108, 105, 115, 116, 32, 115, 101, 112, 111, 112, 32, 97, 110, 100, 111, 114, 32, 124, 32, 97, 110, 100, 111, 114, 32, 59, 10, 97, 110, 100, 111, 114, 32, 58, 32, 112, 105, 112, 101, 108, 105, 110, 101, 32, 124, 32, 97, 110, 100, 111, 114, 32, 39, 38, 38, 39, 32, 108, 105, 110, 101, 98, 114, 101, 97, 107, 32, 112, 105, 112, 101, 108, 105, 110, 101, 32, 124, 32, 97, 110, 100, 111, 114, 32, 39, 124, 124, 39, 32, 108, 105, 110, 101, 98, 114, 101, 97, 107, 32, 112, 105, 112, 101, 108, 105, 110, 101, 32, 59, 10, 112, 105, 112, 101, 108, 105, 110, 101, 32, 58, 32, 112, 105, 112, 101, 115, 32, 124, 32, 66, 97, 110, 103, 32, 112, 105, 112, 101, 115, 32, 59, 10, 112, 105, 112, 101, 115, 32, 58, 32, 99, 111, 109, 109, 97, 110, 100, 32, 124, 32, 112, 105, 112, 101, 115, 32, 39, 124, 39, 32, 108, 105, 110, 101, 98, 114, 101, 97, 107, 32, 99, 111, 109, 109, 97, 110, 100, 32, 59, 10, 99, 111, 109, 109, 97, 110, 100, 32, 58, 32, 115, 105, 109, 112, 108, 101, 32, 124, 32, 99, 111, 109, 112, 111, 117, 110, 100, 32, 124, 32, 99, 111, 109, 112, 111, 117, 110, 100, 32, 114, 101, 100, 105, 114, 115, 32, 124, 32, 102, 117, 110, 99, 116, 105, 111, 110, 32, 59, 10, 99, 111, 109, 112, 111, 117, 110, 100, 32, 58, 32, 98, 114, 97, 99, 101, 32, 124, 32, 115, 117, 98, 115, 104, 101, 108, 108, 32, 124, 32, 102, 111, 114, 99, 32, 124, 32, 99, 97, 115, 101, 99, 32, 124, 32, 105, 102, 99, 32, 124, 32, 119, 104, 105, 108, 101, 99, 32, 124, 32, 117, 110, 116, 105, 108, 99, 32, 59, 10, 115, 117, 98, 115, 104, 101, 108, 108, 32, 58, 32, 39, 40, 39, 32, 99, 108, 105, 115, 116, 32, 39, 41, 39, 32, 59, 10, 99, 108, 105, 115, 116, 32, 58, 32, 108, 105, 110, 101, 98, 114, 101, 97, 107, 32, 116, 101, 114, 109, 32, 124, 32, 108, 105, 110, 101, 98, 114, 101, 97, 107, 32, 116, 101, 114, 109, 32, 115, 101, 112, 32, 59, 10, 116, 101, 114, 109, 32, 58, 32, 116, 101, 114, 109, 32, 115, 101, 112, 32, 97, 110, 100, 111, 114, 32, 124, 32, 97, 110, 100, 111, 114, 32, 59, 10, 102, 111, 114, 99, 32, 58, 32, 70, 111, 114, 32, 78, 65, 77, 69, 32, 100, 111, 103, 114, 111, 117, 112, 32, 124, 32, 70, 111, 114, 32, 78, 65, 77, 69, 32, 115, 101, 113, 115, 101, 112, 32, 100, 111, 103, 114, 111, 117, 112, 10, 32, 124, 32, 70, 111, 114, 32, 78, 65, 77, 69, 32, 108, 105, 110, 101, 98, 114, 101, 97, 107, 32, 73, 110, 32, 115, 101, 113, 115, 101, 112, 32, 100, 111, 103, 114, 111, 117, 112, 32, 124, 32, 70, 111, 114, 32, 78, 65, 77, 69, 32, 108, 105, 110, 101, 98, 114, 101, 97, 107, 32, 73, 110, 32, 119, 111, 114, 100, 115, 32, 115, 101, 113, 115, 101, 112, 32, 100, 111, 103, 114, 111, 117, 112, 32, 59, 10, 119, 111, 114, 100, 115, 32, 58, 32, 119, 111, 114, 100, 115, 32, 87, 79, 82, 68, 32, 124, 32, 87, 79, 82, 68, 32, 59, 10, 99, 97, 115, 101, 99, 32, 58, 32, 67, 97, 115, 101, 32, 87, 79, 82, 68, 32, 108, 105, 110, 101, 98, 114, 101, 97, 107, 32, 73, 110, 32, 108, 105, 110, 101, 98, 114, 101, 97, 107, 32, 99, 97, 115, 101, 108, 105, 115, 116, 32, 69, 115, 97, 99, 10, 32, 124, 32, 67, 97, 115, 101, 32, 87, 79, 82, 68, 32, 108, 105, 110, 101, 98, 114, 101, 97, 107, 32, 73, 110, 32, 108, 105, 110, 101, 98, 114, 101, 97, 107, 32, 99, 97, 115, 101, 108, 105, 115, 116, 110, 115, 32, 69, 115, 97, 99, 32, 124, 32, 67, 97, 115, 101, 32, 87, 79, 82, 68, 32, 108, 105, 110, 101, 98, 114, 101, 97, 107, 32, 73, 110, 32, 108, 105, 110, 101, 98, 114, 101, 97, 107, 32, 69, 115, 97, 99, 32, 59, 10, 99, 97, 115, 101, 108, 105, 115, 116, 110, 115, 32, 58, 32, 99, 97, 115, 101, 108, 105, 115, 116, 32, 99, 97, 115, 101, 105, 116, 101, 109, 110, 115, 32, 124, 32, 99, 97, 115, 101, 105, 116, 101, 109, 110, 115, 32, 59, 10, 99, 97, 115, 101, 108, 105, 115, 116, 32, 58, 32, 99, 97, 115, 101, 108, 105, 115, 116, 32, 99, 97, 115, 101, 105, 116, 101, 109, 32, 124, 32, 99, 97, 115, 101, 105, 116, 101, 109, 32, 59, 10, 99, 97, 115, 101, 105, 116, 101, 109, 110, 115, 32, 58, 32, 112, 97, 116, 116, 101, 114, 110, 32, 39, 41, 39, 32, 108, 105, 110, 101, 98, 114, 101, 97, 107, 32, 124, 32, 112, 97, 116, 116, 101, 114, 110, 32, 39, 41, 39, 32, 99, 108, 105, 115, 116, 10, 32, 124, 32, 39, 40, 39, 32, 112, 97, 116, 116, 101, 114, 110, 32, 39, 41, 39, 32, 108, 105, 110, 101, 98, 114, 101, 97, 107, 32, 124, 32, 39, 40, 39, 32, 112, 97, 116, 116, 101, 114, 110, 32, 39, 41, 39, 32, 99, 108, 105, 115, 116, 32, 59, 10, 99, 97, 115, 101, 105, 116, 101, 109, 32, 58, 32, 112, 97, 116, 116, 101, 114, 110, 32, 39, 41, 39, 32, 108, 105, 110, 101, 98, 114, 101, 97, 107, 32, 39, 59, 59, 39, 32, 108, 105, 110, 101, 98, 114, 101, 97, 107, 32, 124, 32, 112, 97, 116, 116, 101, 114, 110, 32, 39, 41, 39, 32, 99, 108, 105, 115, 116, 32, 39, 59, 59, 39, 32, 108, 105, 110, 101, 98, 114, 101, 97, 107, 10, 32, 124, 32, 39, 40, 39, 32, 112, 97, 116, 116, 101, 114, 110, 32, 39, 41, 39, 32, 108, 105, 110, 101, 98, 114, 101, 97, 107, 32, 39, 59, 59, 39, 32, 108, 105, 110, 101, 98, 114, 101, 97, 107, 32, 124, 32, 39, 40, 39, 32, 112, 97, 116, 116, 101, 114, 110, 32, 39, 41, 39, 32, 99, 108, 105, 115, 116, 32, 39, 59, 59, 39, 32, 108, 105, 110, 101, 98, 114, 101, 97, 107, 32, 59, 10, 112, 97, 116, 116, 101, 114, 110, 32, 58, 32, 87, 79, 82, 68, 32, 124, 32, 112, 97, 116, 116, 101, 114, 110, 32, 39, 124, 39, 32, 87, 79, 82, 68, 32, 59, 10, 105, 102, 99, 32, 58, 32, 73, 102, 32, 99, 108, 105, 115, 116, 32, 84, 104, 101, 110, 32, 99, 108, 105, 115, 116, 32, 101, 108, 115, 101, 112, 97, 114, 116, 32, 70, 105, 32, 124, 32, 73, 102, 32, 99, 108, 105, 115, 116, 32, 84, 104, 101, 110, 32, 99, 108, 105, 115, 116, 32, 70, 105, 32, 59, 10, 101, 108, 115, 101, 112, 97, 114, 116, 32, 58, 32, 69, 108, 105, 102, 32, 99, 108, 105, 115, 116, 32, 84, 104, 101, 110, 32, 99, 108, 105, 115, 116, 32, 124, 32, 69, 108, 105, 102, 32, 99, 108, 105, 115, 116, 32, 84, 104, 101, 110, 32, 99, 108, 105, 115, 116, 32, 101, 108, 115, 101, 112, 97, 114, 116, 32, 124, 32, 69, 108, 115, 101, 32, 99, 108, 105, 115, 116, 32, 59, 10, 119, 104, 105, 108, 101, 99, 32, 58, 32, 87, 104, 105, 108, 101, 32, 99, 108, 105, 115, 116, 32, 100, 111, 103, 114, 111, 117, 112, 32, 59, 10, 117, 110, 116, 105, 108, 99, 32, 58, 32, 85, 110, 116, 105, 108, 32, 99, 108, 105, 115, 116, 32, 100, 111, 103, 114, 111, 117, 112, 32, 59, 10, 102, 117, 110, 99, 116, 105, 111, 110, 32, 58, 32, 78, 65, 77, 69, 32, 39, 40, 39, 32, 39, 41, 39, 32, 108, 105, 110, 101, 98, 114, 101, 97, 107, 32, 102, 117, 110, 98, 111, 100, 121, 32, 59, 10, 102, 117, 110, 98, 111, 100, 121, 32, 58, 32, 99, 111, 109, 112, 111, 117, 110, 100, 32, 124, 32, 99, 111, 109, 112, 111, 117, 110, 100, 32, 114, 101, 100, 105, 114, 115, 32, 59, 10, 98, 114, 97, 99, 101, 32, 58, 32, 76, 98, 114, 97, 99, 101, 32, 99, 108, 105, 115, 116, 32, 82, 98, 114, 97, 99, 101, 32, 59, 10, 100, 111, 103, 114, 111, 117, 112, 32, 58, 32, 68, 111, 32, 99, 108, 105, 115, 116, 32, 68, 111, 110, 101, 32, 59, 10, 115, 105, 109, 112, 108, 101, 32, 58, 32, 112, 114, 101, 102, 105, 120, 32, 99, 109, 100, 119, 111, 114, 100, 32, 115, 117, 102, 102, 105, 120, 32, 124, 32, 112, 114, 101, 102, 105, 120, 32, 99, 109, 100, 119, 111, 114, 100, 32, 124, 32, 112, 114, 101, 102, 105, 120, 32, 124, 32, 99, 109, 100, 110, 97, 109, 101, 32, 115, 117, 102, 102, 105, 120, 32, 124, 32, 99, 109, 100, 110, 97, 109, 101, 32, 59, 10, 99, 109, 100, 110, 97, 109, 101, 32, 58, 32, 87, 79, 82, 68, 32, 124, 32, 78, 65, 77, 69, 32, 59, 10, 99, 109, 100, 119, 111, 114, 100, 32, 58, 32, 87, 79, 82, 68, 32, 59, 10, 112, 114, 101, 102, 105, 120, 32, 58, 32, 114, 101, 100, 105, 114, 32, 124, 32, 112, 114, 101, 102, 105, 120, 32, 114, 101, 100, 105, 114, 32, 124, 32, 65, 83, 83, 73, 71, 78, 32, 124, 32, 112, 114, 101, 102, 105, 120, 32, 65, 83, 83, 73, 71, 78, 32, 59, 10, 115, 117, 102, 102, 105, 120, 32, 58, 32, 114, 101, 100, 105, 114, 32, 124, 32, 115, 117, 102, 102, 105, 120, 32, 114, 101, 100, 105, 114, 32, 124, 32, 87, 79, 82, 68, 32, 124, 32, 115, 117, 102, 102, 105, 120, 32, 87, 79, 82, 68, 32, 59, 10, 114, 101, 100, 105, 114, 115, 32, 58, 32, 114, 101, 100, 105, 114, 32, 124, 32, 114, 101, 100, 105, 114, 115, 32, 114, 101, 100, 105, 114, 32, 59, 10, 114, 101, 100, 105, 114, 32, 58, 32, 105, 111, 102, 105, 108, 101, 32, 124, 32, 78, 85, 77, 32, 105, 111, 102, 105, 108, 101, 32, 124, 32, 105, 111, 104, 101, 114, 101, 32, 124, 32, 78, 85, 77, 32, 105, 111, 104, 101, 114, 101, 32, 59, 10, 105, 111, 102, 105, 108, 101, 32, 58, 32, 39, 60, 39, 32, 87, 79, 82, 68, 32, 124, 32, 39, 60, 38, 39, 32, 87, 79, 82, 68, 32, 124, 32, 39, 62, 39, 32, 87, 79, 82, 68, 32, 124, 32, 39, 62, 38, 39, 32, 87, 79, 82, 68, 32, 124, 32, 39, 62, 62, 39, 32, 87, 79, 82, 68, 32, 124, 32, 39, 60, 62, 39, 32, 87, 79, 82, 68, 32, 124, 32, 39, 62, 124, 39, 32, 87, 79, 82, 68, 32, 59, 10, 105, 111, 104, 101, 114, 101, 32, 58, 32, 39, 60, 60, 39, 32, 87, 79, 82, 68, 32, 124, 32, 39, 60, 60, 45, 39, 32, 87, 79, 82, 68, 32, 59, 10, 110, 101, 119, 108, 105, 110, 101, 115, 32, 58, 32, 78, 69, 87, 76, 73, 78, 69, 32, 124, 32, 110, 101, 119, 108, 105, 110, 101, 115, 32, 78, 69, 87, 76, 73, 78, 69, 32, 59, 10, 108, 105, 110, 101, 98, 114, 101, 97, 107, 32, 58, 32, 110, 101, 119, 108, 105, 110, 101, 115, 32, 124, 32, 59, 10, 115, 101, 112, 111, 112, 32, 58, 32, 39, 38, 39, 32, 124, 32, 39, 59, 39, 32, 59, 10, 115, 101, 112, 32, 58, 32, 115, 101, 112, 111, 112, 32, 108, 105, 110, 101, 98, 114, 101, 97, 107, 32, 124, 32, 110, 101, 119, 108, 105, 110, 101, 115, 32, 59, 10, 115, 101, 113, 115, 101, 112, 32, 58, 32, 39, 59, 39, 32, 108, 105, 110, 101, 98, 114, 101, 97, 107, 32, 124, 32, 110, 101, 119, 108, 105, 110, 101, 115, 32, 59, 10]⟩
def posixToks : List Tk := [⟨7, ⟨#[37, 116, 111, 107, 101, 110]⟩, 0⟩, ⟨1, ⟨#[87, 79, 82, 68]⟩, 7⟩, ⟨1, ⟨#[65, 83, 83, 73, 71, 78]⟩, 12⟩, ⟨1, ⟨#[78, 65, 77, 69]⟩, 19⟩, ⟨1, ⟨#[78, 85, 77]⟩, 24⟩, ⟨1, ⟨#[78, 69, 87, 76, 73, 78, 69]⟩, 28⟩, ⟨2, ⟨#[39, 38, 38, 39]⟩, 36⟩, ⟨2, ⟨#[39, 124, 124, 39]⟩, 41⟩, ⟨2, ⟨#[39, 59, 59, 39]⟩, 46⟩, ⟨2, ⟨#[39, 59, 39]⟩, 51⟩, ⟨2, ⟨#[39, 38, 39]⟩, 55⟩, ⟨2, ⟨#[39, 124, 39]⟩, 59⟩, ⟨2, ⟨#[39, 40, 39]⟩, 63⟩, ⟨2, ⟨#[39, 41, 39]⟩, 67⟩, ⟨7, ⟨#[37, 116, 111, 107, 101, 110]⟩, 71⟩, ⟨2, ⟨#[39, 60, 39]⟩, 78⟩, ⟨2, ⟨#[39, 62, 39]⟩, 82⟩, ⟨2, ⟨#[39, 62, 62, 39]⟩, 86⟩, ⟨2, ⟨#[39, 60, 60, 39]⟩, 91⟩, ⟨2, ⟨#[39, 60, 60, 45, 39]⟩, 96⟩, ⟨2, ⟨#[39, 60, 38, 39]⟩, 102⟩, ⟨2, ⟨#[39, 62, 38, 39]⟩, 107⟩, ⟨2, ⟨#[39, 60, 62, 39]⟩, 112⟩, ⟨2, ⟨#[39, 62, 124, 39]⟩, 117⟩, ⟨7, ⟨#[37, 116, 111, 107, 101, 110]⟩, 122⟩, ⟨1, ⟨#[73, 102]⟩, 129⟩, ⟨1, ⟨#[84, 104, 101, 110]⟩, 132⟩, ⟨1, ⟨#[69, 108, 115, 101]⟩, 137⟩, ⟨1, ⟨#[69, 108, 105, 102]⟩, 142⟩, ⟨1, ⟨#[70, 105]⟩, 147⟩, ⟨1, ⟨#[68, 111]⟩, 150⟩, ⟨1, ⟨#[68, 111, 110, 101]⟩, 153⟩, ⟨1, ⟨#[67, 97, 115, 101]⟩, 158⟩, ⟨1, ⟨#[69, 115, 97, 99]⟩, 163⟩, ⟨1, ⟨#[87, 104, 105, 108, 101]⟩, 168⟩, ⟨1, ⟨#[85, 110, 116, 105, 108]⟩, 174⟩, ⟨1, ⟨#[70, 111, 114]⟩, 180⟩, ⟨1, ⟨#[76, 98, 114, 97, 99, 101]⟩, 184⟩, ⟨1, ⟨#[82, 98, 114, 97, 99, 101]⟩, 191⟩, ⟨1, ⟨#[66, 97, 110, 103]⟩, 198⟩, ⟨1, ⟨#[73, 110]⟩, 203⟩, ⟨8, ⟨#[37, 115, 116, 97, 114, 116]⟩, 206⟩, ⟨1, ⟨#[117, 110, 105, 116]⟩, 213⟩, ⟨6, ⟨#[37, 37]⟩, 218⟩, ⟨1, ⟨#[117, 110, 105, 116]⟩, 221⟩, ⟨3, ⟨#[58]⟩, 226⟩, ⟨1, ⟨#[99, 111, 109, 112, 108, 101, 116, 101]⟩, 228⟩, ⟨1, ⟨#[78, 69, 87, 76, 73, 78, 69]⟩, 237⟩, ⟨5, ⟨#[59]⟩, 245⟩, ⟨1, ⟨#[99, 111, 109, 112, 108, 101, 116, 101]⟩, 247⟩, ⟨3, ⟨#[58]⟩, 256⟩, ⟨1, ⟨#[108, 105, 115, 116]⟩, 258⟩, ⟨4, ⟨#[124]⟩, 263⟩, ⟨1, ⟨#[108, 105, 115, 116]⟩, 265⟩, ⟨1, ⟨#[115, 101, 112, 111, 112]⟩, 270⟩, ⟨5, ⟨#[59]⟩, 276⟩, ⟨1, ⟨#[108, 105, 115, 116]⟩, 278⟩, ⟨3, ⟨#[58]⟩, 283⟩, ⟨1, ⟨#[108, 105, 115, 116]⟩, 285⟩, ⟨1, ⟨#[115, 101, 112, 111, 112]⟩, 290⟩, ⟨1, ⟨#[97, 110, 100, 111, 114]⟩, 296⟩, ⟨4, ⟨#[124]⟩, 302⟩, ⟨1, ⟨#[97, 110, 100, 111, 114]⟩, 304⟩, ⟨5, ⟨#[59]⟩, 310⟩, ⟨1, ⟨#[97, 110, 100, 111, 114]⟩, 312⟩, ⟨3, ⟨#[58]⟩, 318⟩, ⟨1, ⟨#[112, 105, 112, 101, 108, 105, 110, 101]⟩, 320⟩, ⟨4, ⟨#[124]⟩, 329⟩, ⟨1, ⟨#[97, 110, 100, 111, 114]⟩, 331⟩, ⟨2, ⟨#[39, 38, 38, 39]⟩, 337⟩, ⟨1, ⟨#[108, 105, 110, 101, 98, 114, 101, 97, 107]⟩, 342⟩, ⟨1, ⟨#[112, 105, 112, 101, 108, 105, 110, 101]⟩, 352⟩, ⟨4, ⟨#[124]⟩, 361⟩, ⟨1, ⟨#[97, 110, 100, 111, 114]⟩, 363⟩, ⟨2, ⟨#[39, 124, 124, 39]⟩, 369⟩, ⟨1, ⟨#[108, 105, 110, 101, 98, 114, 101, 97, 107]⟩, 374⟩, ⟨1, ⟨#[112, 105, 112, 101, 108, 105, 110, 101]⟩, 384⟩, ⟨5, ⟨#[59]⟩, 393⟩, ⟨1, ⟨#[112, 105, 112, 101, 108, 105, 110, 101]⟩, 395⟩, ⟨3, ⟨#[58]⟩, 404⟩, ⟨1, ⟨#[112, 105, 112, 101, 115]⟩, 406⟩, ⟨4, ⟨#[124]⟩, 412⟩, ⟨1, ⟨#[66, 97, 110, 103]⟩, 414⟩, ⟨1, ⟨#[112, 105, 112, 101, 115]⟩, 419⟩, ⟨5, ⟨#[59]⟩, 425⟩, ⟨1, ⟨#[112, 105, 112, 101, 115]⟩, 427⟩, ⟨3, ⟨#[58]⟩, 433⟩, ⟨1, ⟨#[99, 111, 109, 109, 97, 110, 100]⟩, 435⟩, ⟨4, ⟨#[124]⟩, 443⟩, ⟨1, ⟨#[112, 105, 112, 101, 115]⟩, 445⟩, ⟨2, ⟨#[39, 124, 39]⟩, 451⟩, ⟨1, ⟨#[108, 105, 110, 101, 98, 114, 101, 97, 107]⟩, 455⟩, ⟨1, ⟨#[99, 111, 109, 109, 97, 110, 100]⟩, 465⟩, ⟨5, ⟨#[59]⟩, 473⟩, ⟨1, ⟨#[99, 111, 109, 109, 97, 110, 100]⟩, 475⟩, ⟨3, ⟨#[58]⟩, 483⟩, ⟨1, ⟨#[115, 105, 109, 112, 108, 101]⟩, 485⟩, ⟨4, ⟨#[124]⟩, 492⟩, ⟨1, ⟨#[99, 111, 109, 112, 111, 117, 110, 100]⟩, 494⟩, ⟨4, ⟨#[124]⟩, 503⟩, ⟨1, ⟨#[99, 111, 109, 112, 111, 117, 110, 100]⟩, 505⟩, ⟨1, ⟨#[114, 101, 100, 105, 114, 115]⟩, 514⟩, ⟨4, ⟨#[124]⟩, 521⟩, ⟨1, ⟨#[102, 117, 110, 99, 116, 105, 111, 110]⟩, 523⟩, ⟨5, ⟨#[59]⟩, 532⟩, ⟨1, ⟨#[99, 111, 109, 112, 111, 117, 110, 100]⟩, 534⟩, ⟨3, ⟨#[58]⟩, 543⟩, ⟨1, ⟨#[98, 114, 97, 99, 101]⟩, 545⟩, ⟨4, ⟨#[124]⟩, 551⟩, ⟨1, ⟨#[115, 117, 98, 115, 104, 101, 108, 108]⟩, 553⟩, ⟨4, ⟨#[124]⟩, 562⟩, ⟨1, ⟨#[102, 111, 114, 99]⟩, 564⟩, ⟨4, ⟨#[124]⟩, 569⟩, ⟨1, ⟨#[99, 97, 115, 101, 99]⟩, 571⟩, ⟨4, ⟨#[124]⟩, 577⟩, ⟨1, ⟨#[105, 102, 99]⟩, 579⟩, ⟨4, ⟨#[124]⟩, 583⟩, ⟨1, ⟨#[119, 104, 105, 108, 101, 99]⟩, 585⟩, ⟨4, ⟨#[124]⟩, 592⟩, ⟨1, ⟨#[117, 110, 116, 105, 108, 99]⟩, 594⟩, ⟨5, ⟨#[59]⟩, 601⟩, ⟨1, ⟨#[115, 117, 98, 115, 104, 101, 108, 108]⟩, 603⟩, ⟨3, ⟨#[58]⟩, 612⟩, ⟨2, ⟨#[39, 40, 39]⟩, 614⟩, ⟨1, ⟨#[99, 108, 105, 115, 116]⟩, 618⟩, ⟨2, ⟨#[39, 41, 39]⟩, 624⟩, ⟨5, ⟨#[59]⟩, 628⟩, ⟨1, ⟨#[99, 108, 105, 115, 116]⟩, 630⟩, ⟨3, ⟨#[58]⟩, 636⟩, ⟨1, ⟨#[108, 105, 110, 101, 98, 114, 101, 97, 107]⟩, 638⟩, ⟨1, ⟨#[116, 101, 114, 109]⟩, 648⟩, ⟨4, ⟨#[124]⟩, 653⟩, ⟨1, ⟨#[108, 105, 110, 101, 98, 114, 101, 97, 107]⟩, 655⟩, ⟨1, ⟨#[116, 101, 114, 109]⟩, 665⟩, ⟨1, ⟨#[115, 101, 112]⟩, 670⟩, ⟨5, ⟨#[59]⟩, 674⟩, ⟨1, ⟨#[116, 101, 114, 109]⟩, 676⟩, ⟨3, ⟨#[58]⟩, 681⟩, ⟨1, ⟨#[116, 101, 114, 109]⟩, 683⟩, ⟨1, ⟨#[115, 101, 112]⟩, 688⟩, ⟨1, ⟨#[97, 110, 100, 111, 114]⟩, 692⟩, ⟨4, ⟨#[124]⟩, 698⟩, ⟨1, ⟨#[97, 110, 100, 111, 114]⟩, 700⟩, ⟨5, ⟨#[59]⟩, 706⟩, ⟨1, ⟨#[102, 111, 114, 99]⟩, 708⟩, ⟨3, ⟨#[58]⟩, 713⟩, ⟨1, ⟨#[70, 111, 114]⟩, 715⟩, ⟨1, ⟨#[78, 65, 77, 69]⟩, 719⟩, ⟨1, ⟨#[100, 111, 103, 114, 111, 117, 112]⟩, 724⟩, ⟨4, ⟨#[124]⟩, 732⟩, ⟨1, ⟨#[70, 111, 114]⟩, 734⟩, ⟨1, ⟨#[78, 65, 77, 69]⟩, 738⟩, ⟨1, ⟨#[115, 101, 113, 115, 101, 112]⟩, 743⟩, ⟨1, ⟨#[100, 111, 103, 114, 111, 117, 112]⟩, 750⟩, ⟨4, ⟨#[124]⟩, 759⟩, ⟨1, ⟨#[70, 111, 114]⟩, 761⟩, ⟨1, ⟨#[78, 65, 77, 69]⟩, 765⟩, ⟨1, ⟨#[108, 105, 110, 101, 98, 114, 101, 97, 107]⟩, 770⟩, ⟨1, ⟨#[73, 110]⟩, 780⟩, ⟨1, ⟨#[115, 101, 113, 115, 101, 112]⟩, 783⟩, ⟨1, ⟨#[100, 111, 103, 114, 111, 117, 112]⟩, 790⟩, ⟨4, ⟨#[124]⟩, 798⟩, ⟨1, ⟨#[70, 111, 114]⟩, 800⟩, ⟨1, ⟨#[78, 65, 77, 69]⟩, 804⟩, ⟨1, ⟨#[108, 105, 110, 101, 98, 114, 101, 97, 107]⟩, 809⟩, ⟨1, ⟨#[73, 110]⟩, 819⟩, ⟨1, ⟨#[119, 111, 114, 100, 115]⟩, 822⟩, ⟨1, ⟨#[115, 101, 113, 115, 101, 112]⟩, 828⟩, ⟨1, ⟨#[100, 111, 103, 114, 111, 117, 112]⟩, 835⟩, ⟨5, ⟨#[59]⟩, 843⟩, ⟨1, ⟨#[119, 111, 114, 100, 115]⟩, 845⟩, ⟨3, ⟨#[58]⟩, 851⟩, ⟨1, ⟨#[119, 111, 114, 100, 115]⟩, 853⟩, ⟨1, ⟨#[87, 79, 82, 68]⟩, 859⟩, ⟨4, ⟨#[124]⟩, 864⟩, ⟨1, ⟨#[87, 79, 82, 68]⟩, 866⟩, ⟨5, ⟨#[59]⟩, 871⟩, ⟨1, ⟨#[99, 97, 115, 101, 99]⟩, 873⟩, ⟨3, ⟨#[58]⟩, 879⟩, ⟨1, ⟨#[67, 97, 115, 101]⟩, 881⟩, ⟨1, ⟨#[87, 79, 82, 68]⟩, 886⟩, ⟨1, ⟨#[108, 105, 110, 101, 98, 114, 101, 97, 107]⟩, 891⟩, ⟨1, ⟨#[73, 110]⟩, 901⟩, ⟨1, ⟨#[108, 105, 110, 101, 98, 114, 101, 97, 107]⟩, 904⟩, ⟨1, ⟨#[99, 97, 115, 101, 108, 105, 115, 116]⟩, 914⟩, ⟨1, ⟨#[69, 115, 97, 99]⟩, 923⟩, ⟨4, ⟨#[124]⟩, 929⟩, ⟨1, ⟨#[67, 97, 115, 101]⟩, 931⟩, ⟨1, ⟨#[87, 79, 82, 68]⟩, 936⟩, ⟨1, ⟨#[108, 105, 110, 101, 98, 114, 101, 97, 107]⟩, 941⟩, ⟨1, ⟨#[73, 110]⟩, 951⟩, ⟨1, ⟨#[108, 105, 110, 101, 98, 114, 101, 97, 107]⟩, 954⟩, ⟨1, ⟨#[99, 97, 115, 101, 108, 105, 115, 116, 110, 115]⟩, 964⟩, ⟨1, ⟨#[69, 115, 97, 99]⟩, 975⟩, ⟨4, ⟨#[124]⟩, 980⟩, ⟨1, ⟨#[67, 97, 115, 101]⟩, 982⟩, ⟨1, ⟨#[87, 79, 82, 68]⟩, 987⟩, ⟨1, ⟨#[108, 105, 110, 101, 98, 114, 101, 97, 107]⟩, 992⟩, ⟨1, ⟨#[73, 110]⟩, 1002⟩, ⟨1, ⟨#[108, 105, 110, 101, 98, 114, 101, 97, 107]⟩, 1005⟩, ⟨1, ⟨#[69, 115, 97, 99]⟩, 1015⟩, ⟨5, ⟨#[59]⟩, 1020⟩, ⟨1, ⟨#[99, 97, 115, 101, 108, 105, 115, 116, 110, 115]⟩, 1022⟩, ⟨3, ⟨#[58]⟩, 1033⟩, ⟨1, ⟨#[99, 97, 115, 101, 108, 105, 115, 116]⟩, 1035⟩, ⟨1, ⟨#[99, 97, 115, 101, 105, 116, 101, 109, 110, 115]⟩, 1044⟩, ⟨4, ⟨#[124]⟩, 1055⟩, ⟨1, ⟨#[99, 97, 115, 101, 105, 116, 101, 109, 110, 115]⟩, 1057⟩, ⟨5, ⟨#[59]⟩, 1068⟩, ⟨1, ⟨#[99, 97, 115, 101, 108, 105, 115, 116]⟩, 1070⟩, ⟨3, ⟨#[58]⟩, 1079⟩, ⟨1, ⟨#[99, 97, 115, 101, 108, 105, 115, 116]⟩, 1081⟩, ⟨1, ⟨#[99, 97, 115, 101, 105, 116, 101, 109]⟩, 1090⟩, ⟨4, ⟨#[124]⟩, 1099⟩, ⟨1, ⟨#[99, 97, 115, 101, 105, 116, 101, 109]⟩, 1101⟩, ⟨5, ⟨#[59]⟩, 1110⟩, ⟨1, ⟨#[99, 97, 115, 101, 105, 116, 101, 109, 110, 115]⟩, 1112⟩, ⟨3, ⟨#[58]⟩, 1123⟩, ⟨1, ⟨#[112, 97, 116, 116, 101, 114, 110]⟩, 1125⟩, ⟨2, ⟨#[39, 41, 39]⟩, 1133⟩, ⟨1, ⟨#[108, 105, 110, 101, 98, 114, 101, 97, 107]⟩, 1137⟩, ⟨4, ⟨#[124]⟩, 1147⟩, ⟨1, ⟨#[112, 97, 116, 116, 101, 114, 110]⟩, 1149⟩, ⟨2, ⟨#[39, 41, 39]⟩, 1157⟩, ⟨1, ⟨#[99, 108, 105, 115, 116]⟩, 1161⟩, ⟨4, ⟨#[124]⟩, 1168⟩, ⟨2, ⟨#[39, 40, 39]⟩, 1170⟩, ⟨1, ⟨#[112, 97, 116, 116, 101, 114, 110]⟩, 1174⟩, ⟨2, ⟨#[39, 41, 39]⟩, 1182⟩, ⟨1, ⟨#[108, 105, 110, 101, 98, 114, 101, 97, 107]⟩, 1186⟩, ⟨4, ⟨#[124]⟩, 1196⟩, ⟨2, ⟨#[39, 40, 39]⟩, 1198⟩, ⟨1, ⟨#[112, 97, 116, 116, 101, 114, 110]⟩, 1202⟩, ⟨2, ⟨#[39, 41, 39]⟩, 1210⟩, ⟨1, ⟨#[99, 108, 105, 115, 116]⟩, 1214⟩, ⟨5, ⟨#[59]⟩, 1220⟩, ⟨1, ⟨#[99, 97, 115, 101, 105, 116, 101, 109]⟩, 1222⟩, ⟨3, ⟨#[58]⟩, 1231⟩, ⟨1, ⟨#[112, 97, 116, 116, 101, 114, 110]⟩, 1233⟩, ⟨2, ⟨#[39, 41, 39]⟩, 1241⟩, ⟨1, ⟨#[108, 105, 110, 101, 98, 114, 101, 97, 107]⟩, 1245⟩, ⟨2, ⟨#[39, 59, 59, 39]⟩, 1255⟩, ⟨1, ⟨#[108, 105, 110, 101, 98, 114, 101, 97, 107]⟩, 1260⟩, ⟨4, ⟨#[124]⟩, 1270⟩, ⟨1, ⟨#[112, 97, 116, 116, 101, 114, 110]⟩, 1272⟩, ⟨2, ⟨#[39, 41, 39]⟩, 1280⟩, ⟨1, ⟨#[99, 108, 105, 115, 116]⟩, 1284⟩, ⟨2, ⟨#[39, 59, 59, 39]⟩, 1290⟩, ⟨1, ⟨#[108, 105, 110, 101, 98, 114, 101, 97, 107]⟩, 1295⟩, ⟨4, ⟨#[124]⟩, 1306⟩, ⟨2, ⟨#[39, 40, 39]⟩, 1308⟩, ⟨1, ⟨#[112, 97, 116, 116, 101, 114, 110]⟩, 1312⟩, ⟨2, ⟨#[39, 41, 39]⟩, 1320⟩, ⟨1, ⟨#[108, 105, 110, 101, 98, 114, 101, 97, 107]⟩, 1324⟩, ⟨2, ⟨#[39, 59, 59, 39]⟩, 1334⟩, ⟨1, ⟨#[108, 105, 110, 101, 98, 114, 101, 97, 107]⟩, 1339⟩, ⟨4, ⟨#[124]⟩, 1349⟩, ⟨2, ⟨#[39, 40, 39]⟩, 1351⟩, ⟨1, ⟨#[112, 97, 116, 116, 101, 114, 110]⟩, 1355⟩, ⟨2, ⟨#[39, 41, 39]⟩, 1363⟩, ⟨1, ⟨#[99, 108, 105, 115, 116]⟩, 1367⟩, ⟨2, ⟨#[39, 59, 59, 39]⟩, 1373⟩, ⟨1, ⟨#[108, 105, 110, 101, 98, 114, 101, 97, 107]⟩, 1378⟩, ⟨5, ⟨#[59]⟩, 1388⟩, ⟨1, ⟨#[112, 97, 116, 116, 101, 114, 110]⟩, 1390⟩, ⟨3, ⟨#[58]⟩, 1398⟩, ⟨1, ⟨#[87, 79, 82, 68]⟩, 1400⟩, ⟨4, ⟨#[124]⟩, 1405⟩, ⟨1, ⟨#[112, 97, 116, 116, 101, 114, 110]⟩, 1407⟩, ⟨2, ⟨#[39, 124, 39]⟩, 1415⟩, ⟨1, ⟨#[87, 79, 82, 68]⟩, 1419⟩, ⟨5, ⟨#[59]⟩, 1424⟩, ⟨1, ⟨#[105, 102, 99]⟩, 1426⟩, ⟨3, ⟨#[58]⟩, 1430⟩, ⟨1, ⟨#[73, 102]⟩, 1432⟩, ⟨1, ⟨#[99, 108, 105, 115, 116]⟩, 1435⟩, ⟨1, ⟨#[84, 104, 101, 110]⟩, 1441⟩, ⟨1, ⟨#[99, 108, 105, 115, 116]⟩, 1446⟩, ⟨1, ⟨#[101, 108, 115, 101, 112, 97, 114, 116]⟩, 1452⟩, ⟨1, ⟨#[70, 105]⟩, 1461⟩, ⟨4, ⟨#[124]⟩, 1464⟩, ⟨1, ⟨#[73, 102]⟩, 1466⟩, ⟨1, ⟨#[99, 108, 105, 115, 116]⟩, 1469⟩, ⟨1, ⟨#[84, 104, 101, 110]⟩, 1475⟩, ⟨1, ⟨#[99, 108, 105, 115, 116]⟩, 1480⟩, ⟨1, ⟨#[70, 105]⟩, 1486⟩, ⟨5, ⟨#[59]⟩, 1489⟩, ⟨1, ⟨#[101, 108, 115, 101, 112, 97, 114, 116]⟩, 1491⟩, ⟨3, ⟨#[58]⟩, 1500⟩, ⟨1, ⟨#[69, 108, 105, 102]⟩, 1502⟩, ⟨1, ⟨#[99, 108, 105, 115, 116]⟩, 1507⟩, ⟨1, ⟨#[84, 104, 101, 110]⟩, 1513⟩, ⟨1, ⟨#[99, 108, 105, 115, 116]⟩, 1518⟩, ⟨4, ⟨#[124]⟩, 1524⟩, ⟨1, ⟨#[69, 108, 105, 102]⟩, 1526⟩, ⟨1, ⟨#[99, 108, 105, 115, 116]⟩, 1531⟩, ⟨1, ⟨#[84, 104, 101, 110]⟩, 1537⟩, ⟨1, ⟨#[99, 108, 105, 115, 116]⟩, 1542⟩, ⟨1, ⟨#[101, 108, 115, 101, 112, 97, 114, 116]⟩, 1548⟩, ⟨4, ⟨#[124]⟩, 1557⟩, ⟨1, ⟨#[69, 108, 115, 101]⟩, 1559⟩, ⟨1, ⟨#[99, 108, 105, 115, 116]⟩, 1564⟩, ⟨5, ⟨#[59]⟩, 1570⟩, ⟨1, ⟨#[119, 104, 105, 108, 101, 99]⟩, 1572⟩, ⟨3, ⟨#[58]⟩, 1579⟩, ⟨1, ⟨#[87, 104, 105, 108, 101]⟩, 1581⟩, ⟨1, ⟨#[99, 108, 105, 115, 116]⟩, 1587⟩, ⟨1, ⟨#[100, 111, 103, 114, 111, 117, 112]⟩, 1593⟩, ⟨5, ⟨#[59]⟩, 1601⟩, ⟨1, ⟨#[117, 110, 116, 105, 108, 99]⟩, 1603⟩, ⟨3, ⟨#[58]⟩, 1610⟩, ⟨1, ⟨#[85, 110, 116, 105, 108]⟩, 1612⟩, ⟨1, ⟨#[99, 108, 105, 115, 116]⟩, 1618⟩, ⟨1, ⟨#[100, 111, 103, 114, 111, 117, 112]⟩, 1624⟩, ⟨5, ⟨#[59]⟩, 1632⟩, ⟨1, ⟨#[102, 117, 110, 99, 116, 105, 111, 110]⟩, 1634⟩, ⟨3, ⟨#[58]⟩, 1643⟩, ⟨1, ⟨#[78, 65, 77, 69]⟩, 1645⟩, ⟨2, ⟨#[39, 40, 39]⟩, 1650⟩, ⟨2, ⟨#[39, 41, 39]⟩, 1654⟩, ⟨1, ⟨#[108, 105, 110, 101, 98, 114, 101, 97, 107]⟩, 1658⟩, ⟨1, ⟨#[102, 117, 110, 98, 111, 100, 121]⟩, 1668⟩, ⟨5, ⟨#[59]⟩, 1676⟩, ⟨1, ⟨#[102, 117, 110, 98, 111, 100, 121]⟩, 1678⟩, ⟨3, ⟨#[58]⟩, 1686⟩, ⟨1, ⟨#[99, 111, 109, 112, 111, 117, 110, 100]⟩, 1688⟩, ⟨4, ⟨#[124]⟩, 1697⟩, ⟨1, ⟨#[99, 111, 109, 112, 111, 117, 110, 100]⟩, 1699⟩, ⟨1, ⟨#[114, 101, 100, 105, 114, 115]⟩, 1708⟩, ⟨5, ⟨#[59]⟩, 1715⟩, ⟨1, ⟨#[98, 114, 97, 99, 101]⟩, 1717⟩, ⟨3, ⟨#[58]⟩, 1723⟩, ⟨1, ⟨#[76, 98, 114, 97, 99, 101]⟩, 1725⟩, ⟨1, ⟨#[99, 108, 105, 115, 116]⟩, 1732⟩, ⟨1, ⟨#[82, 98, 114, 97, 99, 101]⟩, 1738⟩, ⟨5, ⟨#[59]⟩, 1745⟩, ⟨1, ⟨#[100, 111, 103, 114, 111, 117, 112]⟩, 1747⟩, ⟨3, ⟨#[58]⟩, 1755⟩, ⟨1, ⟨#[68, 111]⟩, 1757⟩, ⟨1, ⟨#[99, 108, 105, 115, 116]⟩, 1760⟩, ⟨1, ⟨#[68, 111, 110, 101]⟩, 1766⟩, ⟨5, ⟨#[59]⟩, 1771⟩, ⟨1, ⟨#[115, 105, 109, 112, 108, 101]⟩, 1773⟩, ⟨3, ⟨#[58]⟩, 1780⟩, ⟨1, ⟨#[112, 114, 101, 102, 105, 120]⟩, 1782⟩, ⟨1, ⟨#[99, 109, 100, 119, 111, 114, 100]⟩, 1789⟩, ⟨1, ⟨#[115, 117, 102, 102, 105, 120]⟩, 1797⟩, ⟨4, ⟨#[124]⟩, 1804⟩, ⟨1, ⟨#[112, 114, 101, 102, 105, 120]⟩, 1806⟩, ⟨1, ⟨#[99, 109, 100, 119, 111, 114, 100]⟩, 1813⟩, ⟨4, ⟨#[124]⟩, 1821⟩, ⟨1, ⟨#[112, 114, 101, 102, 105, 120]⟩, 1823⟩, ⟨4, ⟨#[124]⟩, 1830⟩, ⟨1, ⟨#[99, 109, 100, 110, 97, 109, 101]⟩, 1832⟩, ⟨1, ⟨#[115, 117, 102, 102, 105, 120]⟩, 1840⟩, ⟨4, ⟨#[124]⟩, 1847⟩, ⟨1, ⟨#[99, 109, 100, 110, 97, 109, 101]⟩, 1849⟩, ⟨5, ⟨#[59]⟩, 1857⟩, ⟨1, ⟨#[99, 109, 100, 110, 97, 109, 101]⟩, 1859⟩, ⟨3, ⟨#[58]⟩, 1867⟩, ⟨1, ⟨#[87, 79, 82, 68]⟩, 1869⟩, ⟨4, ⟨#[124]⟩, 1874⟩, ⟨1, ⟨#[78, 65, 77, 69]⟩, 1876⟩, ⟨5, ⟨#[59]⟩, 1881⟩, ⟨1, ⟨#[99, 109, 100, 119, 111, 114, 100]⟩, 1883⟩, ⟨3, ⟨#[58]⟩, 1891⟩, ⟨1, ⟨#[87, 79, 82, 68]⟩, 1893⟩, ⟨5, ⟨#[59]⟩, 1898⟩, ⟨1, ⟨#[112, 114, 101, 102, 105, 120]⟩, 1900⟩, ⟨3, ⟨#[58]⟩, 1907⟩, ⟨1, ⟨#[114, 101, 100, 105, 114]⟩, 1909⟩, ⟨4, ⟨#[124]⟩, 1915⟩, ⟨1, ⟨#[112, 114, 101, 102, 105, 120]⟩, 1917⟩, ⟨1, ⟨#[114, 101, 100, 105, 114]⟩, 1924⟩, ⟨4, ⟨#[124]⟩, 1930⟩, ⟨1, ⟨#[65, 83, 83, 73, 71, 78]⟩, 1932⟩, ⟨4, ⟨#[124]⟩, 1939⟩, ⟨1, ⟨#[112, 114, 101, 102, 105, 120]⟩, 1941⟩, ⟨1, ⟨#[65, 83, 83, 73, 71, 78]⟩, 1948⟩, ⟨5, ⟨#[59]⟩, 1955⟩, ⟨1, ⟨#[115, 117, 102, 102, 105, 120]⟩, 1957⟩, ⟨3, ⟨#[58]⟩, 1964⟩, ⟨1, ⟨#[114, 101, 100, 105, 114]⟩, 1966⟩, ⟨4, ⟨#[124]⟩, 1972⟩, ⟨1, ⟨#[115, 117, 102, 102, 105, 120]⟩, 1974⟩, ⟨1, ⟨#[114, 101, 100, 105, 114]⟩, 1981⟩, ⟨4, ⟨#[124]⟩, 1987⟩, ⟨1, ⟨#[87, 79, 82, 68]⟩, 1989⟩, ⟨4, ⟨#[124]⟩, 1994⟩, ⟨1, ⟨#[115, 117, 102, 102, 105, 120]⟩, 1996⟩, ⟨1, ⟨#[87, 79, 82, 68]⟩, 2003⟩, ⟨5, ⟨#[59]⟩, 2008⟩, ⟨1, ⟨#[114, 101, 100, 105, 114, 115]⟩, 2010⟩, ⟨3, ⟨#[58]⟩, 2017⟩, ⟨1, ⟨#[114, 101, 100, 105, 114]⟩, 2019⟩, ⟨4, ⟨#[124]⟩, 2025⟩, ⟨1, ⟨#[114, 101, 100, 105, 114, 115]⟩, 2027⟩, ⟨1, ⟨#[114, 101, 100, 105, 114]⟩, 2034⟩, ⟨5, ⟨#[59]⟩, 2040⟩, ⟨1, ⟨#[114, 101, 100, 105, 114]⟩, 2042⟩, ⟨3, ⟨#[58]⟩, 2048⟩, ⟨1, ⟨#[105, 111, 102, 105, 108, 101]⟩, 2050⟩, ⟨4, ⟨#[124]⟩, 2057⟩, ⟨1, ⟨#[78, 85, 77]⟩, 2059⟩, ⟨1, ⟨#[105, 111, 102, 105, 108, 101]⟩, 2063⟩, ⟨4, ⟨#[124]⟩, 2070⟩, ⟨1, ⟨#[105, 111, 104, 101, 114, 101]⟩, 2072⟩, ⟨4, ⟨#[124]⟩, 2079⟩, ⟨1, ⟨#[78, 85, 77]⟩, 2081⟩, ⟨1, ⟨#[105, 111, 104, 101, 114, 101]⟩, 2085⟩, ⟨5, ⟨#[59]⟩, 2092⟩, ⟨1, ⟨#[105, 111, 102, 105, 108, 101]⟩, 2094⟩, ⟨3, ⟨#[58]⟩, 2101⟩, ⟨2, ⟨#[39, 60, 39]⟩, 2103⟩, ⟨1, ⟨#[87, 79, 82, 68]⟩, 2107⟩, ⟨4, ⟨#[124]⟩, 2112⟩, ⟨2, ⟨#[39, 60, 38, 39]⟩, 2114⟩, ⟨1, ⟨#[87, 79, 82, 68]⟩, 2119⟩, ⟨4, ⟨#[124]⟩, 2124⟩, ⟨2, ⟨#[39, 62, 39]⟩, 2126⟩, ⟨1, ⟨#[87, 79, 82, 68]⟩, 2130⟩, ⟨4, ⟨#[124]⟩, 2135⟩, ⟨2, ⟨#[39, 62, 38, 39]⟩, 2137⟩, ⟨1, ⟨#[87, 79, 82, 68]⟩, 2142⟩, ⟨4, ⟨#[124]⟩, 2147⟩, ⟨2, ⟨#[39, 62, 62, 39]⟩, 2149⟩, ⟨1, ⟨#[87, 79, 82, 68]⟩, 2154⟩, ⟨4, ⟨#[124]⟩, 2159⟩, ⟨2, ⟨#[39, 60, 62, 39]⟩, 2161⟩, ⟨1, ⟨#[87, 79, 82, 68]⟩, 2166⟩, ⟨4, ⟨#[124]⟩, 2171⟩, ⟨2, ⟨#[39, 62, 124, 39]⟩, 2173⟩, ⟨1, ⟨#[87, 79, 82, 68]⟩, 2178⟩, ⟨5, ⟨#[59]⟩, 2183⟩, ⟨1, ⟨#[105, 111, 104, 101, 114, 101]⟩, 2185⟩, ⟨3, ⟨#[58]⟩, 2192⟩, ⟨2, ⟨#[39, 60, 60, 39]⟩, 2194⟩, ⟨1, ⟨#[87, 79, 82, 68]⟩, 2199⟩, ⟨4, ⟨#[124]⟩, 2204⟩, ⟨2, ⟨#[39, 60, 60, 45, 39]⟩, 2206⟩, ⟨1, ⟨#[87, 79, 82, 68]⟩, 2212⟩, ⟨5, ⟨#[59]⟩, 2217⟩, ⟨1, ⟨#[110, 101, 119, 108, 105, 110, 101, 115]⟩, 2219⟩, ⟨3, ⟨#[58]⟩, 2228⟩, ⟨1, ⟨#[78, 69, 87, 76, 73, 78, 69]⟩, 2230⟩, ⟨4, ⟨#[124]⟩, 2238⟩, ⟨1, ⟨#[110, 101, 119, 108, 105, 110, 101, 115]⟩, 2240⟩, ⟨1, ⟨#[78, 69, 87, 76, 73, 78, 69]⟩, 2249⟩, ⟨5, ⟨#[59]⟩, 2257⟩, ⟨1, ⟨#[108, 105, 110, 101, 98, 114, 101, 97, 107]⟩, 2259⟩, ⟨3, ⟨#[58]⟩, 2269⟩, ⟨1, ⟨#[110, 101, 119, 108, 105, 110, 101, 115]⟩, 2271⟩, ⟨4, ⟨#[124]⟩, 2280⟩, ⟨5, ⟨#[59]⟩, 2282⟩, ⟨1, ⟨#[115, 101, 112, 111, 112]⟩, 2284⟩, ⟨3, ⟨#[58]⟩, 2290⟩, ⟨2, ⟨#[39, 38, 39]⟩, 2292⟩, ⟨4, ⟨#[124]⟩, 2296⟩, ⟨2, ⟨#[39, 59, 39]⟩, 2298⟩, ⟨5, ⟨#[59]⟩, 2302⟩, ⟨1, ⟨#[115, 101, 112]⟩, 2304⟩, ⟨3, ⟨#[58]⟩, 2308⟩, ⟨1, ⟨#[115, 101, 112, 111, 112]⟩, 2310⟩, ⟨1, ⟨#[108, 105, 110, 101, 98, 114, 101, 97, 107]⟩, 2316⟩, ⟨4, ⟨#[124]⟩, 2326⟩, ⟨1, ⟨#[110, 101, 119, 108, 105, 110, 101, 115]⟩, 2328⟩, ⟨5, ⟨#[59]⟩, 2337⟩, ⟨1, ⟨#[115, 101, 113, 115, 101, 112]⟩, 2339⟩, ⟨3, ⟨#[58]⟩, 2346⟩, ⟨2, ⟨#[39, 59, 39]⟩, 2348⟩, ⟨1, ⟨#[108, 105, 110, 101, 98, 114, 101, 97, 107]⟩, 2352⟩, ⟨4, ⟨#[124]⟩, 2362⟩, ⟨1, ⟨#[110, 101, 119, 108, 105, 110, 101, 115]⟩, 2364⟩, ⟨5, ⟨#[59]⟩, 2373⟩, ⟨0, ⟨#[]⟩, 2375⟩]
def posixHd : Hd := ⟨[⟨1, ⟨#[87, 79, 82, 68]⟩, 7⟩, ⟨1, ⟨#[65, 83, 83, 73, 71, 78]⟩, 12⟩, ⟨1, ⟨#[78, 65, 77, 69]⟩, 19⟩, ⟨1, ⟨#[78, 85, 77]⟩, 24⟩, ⟨1, ⟨#[78, 69, 87, 76, 73, 78, 69]⟩, 28⟩, ⟨2, ⟨#[39, 38, 38, 39]⟩, 36⟩, ⟨2, ⟨#[39, 124, 124, 39]⟩, 41⟩, ⟨2, ⟨#[39, 59, 59, 39]⟩, 46⟩, ⟨2, ⟨#[39, 59, 39]⟩, 51⟩, ⟨2, ⟨#[39, 38, 39]⟩, 55⟩, ⟨2, ⟨#[39, 124, 39]⟩, 59⟩, ⟨2, ⟨#[39, 40, 39]⟩, 63⟩, ⟨2, ⟨#[39, 41, 39]⟩, 67⟩, ⟨2, ⟨#[39, 60, 39]⟩, 78⟩, ⟨2, ⟨#[39, 62, 39]⟩, 82⟩, ⟨2, ⟨#[39, 62, 62, 39]⟩, 86⟩, ⟨2, ⟨#[39, 60, 60, 39]⟩, 91⟩, ⟨2, ⟨#[39, 60, 60, 45, 39]⟩, 96⟩, ⟨2, ⟨#[39, 60, 38, 39]⟩, 102⟩, ⟨2, ⟨#[39, 62, 38, 39]⟩, 107⟩, ⟨2, ⟨#[39, 60, 62, 39]⟩, 112⟩, ⟨2, ⟨#[39, 62, 124, 39]⟩, 117⟩, ⟨1, ⟨#[73, 102]⟩, 129⟩, ⟨1, ⟨#[84, 104, 101, 110]⟩, 132⟩, ⟨1, ⟨#[69, 108, 115, 101]⟩, 137⟩, ⟨1, ⟨#[69, 108, 105, 102]⟩, 142⟩, ⟨1, ⟨#[70, 105]⟩, 147⟩, ⟨1, ⟨#[68, 111]⟩, 150⟩, ⟨1, ⟨#[68, 111, 110, 101]⟩, 153⟩, ⟨1, ⟨#[67, 97, 115, 101]⟩, 158⟩, ⟨1, ⟨#[69, 115, 97, 99]⟩, 163⟩, ⟨1, ⟨#[87, 104, 105, 108, 101]⟩, 168⟩, ⟨1, ⟨#[85, 110, 116, 105, 108]⟩, 174⟩, ⟨1, ⟨#[70, 111, 114]⟩, 180⟩, ⟨1, ⟨#[76, 98, 114, 97, 99, 101]⟩, 184⟩, ⟨1, ⟨#[82, 98, 114, 97, 99, 101]⟩, 191⟩, ⟨1, ⟨#[66, 97, 110, 103]⟩, 198⟩, ⟨1, ⟨#[73, 110]⟩, 203⟩], [206], [⟨1, ⟨#[117, 110, 105, 116]⟩, 213⟩]⟩
def posixRu : List Ru := [⟨⟨1, ⟨#[117, 110, 105, 116]⟩, 221⟩, [⟨[⟨1, ⟨#[99, 111, 109, 112, 108, 101, 116, 101]⟩, 228⟩, ⟨1, ⟨#[78, 69, 87, 76, 73, 78, 69]⟩, 237⟩], 228⟩]⟩, ⟨⟨1, ⟨#[99, 111, 109, 112, 108, 101, 116, 101]⟩, 247⟩, [⟨[⟨1, ⟨#[108, 105, 115, 116]⟩, 258⟩], 258⟩, ⟨[⟨1, ⟨#[108, 105, 115, 116]⟩, 265⟩, ⟨1, ⟨#[115, 101, 112, 111, 112]⟩, 270⟩], 265⟩]⟩, ⟨⟨1, ⟨#[108, 105, 115, 116]⟩, 278⟩, [⟨[⟨1, ⟨#[108, 105, 115, 116]⟩, 285⟩, ⟨1, ⟨#[115, 101, 112, 111, 112]⟩, 290⟩, ⟨1, ⟨#[97, 110, 100, 111, 114]⟩, 296⟩], 285⟩, ⟨[⟨1, ⟨#[97, 110, 100, 111, 114]⟩, 304⟩], 304⟩]⟩, ⟨⟨1, ⟨#[97, 110, 100, 111, 114]⟩, 312⟩, [⟨[⟨1, ⟨#[112, 105, 112, 101, 108, 105, 110, 101]⟩, 320⟩], 320⟩, ⟨[⟨1, ⟨#[97, 110, 100, 111, 114]⟩, 331⟩, ⟨2, ⟨#[39, 38, 38, 39]⟩, 337⟩, ⟨1, ⟨#[108, 105, 110, 101, 98, 114, 101, 97, 107]⟩, 342⟩, ⟨1, ⟨#[112, 105, 112, 101, 108, 105, 110, 101]⟩, 352⟩], 331⟩, ⟨[⟨1, ⟨#[97, 110, 100, 111, 114]⟩, 363⟩, ⟨2, ⟨#[39, 124, 124, 39]⟩, 369⟩, ⟨1, ⟨#[108, 105, 110, 101, 98, 114, 101, 97, 107]⟩, 374⟩, ⟨1, ⟨#[112, 105, 112, 101, 108, 105, 110, 101]⟩, 384⟩], 363⟩]⟩, ⟨⟨1, ⟨#[112, 105, 112, 101, 108, 105, 110, 101]⟩, 395⟩, [⟨[⟨1, ⟨#[112, 105, 112, 101, 115]⟩, 406⟩], 406⟩, ⟨[⟨1, ⟨#[66, 97, 110, 103]⟩, 414⟩, ⟨1, ⟨#[112, 105, 112, 101, 115]⟩, 419⟩], 414⟩]⟩, ⟨⟨1, ⟨#[112, 105, 112, 101, 115]⟩, 427⟩, [⟨[⟨1, ⟨#[99, 111, 109, 109, 97, 110, 100]⟩, 435⟩], 435⟩, ⟨[⟨1, ⟨#[112, 105, 112, 101, 115]⟩, 445⟩, ⟨2, ⟨#[39, 124, 39]⟩, 451⟩, ⟨1, ⟨#[108, 105, 110, 101, 98, 114, 101, 97, 107]⟩, 455⟩, ⟨1, ⟨#[99, 111, 109, 109, 97, 110, 100]⟩, 465⟩], 445⟩]⟩, ⟨⟨1, ⟨#[99, 111, 109, 109, 97, 110, 100]⟩, 475⟩, [⟨[⟨1, ⟨#[115, 105, 109, 112, 108, 101]⟩, 485⟩], 485⟩, ⟨[⟨1, ⟨#[99, 111, 109, 112, 111, 117, 110, 100]⟩, 494⟩], 494⟩, ⟨[⟨1, ⟨#[99, 111, 109, 112, 111, 117, 110, 100]⟩, 505⟩, ⟨1, ⟨#[114, 101, 100, 105, 114, 115]⟩, 514⟩], 505⟩, ⟨[⟨1, ⟨#[102, 117, 110, 99, 116, 105, 111, 110]⟩, 523⟩], 523⟩]⟩, ⟨⟨1, ⟨#[99, 111, 109, 112, 111, 117, 110, 100]⟩, 534⟩, [⟨[⟨1, ⟨#[98, 114, 97, 99, 101]⟩, 545⟩], 545⟩, ⟨[⟨1, ⟨#[115, 117, 98, 115, 104, 101, 108, 108]⟩, 553⟩], 553⟩, ⟨[⟨1, ⟨#[102, 111, 114, 99]⟩, 564⟩], 564⟩, ⟨[⟨1, ⟨#[99, 97, 115, 101, 99]⟩, 571⟩], 571⟩, ⟨[⟨1, ⟨#[105, 102, 99]⟩, 579⟩], 579⟩, ⟨[⟨1, ⟨#[119, 104, 105, 108, 101, 99]⟩, 585⟩], 585⟩, ⟨[⟨1, ⟨#[117, 110, 116, 105, 108, 99]⟩, 594⟩], 594⟩]⟩, ⟨⟨1, ⟨#[115, 117, 98, 115, 104, 101, 108, 108]⟩, 603⟩, [⟨[⟨2, ⟨#[39, 40, 39]⟩, 614⟩, ⟨1, ⟨#[99, 108, 105, 115, 116]⟩, 618⟩, ⟨2, ⟨#[39, 41, 39]⟩, 624⟩], 614⟩]⟩, ⟨⟨1, ⟨#[99, 108, 105, 115, 116]⟩, 630⟩, [⟨[⟨1, ⟨#[108, 105, 110, 101, 98, 114, 101, 97, 107]⟩, 638⟩, ⟨1, ⟨#[116, 101, 114, 109]⟩, 648⟩], 638⟩, ⟨[⟨1, ⟨#[108, 105, 110, 101, 98, 114, 101, 97, 107]⟩, 655⟩, ⟨1, ⟨#[116, 101, 114, 109]⟩, 665⟩, ⟨1, ⟨#[115, 101, 112]⟩, 670⟩], 655⟩]⟩, ⟨⟨1, ⟨#[116, 101, 114, 109]⟩, 676⟩, [⟨[⟨1, ⟨#[116, 101, 114, 109]⟩, 683⟩, ⟨1, ⟨#[115, 101, 112]⟩, 688⟩, ⟨1, ⟨#[97, 110, 100, 111, 114]⟩, 692⟩], 683⟩, ⟨[⟨1, ⟨#[97, 110, 100, 111, 114]⟩, 700⟩], 700⟩]⟩, ⟨⟨1, ⟨#[102, 111, 114, 99]⟩, 708⟩, [⟨[⟨1, ⟨#[70, 111, 114]⟩, 715⟩, ⟨1, ⟨#[78, 65, 77, 69]⟩, 719⟩, ⟨1, ⟨#[100, 111, 103, 114, 111, 117, 112]⟩, 724⟩], 715⟩, ⟨[⟨1, ⟨#[70, 111, 114]⟩, 734⟩, ⟨1, ⟨#[78, 65, 77, 69]⟩, 738⟩, ⟨1, ⟨#[115, 101, 113, 115, 101, 112]⟩, 743⟩, ⟨1, ⟨#[100, 111, 103, 114, 111, 117, 112]⟩, 750⟩], 734⟩, ⟨[⟨1, ⟨#[70, 111, 114]⟩, 761⟩, ⟨1, ⟨#[78, 65, 77, 69]⟩, 765⟩, ⟨1, ⟨#[108, 105, 110, 101, 98, 114, 101, 97, 107]⟩, 770⟩, ⟨1, ⟨#[73, 110]⟩, 780⟩, ⟨1, ⟨#[115, 101, 113, 115, 101, 112]⟩, 783⟩, ⟨1, ⟨#[100, 111, 103, 114, 111, 117, 112]⟩, 790⟩], 761⟩, ⟨[⟨1, ⟨#[70, 111, 114]⟩, 800⟩, ⟨1, ⟨#[78, 65, 77, 69]⟩, 804⟩, ⟨1, ⟨#[108, 105, 110, 101, 98, 114, 101, 97, 107]⟩, 809⟩, ⟨1, ⟨#[73, 110]⟩, 819⟩, ⟨1, ⟨#[119, 111, 114, 100, 115]⟩, 822⟩, ⟨1, ⟨#[115, 101, 113, 115, 101, 112]⟩, 828⟩, ⟨1, ⟨#[100, 111, 103, 114, 111, 117, 112]⟩, 835⟩], 800⟩]⟩, ⟨⟨1, ⟨#[119, 111, 114, 100, 115]⟩, 845⟩, [⟨[⟨1, ⟨#[119, 111, 114, 100, 115]⟩, 853⟩, ⟨1, ⟨#[87, 79, 82, 68]⟩, 859⟩], 853⟩, ⟨[⟨1, ⟨#[87, 79, 82, 68]⟩, 866⟩], 866⟩]⟩, ⟨⟨1, ⟨#[99, 97, 115, 101, 99]⟩, 873⟩, [⟨[⟨1, ⟨#[67, 97, 115, 101]⟩, 881⟩, ⟨1, ⟨#[87, 79, 82, 68]⟩, 886⟩, ⟨1, ⟨#[108, 105, 110, 101, 98, 114, 101, 97, 107]⟩, 891⟩, ⟨1, ⟨#[73, 110]⟩, 901⟩, ⟨1, ⟨#[108, 105, 110, 101, 98, 114, 101, 97, 107]⟩, 904⟩, ⟨1, ⟨#[99, 97, 115, 101, 108, 105, 115, 116]⟩, 914⟩, ⟨1, ⟨#[69, 115, 97, 99]⟩, 923⟩], 881⟩, ⟨[⟨1, ⟨#[67, 97, 115, 101]⟩, 931⟩, ⟨1, ⟨#[87, 79, 82, 68]⟩, 936⟩, ⟨1, ⟨#[108, 105, 110, 101, 98, 114, 101, 97, 107]⟩, 941⟩, ⟨1, ⟨#[73, 110]⟩, 951⟩, ⟨1, ⟨#[108, 105, 110, 101, 98, 114, 101, 97, 107]⟩, 954⟩, ⟨1, ⟨#[99, 97, 115, 101, 108, 105, 115, 116, 110, 115]⟩, 964⟩, ⟨1, ⟨#[69, 115, 97, 99]⟩, 975⟩], 931⟩, ⟨[⟨1, ⟨#[67, 97, 115, 101]⟩, 982⟩, ⟨1, ⟨#[87, 79, 82, 68]⟩, 987⟩, ⟨1, ⟨#[108, 105, 110, 101, 98, 114, 101, 97, 107]⟩, 992⟩, ⟨1, ⟨#[73, 110]⟩, 1002⟩, ⟨1, ⟨#[108, 105, 110, 101, 98, 114, 101, 97, 107]⟩, 1005⟩, ⟨1, ⟨#[69, 115, 97, 99]⟩, 1015⟩], 982⟩]⟩, ⟨⟨1, ⟨#[99, 97, 115, 101, 108, 105, 115, 116, 110, 115]⟩, 1022⟩, [⟨[⟨1, ⟨#[99, 97, 115, 101, 108, 105, 115, 116]⟩, 1035⟩, ⟨1, ⟨#[99, 97, 115, 101, 105, 116, 101, 109, 110, 115]⟩, 1044⟩], 1035⟩, ⟨[⟨1, ⟨#[99, 97, 115, 101, 105, 116, 101, 109, 110, 115]⟩, 1057⟩], 1057⟩]⟩, ⟨⟨1, ⟨#[99, 97, 115, 101, 108, 105, 115, 116]⟩, 1070⟩, [⟨[⟨1, ⟨#[99, 97, 115, 101, 108, 105, 115, 116]⟩, 1081⟩, ⟨1, ⟨#[99, 97, 115, 101, 105, 116, 101, 109]⟩, 1090⟩], 1081⟩, ⟨[⟨1, ⟨#[99, 97, 115, 101, 105, 116, 101, 109]⟩, 1101⟩], 1101⟩]⟩, ⟨⟨1, ⟨#[99, 97, 115, 101, 105, 116, 101, 109, 110, 115]⟩, 1112⟩, [⟨[⟨1, ⟨#[112, 97, 116, 116, 101, 114, 110]⟩, 1125⟩, ⟨2, ⟨#[39, 41, 39]⟩, 1133⟩, ⟨1, ⟨#[108, 105, 110, 101, 98, 114, 101, 97, 107]⟩, 1137⟩], 1125⟩, ⟨[⟨1, ⟨#[112, 97, 116, 116, 101, 114, 110]⟩, 1149⟩, ⟨2, ⟨#[39, 41, 39]⟩, 1157⟩, ⟨1, ⟨#[99, 108, 105, 115, 116]⟩, 1161⟩], 1149⟩, ⟨[⟨2, ⟨#[39, 40, 39]⟩, 1170⟩, ⟨1, ⟨#[112, 97, 116, 116, 101, 114, 110]⟩, 1174⟩, ⟨2, ⟨#[39, 41, 39]⟩, 1182⟩, ⟨1, ⟨#[108, 105, 110, 101, 98, 114, 101, 97, 107]⟩, 1186⟩], 1170⟩, ⟨[⟨2, ⟨#[39, 40, 39]⟩, 1198⟩, ⟨1, ⟨#[112, 97, 116, 116, 101, 114, 110]⟩, 1202⟩, ⟨2, ⟨#[39, 41, 39]⟩, 1210⟩, ⟨1, ⟨#[99, 108, 105, 115, 116]⟩, 1214⟩], 1198⟩]⟩, ⟨⟨1, ⟨#[99, 97, 115, 101, 105, 116, 101, 109]⟩, 1222⟩, [⟨[⟨1, ⟨#[112, 97, 116, 116, 101, 114, 110]⟩, 1233⟩, ⟨2, ⟨#[39, 41, 39]⟩, 1241⟩, ⟨1, ⟨#[108, 105, 110, 101, 98, 114, 101, 97, 107]⟩, 1245⟩, ⟨2, ⟨#[39, 59, 59, 39]⟩, 1255⟩, ⟨1, ⟨#[108, 105, 110, 101, 98, 114, 101, 97, 107]⟩, 1260⟩], 1233⟩, ⟨[⟨1, ⟨#[112, 97, 116, 116, 101, 114, 110]⟩, 1272⟩, ⟨2, ⟨#[39, 41, 39]⟩, 1280⟩, ⟨1, ⟨#[99, 108, 105, 115, 116]⟩, 1284⟩, ⟨2, ⟨#[39, 59, 59, 39]⟩, 1290⟩, ⟨1, ⟨#[108, 105, 110, 101, 98, 114, 101, 97, 107]⟩, 1295⟩], 1272⟩, ⟨[⟨2, ⟨#[39, 40, 39]⟩, 1308⟩, ⟨1, ⟨#[112, 97, 116, 116, 101, 114, 110]⟩, 1312⟩, ⟨2, ⟨#[39, 41, 39]⟩, 1320⟩, ⟨1, ⟨#[108, 105, 110, 101, 98, 114, 101, 97, 107]⟩, 1324⟩, ⟨2, ⟨#[39, 59, 59, 39]⟩, 1334⟩, ⟨1, ⟨#[108, 105, 110, 101, 98, 114, 101, 97, 107]⟩, 1339⟩], 1308⟩, ⟨[⟨2, ⟨#[39, 40, 39]⟩, 1351⟩, ⟨1, ⟨#[112, 97, 116, 116, 101, 114, 110]⟩, 1355⟩, ⟨2, ⟨#[39, 41, 39]⟩, 1363⟩, ⟨1, ⟨#[99, 108, 105, 115, 116]⟩, 1367⟩, ⟨2, ⟨#[39, 59, 59, 39]⟩, 1373⟩, ⟨1, ⟨#[108, 105, 110, 101, 98, 114, 101, 97, 107]⟩, 1378⟩], 1351⟩]⟩, ⟨⟨1, ⟨#[112, 97, 116, 116, 101, 114, 110]⟩, 1390⟩, [⟨[⟨1, ⟨#[87, 79, 82, 68]⟩, 1400⟩], 1400⟩, ⟨[⟨1, ⟨#[112, 97, 116, 116, 101, 114, 110]⟩, 1407⟩, ⟨2, ⟨#[39, 124, 39]⟩, 1415⟩, ⟨1, ⟨#[87, 79, 82, 68]⟩, 1419⟩], 1407⟩]⟩, ⟨⟨1, ⟨#[105, 102, 99]⟩, 1426⟩, [⟨[⟨1, ⟨#[73, 102]⟩, 1432⟩, ⟨1, ⟨#[99, 108, 105, 115, 116]⟩, 1435⟩, ⟨1, ⟨#[84, 104, 101, 110]⟩, 1441⟩, ⟨1, ⟨#[99, 108, 105, 115, 116]⟩, 1446⟩, ⟨1, ⟨#[101, 108, 115, 101, 112, 97, 114, 116]⟩, 1452⟩, ⟨1, ⟨#[70, 105]⟩, 1461⟩], 1432⟩, ⟨[⟨1, ⟨#[73, 102]⟩, 1466⟩, ⟨1, ⟨#[99, 108, 105, 115, 116]⟩, 1469⟩, ⟨1, ⟨#[84, 104, 101, 110]⟩, 1475⟩, ⟨1, ⟨#[99, 108, 105, 115, 116]⟩, 1480⟩, ⟨1, ⟨#[70, 105]⟩, 1486⟩], 1466⟩]⟩, ⟨⟨1, ⟨#[101, 108, 115, 101, 112, 97, 114, 116]⟩, 1491⟩, [⟨[⟨1, ⟨#[69, 108, 105, 102]⟩, 1502⟩, ⟨1, ⟨#[99, 108, 105, 115, 116]⟩, 1507⟩, ⟨1, ⟨#[84, 104, 101, 110]⟩, 1513⟩, ⟨1, ⟨#[99, 108, 105, 115, 116]⟩, 1518⟩], 1502⟩, ⟨[⟨1, ⟨#[69, 108, 105, 102]⟩, 1526⟩, ⟨1, ⟨#[99, 108, 105, 115, 116]⟩, 1531⟩, ⟨1, ⟨#[84, 104, 101, 110]⟩, 1537⟩, ⟨1, ⟨#[99, 108, 105, 115, 116]⟩, 1542⟩, ⟨1, ⟨#[101, 108, 115, 101, 112, 97, 114, 116]⟩, 1548⟩], 1526⟩, ⟨[⟨1, ⟨#[69, 108, 115, 101]⟩, 1559⟩, ⟨1, ⟨#[99, 108, 105, 115, 116]⟩, 1564⟩], 1559⟩]⟩, ⟨⟨1, ⟨#[119, 104, 105, 108, 101, 99]⟩, 1572⟩, [⟨[⟨1, ⟨#[87, 104, 105, 108, 101]⟩, 1581⟩, ⟨1, ⟨#[99, 108, 105, 115, 116]⟩, 1587⟩, ⟨1, ⟨#[100, 111, 103, 114, 111, 117, 112]⟩, 1593⟩], 1581⟩]⟩, ⟨⟨1, ⟨#[117, 110, 116, 105, 108, 99]⟩, 1603⟩, [⟨[⟨1, ⟨#[85, 110, 116, 105, 108]⟩, 1612⟩, ⟨1, ⟨#[99, 108, 105, 115, 116]⟩, 1618⟩, ⟨1, ⟨#[100, 111, 103, 114, 111, 117, 112]⟩, 1624⟩], 1612⟩]⟩, ⟨⟨1, ⟨#[102, 117, 110, 99, 116, 105, 111, 110]⟩, 1634⟩, [⟨[⟨1, ⟨#[78, 65, 77, 69]⟩, 1645⟩, ⟨2, ⟨#[39, 40, 39]⟩, 1650⟩, ⟨2, ⟨#[39, 41, 39]⟩, 1654⟩, ⟨1, ⟨#[108, 105, 110, 101, 98, 114, 101, 97, 107]⟩, 1658⟩, ⟨1, ⟨#[102, 117, 110, 98, 111, 100, 121]⟩, 1668⟩], 1645⟩]⟩, ⟨⟨1, ⟨#[102, 117, 110, 98, 111, 100, 121]⟩, 1678⟩, [⟨[⟨1, ⟨#[99, 111, 109, 112, 111, 117, 110, 100]⟩, 1688⟩], 1688⟩, ⟨[⟨1, ⟨#[99, 111, 109, 112, 111, 117, 110, 100]⟩, 1699⟩, ⟨1, ⟨#[114, 101, 100, 105, 114, 115]⟩, 1708⟩], 1699⟩]⟩, ⟨⟨1, ⟨#[98, 114, 97, 99, 101]⟩, 1717⟩, [⟨[⟨1, ⟨#[76, 98, 114, 97, 99, 101]⟩, 1725⟩, ⟨1, ⟨#[99, 108, 105, 115, 116]⟩, 1732⟩, ⟨1, ⟨#[82, 98, 114, 97, 99, 101]⟩, 1738⟩], 1725⟩]⟩, ⟨⟨1, ⟨#[100, 111, 103, 114, 111, 117, 112]⟩, 1747⟩, [⟨[⟨1, ⟨#[68, 111]⟩, 1757⟩, ⟨1, ⟨#[99, 108, 105, 115, 116]⟩, 1760⟩, ⟨1, ⟨#[68, 111, 110, 101]⟩, 1766⟩], 1757⟩]⟩, ⟨⟨1, ⟨#[115, 105, 109, 112, 108, 101]⟩, 1773⟩, [⟨[⟨1, ⟨#[112, 114, 101, 102, 105, 120]⟩, 1782⟩, ⟨1, ⟨#[99, 109, 100, 119, 111, 114, 100]⟩, 1789⟩, ⟨1, ⟨#[115, 117, 102, 102, 105, 120]⟩, 1797⟩], 1782⟩, ⟨[⟨1, ⟨#[112, 114, 101, 102, 105, 120]⟩, 1806⟩, ⟨1, ⟨#[99, 109, 100, 119, 111, 114, 100]⟩, 1813⟩], 1806⟩, ⟨[⟨1, ⟨#[112, 114, 101, 102, 105, 120]⟩, 1823⟩], 1823⟩, ⟨[⟨1, ⟨#[99, 109, 100, 110, 97, 109, 101]⟩, 1832⟩, ⟨1, ⟨#[115, 117, 102, 102, 105, 120]⟩, 1840⟩], 1832⟩, ⟨[⟨1, ⟨#[99, 109, 100, 110, 97, 109, 101]⟩, 1849⟩], 1849⟩]⟩, ⟨⟨1, ⟨#[99, 109, 100, 110, 97, 109, 101]⟩, 1859⟩, [⟨[⟨1, ⟨#[87, 79, 82, 68]⟩, 1869⟩], 1869⟩, ⟨[⟨1, ⟨#[78, 65, 77, 69]⟩, 1876⟩], 1876⟩]⟩, ⟨⟨1, ⟨#[99, 109, 100, 119, 111, 114, 100]⟩, 1883⟩, [⟨[⟨1, ⟨#[87, 79, 82, 68]⟩, 1893⟩], 1893⟩]⟩, ⟨⟨1, ⟨#[112, 114, 101, 102, 105, 120]⟩, 1900⟩, [⟨[⟨1, ⟨#[114, 101, 100, 105, 114]⟩, 1909⟩], 1909⟩, ⟨[⟨1, ⟨#[112, 114, 101, 102, 105, 120]⟩, 1917⟩, ⟨1, ⟨#[114, 101, 100, 105, 114]⟩, 1924⟩], 1917⟩, ⟨[⟨1, ⟨#[65, 83, 83, 73, 71, 78]⟩, 1932⟩], 1932⟩, ⟨[⟨1, ⟨#[112, 114, 101, 102, 105, 120]⟩, 1941⟩, ⟨1, ⟨#[65, 83, 83, 73, 71, 78]⟩, 1948⟩], 1941⟩]⟩, ⟨⟨1, ⟨#[115, 117, 102, 102, 105, 120]⟩, 1957⟩, [⟨[⟨1, ⟨#[114, 101, 100, 105, 114]⟩, 1966⟩], 1966⟩, ⟨[⟨1, ⟨#[115, 117, 102, 102, 105, 120]⟩, 1974⟩, ⟨1, ⟨#[114, 101, 100, 105, 114]⟩, 1981⟩], 1974⟩, ⟨[⟨1, ⟨#[87, 79, 82, 68]⟩, 1989⟩], 1989⟩, ⟨[⟨1, ⟨#[115, 117, 102, 102, 105, 120]⟩, 1996⟩, ⟨1, ⟨#[87, 79, 82, 68]⟩, 2003⟩], 1996⟩]⟩, ⟨⟨1, ⟨#[114, 101, 100, 105, 114, 115]⟩, 2010⟩, [⟨[⟨1, ⟨#[114, 101, 100, 105, 114]⟩, 2019⟩], 2019⟩, ⟨[⟨1, ⟨#[114, 101, 100, 105, 114, 115]⟩, 2027⟩, ⟨1, ⟨#[114, 101, 100, 105, 114]⟩, 2034⟩], 2027⟩]⟩, ⟨⟨1, ⟨#[114, 101, 100, 105, 114]⟩, 2042⟩, [⟨[⟨1, ⟨#[105, 111, 102, 105, 108, 101]⟩, 2050⟩], 2050⟩, ⟨[⟨1, ⟨#[78, 85, 77]⟩, 2059⟩, ⟨1, ⟨#[105, 111, 102, 105, 108, 101]⟩, 2063⟩], 2059⟩, ⟨[⟨1, ⟨#[105, 111, 104, 101, 114, 101]⟩, 2072⟩], 2072⟩, ⟨[⟨1, ⟨#[78, 85, 77]⟩, 2081⟩, ⟨1, ⟨#[105, 111, 104, 101, 114, 101]⟩, 2085⟩], 2081⟩]⟩, ⟨⟨1, ⟨#[105, 111, 102, 105, 108, 101]⟩, 2094⟩, [⟨[⟨2, ⟨#[39, 60, 39]⟩, 2103⟩, ⟨1, ⟨#[87, 79, 82, 68]⟩, 2107⟩], 2103⟩, ⟨[⟨2, ⟨#[39, 60, 38, 39]⟩, 2114⟩, ⟨1, ⟨#[87, 79, 82, 68]⟩, 2119⟩], 2114⟩, ⟨[⟨2, ⟨#[39, 62, 39]⟩, 2126⟩, ⟨1, ⟨#[87, 79, 82, 68]⟩, 2130⟩], 2126⟩, ⟨[⟨2, ⟨#[39, 62, 38, 39]⟩, 2137⟩, ⟨1, ⟨#[87, 79, 82, 68]⟩, 2142⟩], 2137⟩, ⟨[⟨2, ⟨#[39, 62, 62, 39]⟩, 2149⟩, ⟨1, ⟨#[87, 79, 82, 68]⟩, 2154⟩], 2149⟩, ⟨[⟨2, ⟨#[39, 60, 62, 39]⟩, 2161⟩, ⟨1, ⟨#[87, 79, 82, 68]⟩, 2166⟩], 2161⟩, ⟨[⟨2, ⟨#[39, 62, 124, 39]⟩, 2173⟩, ⟨1, ⟨#[87, 79, 82, 68]⟩, 2178⟩], 2173⟩]⟩, ⟨⟨1, ⟨#[105, 111, 104, 101, 114, 101]⟩, 2185⟩, [⟨[⟨2, ⟨#[39, 60, 60, 39]⟩, 2194⟩, ⟨1, ⟨#[87, 79, 82, 68]⟩, 2199⟩], 2194⟩, ⟨[⟨2, ⟨#[39, 60, 60, 45, 39]⟩, 2206⟩, ⟨1, ⟨#[87, 79, 82, 68]⟩, 2212⟩], 2206⟩]⟩, ⟨⟨1, ⟨#[110, 101, 119, 108, 105, 110, 101, 115]⟩, 2219⟩, [⟨[⟨1, ⟨#[78, 69, 87, 76, 73, 78, 69]⟩, 2230⟩], 2230⟩, ⟨[⟨1, ⟨#[110, 101, 119, 108, 105, 110, 101, 115]⟩, 2240⟩, ⟨1, ⟨#[78, 69, 87, 76, 73, 78, 69]⟩, 2249⟩], 2240⟩]⟩, ⟨⟨1, ⟨#[108, 105, 110, 101, 98, 114, 101, 97, 107]⟩, 2259⟩, [⟨[⟨1, ⟨#[110, 101, 119, 108, 105, 110, 101, 115]⟩, 2271⟩], 2271⟩, ⟨[], 2282⟩]⟩, ⟨⟨1, ⟨#[115, 101, 112, 111, 112]⟩, 2284⟩, [⟨[⟨2, ⟨#[39, 38, 39]⟩, 2292⟩], 2292⟩, ⟨[⟨2, ⟨#[39, 59, 39]⟩, 2298⟩], 2298⟩]⟩, ⟨⟨1, ⟨#[115, 101, 112]⟩, 2304⟩, [⟨[⟨1, ⟨#[115, 101, 112, 111, 112]⟩, 2310⟩, ⟨1, ⟨#[108, 105, 110, 101, 98, 114, 101, 97, 107]⟩, 2316⟩], 2310⟩, ⟨[⟨1, ⟨#[110, 101, 119, 108, 105, 110, 101, 115]⟩, 2328⟩], 2328⟩]⟩, ⟨⟨1, ⟨#[115, 101, 113, 115, 101, 112]⟩, 2339⟩, [⟨[⟨2, ⟨#[39, 59, 39]⟩, 2348⟩, ⟨1, ⟨#[108, 105, 110, 101, 98, 114, 101, 97, 107]⟩, 2352⟩], 2348⟩, ⟨[⟨1, ⟨#[110, 101, 119, 108, 105, 110, 101, 115]⟩, 2364⟩], 2364⟩]⟩]
def posixGm : Gm := { terms := [⟨#[87, 79, 82, 68]⟩, ⟨#[65, 83, 83, 73, 71, 78]⟩, ⟨#[78, 65, 77, 69]⟩, ⟨#[78, 85, 77]⟩, ⟨#[78, 69, 87, 76, 73, 78, 69]⟩, ⟨#[39, 38, 38, 39]⟩, ⟨#[39, 124, 124, 39]⟩, ⟨#[39, 59, 59, 39]⟩, ⟨#[39, 59, 39]⟩, ⟨#[39, 38, 39]⟩, ⟨#[39, 124, 39]⟩, ⟨#[39, 40, 39]⟩, ⟨#[39, 41, 39]⟩, ⟨#[39, 60, 39]⟩, ⟨#[39, 62, 39]⟩, ⟨#[39, 62, 62, 39]⟩, ⟨#[39, 60, 60, 39]⟩, ⟨#[39, 60, 60, 45, 39]⟩, ⟨#[39, 60, 38, 39]⟩, ⟨#[39, 62, 38, 39]⟩, ⟨#[39, 60, 62, 39]⟩, ⟨#[39, 62, 124, 39]⟩, ⟨#[73, 102]⟩, ⟨#[84, 104, 101, 110]⟩, ⟨#[69, 108, 115, 101]⟩, ⟨#[69, 108, 105, 102]⟩, ⟨#[70, 105]⟩, ⟨#[68, 111]⟩, ⟨#[68, 111, 110, 101]⟩, ⟨#[67, 97, 115, 101]⟩, ⟨#[69, 115, 97, 99]⟩, ⟨#[87, 104, 105, 108, 101]⟩, ⟨#[85, 110, 116, 105, 108]⟩, ⟨#[70, 111, 114]⟩, ⟨#[76, 98, 114, 97, 99, 101]⟩, ⟨#[82, 98, 114, 97, 99, 101]⟩, ⟨#[66, 97, 110, 103]⟩, ⟨#[73, 110]⟩], nons := [⟨#[117, 110, 105, 116]⟩, ⟨#[99, 111, 109, 112, 108, 101, 116, 101]⟩, ⟨#[108, 105, 115, 116]⟩, ⟨#[97, 110, 100, 111, 114]⟩, ⟨#[112, 105, 112, 101, 108, 105, 110, 101]⟩, ⟨#[112, 105, 112, 101, 115]⟩, ⟨#[99, 111, 109, 109, 97, 110, 100]⟩, ⟨#[99, 111, 109, 112, 111, 117, 110, 100]⟩, ⟨#[115, 117, 98, 115, 104, 101, 108, 108]⟩, ⟨#[99, 108, 105, 115, 116]⟩, ⟨#[116, 101, 114, 109]⟩, ⟨#[102, 111, 114, 99]⟩, ⟨#[119, 111, 114, 100, 115]⟩, ⟨#[99, 97, 115, 101, 99]⟩, ⟨#[99, 97, 115, 101, 108, 105, 115, 116, 110, 115]⟩, ⟨#[99, 97, 115, 101, 108, 105, 115, 116]⟩, ⟨#[99, 97, 115, 101, 105, 116, 101, 109, 110, 115]⟩, ⟨#[99, 97, 115, 101, 105, 116, 101, 109]⟩, ⟨#[112, 97, 116, 116, 101, 114, 110]⟩, ⟨#[105, 102, 99]⟩, ⟨#[101, 108, 115, 101, 112, 97, 114, 116]⟩, ⟨#[119, 104, 105, 108, 101, 99]⟩, ⟨#[117, 110, 116, 105, 108, 99]⟩, ⟨#[102, 117, 110, 99, 116, 105, 111, 110]⟩, ⟨#[102, 117, 110, 98, 111, 100, 121]⟩, ⟨#[98, 114, 97, 99, 101]⟩, ⟨#[100, 111, 103, 114, 111, 117, 112]⟩, ⟨#[115, 105, 109, 112, 108, 101]⟩, ⟨#[99, 109, 100, 110, 97, 109, 101]⟩, ⟨#[99, 109, 100, 119, 111, 114, 100]⟩, ⟨#[112, 114, 101, 102, 105, 120]⟩, ⟨#[115, 117, 102, 102, 105, 120]⟩, ⟨#[114, 101, 100, 105, 114, 115]⟩, ⟨#[114, 101, 100, 105, 114]⟩, ⟨#[105, 111, 102, 105, 108, 101]⟩, ⟨#[105, 111, 104, 101, 114, 101]⟩, ⟨#[110, 101, 119, 108, 105, 110, 101, 115]⟩, ⟨#[108, 105, 110, 101, 98, 114, 101, 97, 107]⟩, ⟨#[115, 101, 112, 111, 112]⟩, ⟨#[115, 101, 112]⟩, ⟨#[115, 101, 113, 115, 101, 112]⟩], rules := [⟨39, [40, 5]⟩, ⟨40, [41]⟩, ⟨40, [41, 77]⟩, ⟨41, [41, 77, 42]⟩, ⟨41, [42]⟩, ⟨42, [43]⟩, ⟨42, [42, 6, 76, 43]⟩, ⟨42, [42, 7, 76, 43]⟩, ⟨43, [44]⟩, ⟨43, [37, 44]⟩, ⟨44, [45]⟩, ⟨44, [44, 11, 76, 45]⟩, ⟨45, [66]⟩, ⟨45, [46]⟩, ⟨45, [46, 71]⟩, ⟨45, [62]⟩, ⟨46, [64]⟩, ⟨46, [47]⟩, ⟨46, [50]⟩, ⟨46, [52]⟩, ⟨46, [58]⟩, ⟨46, [60]⟩, ⟨46, [61]⟩, ⟨47, [12, 48, 13]⟩, ⟨48, [76, 49]⟩, ⟨48, [76, 49, 78]⟩, ⟨49, [49, 78, 42]⟩, ⟨49, [42]⟩, ⟨50, [34, 3, 65]⟩, ⟨50, [34, 3, 79, 65]⟩, ⟨50, [34, 3, 76, 38, 79, 65]⟩, ⟨50, [34, 3, 76, 38, 51, 79, 65]⟩, ⟨51, [51, 1]⟩, ⟨51, [1]⟩, ⟨52, [30, 1, 76, 38, 76, 54, 31]⟩, ⟨52, [30, 1, 76, 38, 76, 53, 31]⟩, ⟨52, [30, 1, 76, 38, 76, 31]⟩, ⟨53, [54, 55]⟩, ⟨53, [55]⟩, ⟨54, [54, 56]⟩, ⟨54, [56]⟩, ⟨55, [57, 13, 76]⟩, ⟨55, [57, 13, 48]⟩, ⟨55, [12, 57, 13, 76]⟩, ⟨55, [12, 57, 13, 48]⟩, ⟨56, [57, 13, 76, 8, 76]⟩, ⟨56, [57, 13, 48, 8, 76]⟩, ⟨56, [12, 57, 13, 76, 8, 76]⟩, ⟨56, [12, 57, 13, 48, 8, 76]⟩, ⟨57, [1]⟩, ⟨57, [57, 11, 1]⟩, ⟨58, [23, 48, 24, 48, 59, 27]⟩, ⟨58, [23, 48, 24, 48, 27]⟩, ⟨59, [26, 48, 24, 48]⟩, ⟨59, [26, 48, 24, 48, 59]⟩, ⟨59, [25, 48]⟩, ⟨60, [32, 48, 65]⟩, ⟨61, [33, 48, 65]⟩, ⟨62, [3, 12, 13, 76, 63]⟩, ⟨63, [46]⟩, ⟨63, [46, 71]⟩, ⟨64, [35, 48, 36]⟩, ⟨65, [28, 48, 29]⟩, ⟨66, [69, 68, 70]⟩, ⟨66, [69, 68]⟩, ⟨66, [69]⟩, ⟨66, [67, 70]⟩, ⟨66, [67]⟩, ⟨67, [1]⟩, ⟨67, [3]⟩, ⟨68, [1]⟩, ⟨69, [72]⟩, ⟨69, [69, 72]⟩, ⟨69, [2]⟩, ⟨69, [69, 2]⟩, ⟨70, [72]⟩, ⟨70, [70, 72]⟩, ⟨70, [1]⟩, ⟨70, [70, 1]⟩, ⟨71, [72]⟩, ⟨71, [71, 72]⟩, ⟨72, [73]⟩, ⟨72, [4, 73]⟩, ⟨72, [74]⟩, ⟨72, [4, 74]⟩, ⟨73, [14, 1]⟩, ⟨73, [19, 1]⟩, ⟨73, [15, 1]⟩, ⟨73, [20, 1]⟩, ⟨73, [16, 1]⟩, ⟨73, [21, 1]⟩, ⟨73, [22, 1]⟩, ⟨74, [17, 1]⟩, ⟨74, [18, 1]⟩, ⟨75, [5]⟩, ⟨75, [75, 5]⟩, ⟨76, [75]⟩, ⟨76, []⟩, ⟨77, [10]⟩, ⟨77, [9]⟩, ⟨78, [77, 76]⟩, ⟨78, [75]⟩, ⟨79, [9, 76]⟩, ⟨79, [75]⟩], start := 39 }
theorem posix_toks : allL posixText.data.toList = (posixToks, 0, 0) := by kernel_rfl
theorem posix_form : formS posixToks = .ok (posixHd, posixRu) := by kernel_rfl
theorem posix_build : buildB posixHd posixRu = .ok posixGm := by kernel_rfl
theorem posix_parse : parseS posixText = .ok posixGm := by
  unfold parseS
  rw [all_L, posix_toks]
  simp only [ne_eq, not_true_eq_false, if_false]
  rw [posix_form]
  exact posix_build
end Go.Proofs.YtliofoikejdjeaaDoor
