/- Texts laid one behind the other: Det, Base, Gram1, Pa, GM, PW, Ch, Tk, P1, Shelf, T1, K1. -/
import Derived.Orders
import Derived.KernelRfl
import Derived.Test.YtliofoikejdjeaaDoorProg
import Derived.Test.YtliofoikejdjeaaDoorWWords
import Derived.WalkKit
import Derived.BigQuiet
import Derived.Deep.QuietTactic
import Derived.Deep.LoopGhost
import Derived.Deep.DeepCutAuto
import Derived.Deep.DeepMust
import Derived.Outline
import Derived.Shelf.Abstract
import Derived.WideLaws
import Derived.WalkSpells
import Derived.WalkLawsBesides
import Derived.Lib.Index
import Derived.Shelf.Small.Strs
import Derived.Shelf.Strings.Search1
import Derived.Shelf.Strings.Search2
import Derived.Shelf.Strings.Search3
import Derived.Shelf.LaysM
import Derived.Shelf.Strings.Shaped
import Derived.Shelf.Strings.Prefix
import Derived.Shelf.Slices.Turned
import Derived.Shelf.Slices.Equal
import Derived.Shelf.Slices.Empties2
import Derived.Lib.IndexLaws
import Derived.Test.YtliofoikejdjeaaDoorCards
import Derived.Test.YtliofoikejdjeaaDoorTie
import Derived.ChangeSame
import Derived.ChangeVars
import Derived.JoinedOf
import Derived.RowKitTokens
import Derived.LaidLaws
import Derived.LaidHandle
import Derived.LaidMore
import Derived.ProofKit
import Derived.Stop.Joined
import Derived.SizedLaws
import Derived.SliceStrings
import Derived.SevenTiedAt
import Derived.OpenShut
import Derived.Below
import Derived.Carry
import Derived.Handed
import Derived.HandedShaped
import Derived.Shelf.Vars
import Derived.Lib.LaidTab
/- A region that draws its order, walked once: every operation, run in the region's LAST frame, hands that frame back, in whatever world the region's invariant allows; conditions: each slot is written once, and what an operation reads is written ahead of it ('detOk', by the kernel). -/
namespace Go.Proofs.YtliofoikejdjeaaDoor
open Go
set_option linter.unusedVariables false
set_option linter.unusedSimpArgs false
set_option linter.unnecessarySimpa false

def isSel : Op → Bool
  | .select .. => true
  | _ => false
def noDup : List Nat → Bool
  | [] => true
  | x :: xs => !xs.contains x && noDup xs
def detOk (ops : Array Oper) : Bool :=
  noDup (ops.toList.filterMap (·.dst)) &&
  ops.toList.all fun o => !isSel o.op && (o.looksAt ops).all fun t => (List.range ops.size).all fun j =>
    (ops[j]?.bind (·.dst)) != some t || o.after.any fun e => Region.binds .any e && e.on == j

/-- The frame behind all: each operation's value in its slot. -/
def putAll : List Oper → List Value → Act → Act
  | o :: os, v :: vs, a => putAll os vs (a.put o.dst v)
  | _, _, a => a
/-- One operation in the last frame. -/
def Det1 (P : Program) (ops : Array Oper) (c : Act) (Inv : World → Prop) (o : Oper) : Prop :=
  ∀ W, Inv W → if Region.wanted o (yielded ops c.tmps) then o.wp P c W (fun a' W' => a' = c ∧ Inv W') (fun _ _ _ => False) else c.put o.dst undef = c
def DetAll (P : Program) (ops : Array Oper) (c : Act) (Inv : World → Prop) : List Oper → Prop
  | [] => True
  | o :: os => Det1 P ops c Inv o ∧ DetAll P ops c Inv os

theorem detAll_mem {P : Program} {ops : Array Oper} {c : Act} {Inv : World → Prop} {l : List Oper} (h : DetAll P ops c Inv l) : ∀ o, o ∈ l → Det1 P ops c Inv o := by
  induction l with
  | nil => intro o hm; cases hm
  | cons x xs ih =>
    intro o hm
    obtain ⟨h1, h2⟩ := h
    cases hm with
    | head => exact h1
    | tail _ hm => exact ih h2 o hm

theorem putAll_defers : ∀ (l : List Oper) (vs : List Value) (a : Act), (putAll l vs a).defers = a.defers
  | [], _, _ => by simp [putAll]
  | _ :: _, [], _ => by simp [putAll]
  | o :: os, v :: vs, a => by
    rw [putAll, putAll_defers os vs]
    unfold Act.put
    cases o.dst <;> rfl
theorem put_size (a : Act) (d : Option Tmp) (v : Value) : (a.put d v).tmps.size = a.tmps.size := by
  unfold Act.put
  cases d <;> simp
theorem putAll_size : ∀ (l : List Oper) (vs : List Value) (a : Act), (putAll l vs a).tmps.size = a.tmps.size
  | [], _, _ => by simp [putAll]
  | _ :: _, [], _ => by simp [putAll]
  | o :: os, v :: vs, a => by rw [putAll, putAll_size os vs, put_size]
theorem put_other (a : Act) (d : Option Tmp) (v : Value) (t : Nat) (h : d ≠ some t) : (a.put d v).tmps[t]? = a.tmps[t]? := by
  unfold Act.put
  cases d with
  | none => rfl
  | some d => exact Array.getElem?_setIfInBounds_ne (fun e => h (by rw [e]))
theorem putAll_other (t : Nat) : ∀ (l : List Oper) (vs : List Value) (a : Act), (∀ o ∈ l, o.dst ≠ some t) → (putAll l vs a).tmps[t]? = a.tmps[t]?
  | [], _, _, _ => by simp [putAll]
  | _ :: _, [], _, _ => by simp [putAll]
  | o :: os, v :: vs, a, h => by
    rw [putAll, putAll_other t os vs _ fun o' ho => h o' (List.mem_cons_of_mem _ ho), put_other _ _ _ _ (h o (List.mem_cons_self ..))]

theorem noDup_idx : ∀ (l : List Oper), noDup (l.filterMap (·.dst)) = true → ∀ (i j : Nat) (oi oj : Oper) (d : Nat), l[i]? = some oi → l[j]? = some oj → oi.dst = some d → oj.dst = some d → i = j
  | [], _, i, _, _, _, _, h, _, _, _ => by simp at h
  | o :: os, hn, i, j, oi, oj, d, hi, hj, di, dj => by
    have hn' : noDup (os.filterMap (·.dst)) = true := by
      cases h : o.dst with
      | none => simpa [List.filterMap_cons, h] using hn
      | some e => simp [List.filterMap_cons, h, noDup] at hn; exact hn.2
    have hne : ∀ (k : Nat) (o' : Oper), os[k]? = some o' → o.dst = some d → o'.dst ≠ some d := by
      intro k o' hk h h'
      simp [List.filterMap_cons, h, noDup] at hn
      exact hn.1 o' (List.mem_of_getElem? hk) h'
    cases i with
    | zero =>
      cases j with
      | zero => rfl
      | succ j =>
        simp at hi hj
        subst hi
        exact absurd dj (hne j _ hj di)
    | succ i =>
      cases j with
      | zero =>
        simp at hi hj
        subst hj
        exact absurd di (hne i _ hi dj)
      | succ j =>
        simp at hi hj
        rw [noDup_idx os hn' i j oi oj d hi hj di dj]

/-- How the frame stands while the region runs: what is done has its last value, the rest its first. -/
structure Midway (ops : Array Oper) (c a0 a : Act) (listed : Array Bool) : Prop where
  size : a.tmps.size = c.tmps.size
  defers : a.defers = c.defers
  done : ∀ (j : Nat) (o : Oper) t, ops[j]? = some o → o.dst = some t → listed.getD j false = true → a.tmps[t]? = c.tmps[t]?
  rest : ∀ t, (∀ (j : Nat) (o : Oper), ops[j]? = some o → o.dst ≠ some t) → a.tmps[t]? = c.tmps[t]?

section
variable {P : Program} {ops : Array Oper} {Q : Exit → Act → World → Prop}

theorem det_reads (hck : detOk ops = true) {c a0 a : Act} {listed : Array Bool} (hm : Midway ops c a0 a listed) {i : Nat} {o : Oper} (hi : ops[i]? = some o)
    (hr : ∀ e ∈ o.after, Region.binds .any e = true → listed.getD e.on false = true) : ∀ t ∈ o.looksAt ops, a.tmps[t]? = c.tmps[t]? := by
  intro t ht
  by_cases hw : ∃ (j : Nat) (oj : Oper), ops[j]? = some oj ∧ oj.dst = some t
  · obtain ⟨j, oj, hj, hd⟩ := hw
    refine hm.done j oj t hj hd ?_
    have hck2 := (Bool.and_eq_true _ _ ▸ hck).2
    have ho := List.all_eq_true.1 hck2 o (by simpa using Array.mem_of_getElem? hi)
    have ho2 := List.all_eq_true.1 ((Bool.and_eq_true _ _ ▸ ho).2) t ht
    have hjl : j < ops.size := (Array.getElem?_eq_some_iff.1 hj).1
    have ho3 := List.all_eq_true.1 ho2 j (List.mem_range.2 hjl)
    simp only [hj, Option.bind_some, hd, bne_self_eq_false, Bool.false_or] at ho3
    obtain ⟨q, hq, hb⟩ := Array.any_eq_true.1 ho3
    obtain ⟨e, he, hb⟩ : ∃ e, e ∈ o.after ∧ (Region.binds .any e && e.on == j) = true := ⟨o.after[q], Array.getElem_mem hq, hb⟩
    simp only [Bool.and_eq_true, beq_iff_eq] at hb
    rw [← hb.2]
    exact hr e he hb.1
  · exact hm.rest t fun j oj hj hd => hw ⟨j, oj, hj, hd⟩

theorem eval_same {c a : Act} {x : Operand} (h : ∀ t, x = .tmp t → a.tmps[t]? = c.tmps[t]?) : a.eval x = c.eval x := by
  cases x with
  | tmp t => simp [Act.eval, h t rfl]
  | _ => rfl

theorem put_fix {c : Act} {d : Tmp} {v : Value} (h : c.put (some d) v = c) (hlt : d < c.tmps.size) : c.tmps[d]? = some v := by
  have h1 : (c.put (some d) v).tmps[d]? = c.tmps[d]? := by rw [h]
  rw [← h1]
  simp [Act.put, hlt]

theorem midway_put (hnd : noDup (ops.toList.filterMap (·.dst)) = true) {c a0 a : Act} {listed : Array Bool} (hm : Midway ops c a0 a listed) {i : Nat} {o : Oper} (hi : ops[i]? = some o) {v : Value}
    (hv : c.put o.dst v = c) : Midway ops c a0 (a.put o.dst v) (listed.setIfInBounds i true) := by
  refine ⟨by rw [put_size]; exact hm.size, by rw [← hm.defers]; unfold Act.put; cases o.dst <;> rfl, fun j oj t hj hd hl => ?_, fun t ht => ?_⟩
  · by_cases e : j = i
    · subst e
      obtain rfl : oj = o := Option.some.inj (hj.symm.trans hi)
      rw [hd] at hv ⊢
      by_cases hlt : t < c.tmps.size
      · rw [put_fix hv hlt]
        simp [Act.put, hm.size, hlt]
      · have h1 := put_size a (some t) v
        have h2 := hm.size
        rw [Array.getElem?_eq_none (Nat.le_trans (Nat.le_of_eq (h1.trans h2)) (Nat.le_of_not_lt hlt)), Array.getElem?_eq_none (Nat.le_of_not_lt hlt)]
    · have hne : o.dst ≠ some t := fun h => e (noDup_idx ops.toList hnd j i oj o t (by simpa using hj) (by simpa using hi) hd h)
      rw [put_other _ _ _ _ hne]
      refine hm.done j oj t hj hd ?_
      rwa [getD_set_ne false (fun h => e h.symm)] at hl
  · rw [put_other _ _ _ _ (ht i o hi)]
    exact hm.rest t ht

theorem det_wp {c a : Act} {o : Oper} {W : World} {Inv : World → Prop} {K : Act → World → Prop} (he : execOp a.eval o = execOp c.eval o)
    (h : o.wp P c W (fun a' W' => a' = c ∧ Inv W') (fun _ _ _ => False)) (hdf : a.defers = c.defers) (hK : ∀ v W', c.put o.dst v = c → Inv W' → K (a.put o.dst v) W') : o.wp P a W K Q := by
  unfold Oper.wp at *
  rw [he]
  generalize (execOp c.eval o).run P W = r at *
  cases r with
  | ok n w' =>
    cases n with
    | value v => exact hK v w' h.1 h.2
    | skip => exact hK _ w' h.1 h.2
    | defer d =>
      have h1 : ({ c with defers := d :: c.defers }.put o.dst undef).defers = c.defers := by rw [h.1]
      unfold Act.put at h1
      have h2 : (d :: c.defers) = c.defers := by cases hd : o.dst <;> simpa [hd] using h1
      have h3 := congrArg List.length h2
      simp at h3
    | enter f args =>
      refine Calls.mono h fun e w'' he => ?_
      cases e with
      | returned u => exact hK u w'' he.1 he.2
      | panicked c => exact he.elim
      | outgrown => obtain ⟨_, _, hh⟩ := he; exact hh.elim
    | row row args => exact Rows.mono h fun u w'' he => hK u w'' he.1 he.2
    | _ => exact h.elim
  | halt x w' => cases x <;> exact h.elim

theorem det_any (hck : detOk ops = true) {c a0 : Act} {Inv : World → Prop} (hops : ∀ o ∈ ops.toList, Det1 P ops c Inv o) (hQ : ∀ W, Inv W → Q .normal c W) :
    ∀ (fuel : Nat) (listed : Array Bool) (a : Act) (W : World), listed.size = ops.size → (∀ i, i < ops.size → listed.getD i false = true ∨ True) → Midway ops c a0 a listed → Inv W →
      (Region.ready .any ops listed = [] → ∀ j, j < ops.size → listed.getD j false = true) → (fuel + (listed.toList.filter id).length = ops.size) →
      (∀ l : Array Bool, l.size = ops.size → Region.ready .any ops l = [] → ∀ j, j < ops.size → l.getD j false = true) → wpAny P .any ops Q fuel listed a W := by
  have hnd := (Bool.and_eq_true _ _ ▸ hck).1
  have fin : ∀ (listed : Array Bool) (a : Act) (W : World), Midway ops c a0 a listed → Inv W → (∀ j, j < ops.size → listed.getD j false = true) → Q .normal a W := by
    intro listed a W hm hI hall
    have : a = c := by
      have ht : a.tmps = c.tmps := by
        apply Array.ext_getElem?
        intro t
        by_cases hw : ∃ (j : Nat) (oj : Oper), ops[j]? = some oj ∧ oj.dst = some t
        · obtain ⟨j, oj, hj, hd⟩ := hw
          exact hm.done j oj t hj hd (hall j (Array.getElem?_eq_some_iff.1 hj).1)
        · exact hm.rest t fun j oj hj hd => hw ⟨j, oj, hj, hd⟩
      obtain ⟨t1, d1⟩ := a
      obtain ⟨t2, d2⟩ := c
      simp only at ht
      have hd := hm.defers
      simp only at hd
      rw [ht, hd]
    rw [this]
    exact hQ W hI
  intro fuel
  induction fuel with
  | zero =>
    intro listed a W hs _ hm hI hr hf hend
    have hall : ∀ j, j < ops.size → listed.getD j false = true := by
      have hl : (listed.toList.filter id).length = listed.toList.length := by simp at hf ⊢; omega
      have hfl := List.length_filter_eq_length_iff.1 hl
      intro j hj
      have hj' : j < listed.size := by omega
      have := hfl (listed[j]'hj') (by simp)
      simpa [Array.getD, hj'] using this
    refine ⟨?_, fin listed a W hm hI hall⟩
    apply List.eq_nil_iff_forall_not_mem.2
    intro j hj
    obtain ⟨h0, o, ho, _⟩ := mem_ready.1 hj
    have hlt : j < ops.size := (Array.getElem?_eq_some_iff.1 ho).1
    have h1 := hall j hlt
    have hj' : j < listed.size := by omega
    simp [Array.getD, hj'] at h0 h1
    rw [h0] at h1
    cases h1
  | succ fuel ih =>
    intro listed a W hs _ hm hI hr hf hend
    refine ⟨fun h => fin listed a W hm hI (hr h), fun i hi => ?_⟩
    obtain ⟨h0, o, ho, hrd⟩ := mem_ready.1 hi
    have hlt : i < ops.size := (Array.getElem?_eq_some_iff.1 ho).1
    have hsame := det_reads hck hm ho hrd
    have hsel : ∀ cs b, o.op ≠ .select cs b := by
      intro cs b h
      have hck2 := (Bool.and_eq_true _ _ ▸ hck).2
      have hoo := List.all_eq_true.1 hck2 o (by simpa using Array.mem_of_getElem? ho)
      simp [h, isSel] at hoo
    have he : execOp a.eval o = execOp c.eval o := execOp_congr o hsel fun x hx => eval_same fun t ht => hsame t (by
      subst ht
      exact List.mem_append_left _ (List.mem_filterMap.2 ⟨.tmp t, by simpa using hx, rfl⟩))
    have hwn : Region.wanted o (yielded ops a.tmps) = Region.wanted o (yielded ops c.tmps) := by
      unfold Region.wanted
      cases hg : o.guard with
      | none => rfl
      | some gw =>
        obtain ⟨g, want⟩ := gw
        have : yielded ops a.tmps g = yielded ops c.tmps g := by
          unfold yielded
          cases ht : (ops[g]?).bind (·.dst) with
          | none => rfl
          | some t =>
            simp only [Option.bind_some]
            rw [hsame t (by simp [Oper.looksAt, hg, ht])]
        simp only [this]
    have hD := hops o (by simpa using Array.mem_of_getElem? ho) W hI
    have hnext : ∀ v W', c.put o.dst v = c → Inv W' → wpAny P .any ops Q fuel (listed.setIfInBounds i true) (a.put o.dst v) W' := by
      intro v W' hv hI'
      refine ih _ _ _ (by simpa using hs) (fun _ _ => .inr trivial) (midway_put hnd hm ho hv) hI' (hend _ (by simpa using hs)) ?_ hend
      have hi' : i < listed.size := by omega
      have hfalse : listed[i] = false := by simpa [Array.getD, hi'] using h0
      have : ((listed.setIfInBounds i true).toList.filter id).length = (listed.toList.filter id).length + 1 := by
        rw [Array.toList_setIfInBounds]
        have key : ∀ (l : List Bool) (k : Nat) (hk : k < l.length), l[k] = false → ((l.set k true).filter id).length = (l.filter id).length + 1 := by
          intro l
          induction l with
          | nil => intro k hk; simp at hk
          | cons b l ihl =>
            intro k hk hb
            cases k with
            | zero => simp at hb; subst hb; simp
            | succ k =>
              simp at hb hk
              have := ihl k hk hb
              cases b <;> simp [this]
        exact key listed.toList i (by simpa using hi') (by simpa using hfalse)
      omega
    unfold wpOp
    simp only [ho]
    rw [hwn]
    split
    · rename_i hw
      rw [if_pos hw] at hD
      exact .inl (det_wp he hD hm.defers hnext)
    · rename_i hw
      rw [if_neg hw] at hD
      exact hnext _ _ hD hI

/-- Whatever is not done, something of it can be done: the edges lead back. -/
def backOk (ops : Array Oper) : Bool :=
  (List.range ops.size).all fun i => ((ops[i]?).map fun o => o.after.all fun e => !Region.binds .any e || decide (e.on < i)).getD true
theorem back_ready (hb : backOk ops = true) (l : Array Bool) (hs : l.size = ops.size) (hr : Region.ready .any ops l = []) : ∀ j, j < ops.size → l.getD j false = true := by
  intro j
  induction j using Nat.strongRecOn with
  | _ j ih =>
    intro hj
    have hj' : j < l.size := by omega
    cases hd : l.getD j false with
    | true => rfl
    | false =>
      exfalso
      have ho : ops[j]? = some ops[j] := Array.getElem?_eq_getElem hj
      have hbj := List.all_eq_true.1 hb j (List.mem_range.2 hj)
      simp only [ho, Option.map_some, Option.getD_some] at hbj
      have : j ∈ Region.ready .any ops l := mem_ready.2 ⟨by simpa [Array.getD, hj'] using hd, ops[j], ho, fun e he hbn => by
        have h1 := Array.all_eq_true_iff_forall_mem.1 hbj e he
        simp [hbn] at h1
        exact ih e.on h1 (by omega)⟩
      rw [hr] at this
      cases this

theorem wp_region_det {id : Nat} {l : List Oper} {a0 c : Act} {w : World} (vs : List Value) (Inv : World → Prop) (hm : P.follows .mixedOrders = true) (hck : (detOk l.toArray && backOk l.toArray) = true)
    (hc : putAll l vs a0 = c) (hI : Inv { w with drawn := w.drawn + 1 }) (hops : DetAll P l.toArray c Inv l) (hQ : ∀ W, Inv W → Q .normal c W) : (Code.region id l.toArray true).wp P Q a0 w := by
  simp only [Bool.and_eq_true] at hck
  refine wp_region_any hm ?_
  refine det_any (a0 := a0) hck.1 (by simpa using detAll_mem hops) hQ _ _ _ _ (by simp) (fun _ _ => .inr trivial) ?_ hI (back_ready hck.2 _ (by simp)) (by simp) (back_ready hck.2)
  refine ⟨by rw [← hc, putAll_size], by rw [← hc, putAll_defers], fun j o t hj hd hl => ?_, fun t ht => ?_⟩
  · simp only [Array.getD_eq_getD_getElem?, Array.getElem?_replicate] at hl
    split at hl <;> simp at hl
  · rw [← hc, putAll_other t l vs a0 fun o ho => ?_]
    obtain ⟨j, hj⟩ := List.mem_iff_getElem?.1 ho
    exact ht j o (by simpa using hj)
end
end Go.Proofs.YtliofoikejdjeaaDoor
/- The kinds of the program's data: a rule, a grammar; how they lie in memory. -/
namespace Go.Proofs.YtliofoikejdjeaaDoor
open Go.RowKit Go.Proofs.YtliofoikejdjeaaDoorW.PrintWords
set_option linter.unusedVariables false
set_option linter.unusedSimpArgs false

theorem info3 : (Tryd.prog.info? 3).map (fun i => (i.zero, i.size, i.bytes)) = some (some (.int .i64 0), 1, 8) := by kernel_rfl
theorem info9 : (Tryd.prog.info? 9).map (fun i => (i.zero, i.size, i.bytes)) = some (some (.string ⟨#[]⟩), 1, 16) := by kernel_rfl

/-- A rule. -/
structure Rl where
  left : Int
  right : List Int
  deriving DecidableEq
instance : Inhabited Rl := ⟨⟨0, []⟩⟩
def kInt : Kd Int := Kd.int .i64
def kRl : Kd Rl := Kd.iso (Kd.pair (Kd.int .i64) (Kd.slice 3 (Kd.int .i64))) (fun x : Rl => (x.left, x.right))
theorem kRl_open {w : World} {x : Rl} {cs : List Value} (h : kRl.K w x cs) : ∃ A c, cs = [.int .i64 x.left, .slice A x.right.length c] ∧ x.right.length ≤ c ∧ (Kd.int .i64).C w A x.right.length x.right := by
  obtain ⟨_, _, rfl, rfl, ⟨A1, c1, rfl, l1, g1⟩⟩ := h
  exact ⟨A1, c1, rfl, l1, g1⟩
theorem at_rl {w : World} {A : Option Addr} {n : Nat} {xs : List Rl} (h : Kd.C kRl w A n xs) (i : Nat) (h1 : i < n) : ∃ ad A1 c1, A = some ad ∧ w.cell? (ad.add (i * 2)) = some (.int .i64 (xs.getD i default).left) ∧ w.cell? ⟨(ad.add (i * 2)).block, (ad.add (i * 2)).off + 1, none⟩ = some (.slice A1 (xs.getD i default).right.length c1) ∧ (xs.getD i default).right.length ≤ c1 ∧ (Kd.int .i64).C w A1 (xs.getD i default).right.length (xs.getD i default).right := by
  obtain ⟨ad, c, e, _, hK, hc0⟩ := Kd.C_get h (default : Rl) (i : Int) (by omega) (by omega)
  have hc : ∀ j u, c[j]? = some u → w.cell? (ad.add (i * 2 + j)) = some u := hc0
  obtain ⟨A1, c1, rfl, l1, g1⟩ := kRl_open (by simpa using hK)
  exact ⟨ad, A1, c1, e, hc 0 _ rfl, by rw [← add_field _ _ 1 (by omega)]; exact hc 1 _ rfl, l1, g1⟩
theorem at_str {w : World} {A : Option Addr} {n : Nat} {xs : List ByteArray} (h : Kd.C Kd.string w A n xs) (i : Nat) (h1 : i < n) : ∃ ad, A = some ad ∧ w.cell? (ad.add i) = some (.string (xs.getD i default)) := by
  obtain ⟨ad, e, hc⟩ := Kd.at_string h (i : Int) (by omega) (by omega)
  exact ⟨ad, e, hc⟩

theorem at_int {w : World} {A : Option Addr} {n : Nat} {xs : List Int} (h : Kd.C (Kd.int .i64) w A n xs) (i : Nat) (h1 : i < n) : ∃ ad, A = some ad ∧ w.cell? (ad.add i) = some (.int .i64 (xs.getD i default)) := by
  obtain ⟨ad, e, hc⟩ := Kd.at_int h (i : Int) (by omega) (by omega)
  exact ⟨ad, e, hc⟩

/-- A grammar. -/
structure Gm where
  terms : List ByteArray
  nons : List ByteArray
  rules : List Rl
  start : Int
/-- Its value: four cells; it lies in w. -/
def gv (A0 A1 A2 : Option Addr) (c0 c1 c2 : Nat) (g : Gm) : Array Value := #[.slice A0 g.terms.length c0, .slice A1 g.nons.length c1, .slice A2 g.rules.length c2, .int .i64 g.start]
structure GmAt (w : World) (A0 A1 A2 : Option Addr) (c0 c1 c2 : Nat) (g : Gm) : Prop where
  terms : Kd.C Kd.string w A0 g.terms.length g.terms
  nons : Kd.C Kd.string w A1 g.nons.length g.nons
  rules : Kd.C kRl w A2 g.rules.length g.rules
  l0 : g.terms.length ≤ c0
  l1 : g.nons.length ≤ c1
  l2 : g.rules.length ≤ c2
  m0 : g.terms.length ≤ 8796093022208
  m1 : g.nons.length ≤ 8796093022208
  m2 : g.rules.length ≤ 8796093022208
theorem GmAt.below {w w' : World} {A0 A1 A2 : Option Addr} {c0 c1 c2 : Nat} {g : Gm} (h : GmAt w A0 A1 A2 c0 c1 c2 g) (hb : Below w.heap.size w w') : GmAt w' A0 A1 A2 c0 c1 c2 g :=
  ⟨Kd.C_below h.terms hb, Kd.C_below h.nons hb, Kd.C_below h.rules hb, h.l0, h.l1, h.l2, h.m0, h.m1, h.m2⟩
/-- All old cells and marks read as before. -/
theorem bcell {W w1 : World} (hb : Below W.heap.size W w1) : (∀ b o, b < W.heap.size → w1.cell? ⟨b, o, none⟩ = W.cell? ⟨b, o, none⟩) ∧ (∀ b o, b < W.heap.size → w1.frozen? ⟨b, o, none⟩ = W.frozen? ⟨b, o, none⟩) :=
  ⟨fun b o h => hb.cell (p := ⟨b, o, none⟩) h, fun b o h => hb.frozen (p := ⟨b, o, none⟩) h⟩
theorem below_new {w w1 : World} {o : Obj} (hb : Below (w.alloc o).heap.size (w.alloc o) w1) : Below w.heap.size w w1 :=
  ((Below.refl _ _).alloc (Nat.le_refl _) o).trans (hb.mono (by simp))
theorem below_new2 {w w1 : World} {o p : Obj} (hb : Below ((w.alloc o).alloc p).heap.size ((w.alloc o).alloc p) w1) : Below w.heap.size w w1 :=
  below_new (below_new hb)
theorem rint {k : IntKind} {a b : Int} (h : a = b) : Ending.returned (.int k a) = .returned (.int k b) := by rw [h]
theorem rbool {a b : Bool} (h : a = b) : Ending.returned (.bool a) = .returned (.bool b) := by rw [h]
end Go.Proofs.YtliofoikejdjeaaDoor
/- gram: the small functions. -/
namespace Go.Proofs.YtliofoikejdjeaaDoor
open Go.RowKit Go.Proofs.YtliofoikejdjeaaDoorW.PrintWords
set_option linter.unusedVariables false
set_option linter.unusedSimpArgs false
def Gm.top (g : Gm) : Int := g.terms.length + g.nons.length
def Gm.isTerm (g : Gm) (s : Int) : Bool := decide (1 ≤ s) && decide (s ≤ g.terms.length)
def Gm.isNon (g : Gm) (s : Int) : Bool := decide (g.terms.length < s) && decide (s ≤ g.top)
def Gm.names (g : Gm) : List ByteArray := g.terms ++ g.nons
/-- A symbol's name. -/
def Gm.nameOf (g : Gm) (s : Int) : ByteArray := if s = 0 then ⟨#[36]⟩ else if 1 ≤ s ∧ s ≤ g.top then g.names.getD (s.toNat - 1) default else ⟨#[]⟩
set_option linter.unusedVariables false
set_option linter.unusedSimpArgs false
theorem gcells {w : World} {b : Nat} {v0 v1 v2 v3 : Value} {t : TypeId} (h : w.heap[b]? = some (.cells #[v0, v1, v2, v3] t (0, 0))) : w.cell? ⟨b, 0, none⟩ = some v0 ∧ w.cell? ⟨b, 1, none⟩ = some v1 ∧ w.cell? ⟨b, 2, none⟩ = some v2 ∧ w.cell? ⟨b, 3, none⟩ = some v3 :=
  ⟨blk_cell h 0, blk_cell h 1, blk_cell h 2, blk_cell h 3⟩
section
variable {w : World} {A0 A1 A2 : Option Addr} {c0 c1 c2 : Nat} {g : Gm}

theorem gram_Top (h : GmAt w A0 A1 A2 c0 c1 c2 g) : Calls Tryd.prog 70 #[.agg (gv A0 A1 A2 c0 c1 c2 g)] w fun e w' => e = .returned (.int .i64 g.top) ∧ Below w.heap.size w w' := by
  have h0 := h.m0
  have h1 := h.m1
  clear h
  unfold gv Gm.top
  go_enter Tryd.func70, Tryd.ntmps70
  go_wp2
  go_ret
  exact ⟨rfl, (Below.refl _ _).alloc (Nat.le_refl _) _⟩

theorem gram_Term (h : GmAt w A0 A1 A2 c0 c1 c2 g) (s : Int) : Calls Tryd.prog 44 #[.agg (gv A0 A1 A2 c0 c1 c2 g), .int .i64 s] w fun e w' => e = .returned (.bool (g.isTerm s)) ∧ Below w.heap.size w w' := by
  have h0 := h.m0
  have h1 := h.m1
  clear h
  unfold gv Gm.isTerm
  by_cases hs : 1 ≤ s
  all_goals
    go_enter Tryd.func44, Tryd.ntmps44
    go_wp2
    go_ret
    exact ⟨rbool (by first | (simp [hs]; done) | (simp; omega)), (Below.refl _ _).alloc (Nat.le_refl _) _⟩

theorem gram_Non (h : GmAt w A0 A1 A2 c0 c1 c2 g) (s : Int) : Calls Tryd.prog 45 #[.agg (gv A0 A1 A2 c0 c1 c2 g), .int .i64 s] w fun e w' => e = .returned (.bool (g.isNon s)) ∧ Below w.heap.size w w' := by
  have h0 := h.m0
  have h1 := h.m1
  have ht := gram_Top (h.below ((Below.refl _ _).alloc (Nat.le_refl _) (.cells (gv A0 A1 A2 c0 c1 c2 g) 30)))
  clear h
  unfold gv at *
  by_cases hs : (g.terms.length : Int) < s
  · go_enter Tryd.func45, Tryd.ntmps45
    go_wp2_with (go_at_call 70; refine ht.mono ?_; rintro e w' ⟨rfl, hb⟩)
    go_ret
    exact ⟨by simp [Gm.isNon, hs], below_new hb⟩
  · go_enter Tryd.func45, Tryd.ntmps45
    go_wp2
    go_ret
    exact ⟨rbool (by simp [Gm.isNon]; omega), (Below.refl _ _).alloc (Nat.le_refl _) _⟩
end
end Go.Proofs.YtliofoikejdjeaaDoor
/- Plain words: classes of bytes, spans, places in lists. -/
namespace Go.Proofs.YtliofoikejdjeaaDoor
open Go.RowKit Go.Proofs.YtliofoikejdjeaaDoorW.PrintWords
set_option linter.unusedVariables false
set_option linter.unusedSimpArgs false
def alpha (n : Int) : Bool := decide (65 ≤ n ∧ n ≤ 90) || decide (97 ≤ n ∧ n ≤ 122)
def ltr (n : Int) : Int := if 48 ≤ n ∧ n ≤ 57 then 3 else if n = 95 ∨ alpha n = true then 4 else 8
def cls (n : Int) : Int :=
  if n = 0 then 0 else if n = 32 ∨ n = 9 then 1 else if n = 10 then 2
  else if n = 38 ∨ n = 124 ∨ n = 59 ∨ n = 60 ∨ n = 62 ∨ n = 40 ∨ n = 41 then 5
  else if n = 39 ∨ n = 34 ∨ n = 92 ∨ n = 96 then 6 else if n = 36 then 7 else ltr n
theorem or32 : ∀ c : UInt8, (97 ≤ bits BinOp.or IntKind.u8 (c.toNat : Int) 32 ∧ bits BinOp.or IntKind.u8 (c.toNat : Int) 32 ≤ 122) ↔ alpha c.toNat = true := by
  have h : ∀ n : Fin 256, (97 ≤ bits BinOp.or IntKind.u8 (n.val : Int) 32 ∧ bits BinOp.or IntKind.u8 (n.val : Int) 32 ≤ 122) ↔ alpha n.val = true := by decide +kernel
  intro c
  exact h ⟨c.toNat, c.toNat_lt⟩
theorem cls_hi (n : Int) (h : 128 ≤ n) : cls n = 8 := by
  have : alpha n = false := by simp [alpha]; omega
  unfold cls ltr
  rw [this]
  (repeat' split) <;> first | rfl | (exfalso; omega) | simp_all
def nameOk (s : ByteArray) : Bool := decide (0 < s.size) && decide (∀ (i : Nat) (h : i < s.size), cls (s[i]'h).toNat = 4 ∨ cls (s[i]'h).toNat = 3 ∧ 0 < i)
theorem toList_nil {s : ByteArray} (h : s.size = 0) : s.toList = [] := by
  rw [ByteArray.toList_eq]
  exact List.eq_nil_of_length_eq_zero (by rw [data_length]; exact h)
theorem toList_ne {s : ByteArray} (h : ¬ s.size = 0) : s.toList ≠ [] := by
  rw [ByteArray.toList_eq]
  intro h'
  apply h
  rw [← data_length, h']
  rfl
/-- How many bytes from a place on are so. -/
def spanS (p : UInt8 → Bool) (s : ByteArray) (i : Nat) : Nat := ((s.data.toList.drop i).takeWhile p).length
theorem spanS_eq {p : UInt8 → Bool} {s : ByteArray} {i n : Nat} (hl : i + n ≤ s.size) (h1 : ∀ (j : Nat) (h : i + j < s.size), j < n → p (s[i + j]'h) = true) (h2 : ∀ h : i + n < s.size, p (s[i + n]'h) = false) : spanS p s i = n := by
  unfold spanS
  have hlen := data_length s
  induction n generalizing i with
  | zero =>
    by_cases h : i < s.size
    · rw [List.drop_eq_getElem_cons (by omega), List.takeWhile_cons]
      have := h2 (by omega)
      simp only [Nat.add_zero] at this
      rw [show s.data.toList[i]'(by omega) = s[i]'h from rfl, this]
      rfl
    · rw [List.drop_eq_nil_of_le (by omega)]
      rfl
  | succ n ih =>
    have h : i < s.size := by omega
    rw [List.drop_eq_getElem_cons (by omega), List.takeWhile_cons]
    have := h1 0 (by omega) (by omega)
    simp only [Nat.add_zero] at this
    rw [show s.data.toList[i]'(by omega) = s[i]'h from rfl, this]
    simp only [if_true, List.length_cons]
    rw [ih (by omega) (fun j hj hjn => ?_) (fun hh => ?_)]
    · have := h1 (j + 1) (by omega) (by omega)
      simpa [Nat.add_assoc, Nat.add_comm 1 j] using this
    · have := h2 (by omega)
      simpa [Nat.add_assoc, Nat.add_comm 1 n] using this
theorem spanS_le (p : UInt8 → Bool) (s : ByteArray) (i : Nat) (hi : i ≤ s.size) : i + spanS p s i ≤ s.size := by
  unfold spanS
  have := (List.takeWhile_sublist p (l := s.data.toList.drop i)).length_le
  rw [List.length_drop, data_length] at this
  omega
def insideB (c : UInt8) : Bool := decide (32 < c.toNat ∧ c.toNat ≤ 126) && decide (c.toNat ≠ 39)
/-- A byte, as a number; 0 behind the end. -/
def byteN (s : ByteArray) (i : Nat) : Nat := if h : i < s.size then (s[i]'h).toNat else 0
theorem byteN_at {s : ByteArray} {i : Nat} (h : i < s.size) : (s[i]'h).toNat = byteN s i := by simp [byteN, h]
/-- What is quoted from a place on: how many bytes; or an error's number (0: none), and its place. -/
def quotedS (s : ByteArray) (a : Nat) : Int × Int × Int :=
  let m := spanS insideB s (a + 1)
  if s.size ≤ a + (1 + m) then (0, 4, s.size) else if byteN s (a + (1 + m)) ≠ 39 ∨ m = 0 then (0, 2, a + (1 + m)) else if 23 ≤ m then (0, 5, a) else (1 + m + 1, 0, 0)
def idxF {α : Type} (p : α → Bool) (xs : List α) : Int := match xs.findIdx? p with | some i => i | none => -1
theorem idxF_hit {α : Type} [Inhabited α] {p : α → Bool} {xs : List α} {k : Nat} (hk : k < xs.length) (h1 : p (xs.getD k default) = true) (h2 : ∀ j, j < k → p (xs.getD j default) = false) : idxF p xs = k := by
  unfold idxF
  have : xs.findIdx? p = some k := by
    rw [List.findIdx?_eq_some_iff_getElem]
    refine ⟨hk, ?_, fun j hj => ?_⟩
    · simpa [List.getD_eq_getElem?_getD, hk] using h1
    · have := h2 j hj
      simpa [List.getD_eq_getElem?_getD, show j < xs.length by omega] using this
  rw [this]
theorem idxF_miss {α : Type} [Inhabited α] {p : α → Bool} {xs : List α} (h2 : ∀ j, j < xs.length → p (xs.getD j default) = false) : idxF p xs = -1 := by
  unfold idxF
  have : xs.findIdx? p = none := by
    rw [List.findIdx?_eq_none_iff]
    intro x hx
    obtain ⟨j, hj, rfl⟩ := List.mem_iff_getElem.1 hx
    have := h2 j hj
    simpa [List.getD_eq_getElem?_getD, hj] using this
  rw [this]
theorem getD_mem {α : Type} [Inhabited α] {xs : List α} {k : Nat} (h : k < xs.length) : xs.getD k default ∈ xs := by
  rw [List.getD_eq_getElem?_getD, List.getElem?_eq_getElem h]
  exact List.getElem_mem h
theorem idxF_any {α : Type} (p : α → Bool) (xs : List α) : decide (0 ≤ idxF p xs) = xs.any p := by
  unfold idxF
  cases h : xs.findIdx? p with
  | none =>
    rw [List.findIdx?_eq_none_iff] at h
    simpa using h
  | some i =>
    obtain ⟨h1, h2, _⟩ := List.findIdx?_eq_some_iff_getElem.1 h
    have : xs.any p = true := List.any_eq_true.2 ⟨_, List.getElem_mem h1, h2⟩
    simp [this]
theorem str_ne {x y : ByteArray} (h : x ≠ y) : (x.toList == y.toList) = false := by
  have : x.toList ≠ y.toList := by
    rw [ByteArray.toList_eq, ByteArray.toList_eq]
    exact fun e => h (WideShapes.bytes_inj e)
  simpa using this
def placeS (xs : List ByteArray) (s : ByteArray) : Int := idxF (fun x => decide (x = s)) xs
theorem place_mem (xs : List ByteArray) (s : ByteArray) : 0 ≤ placeS xs s ↔ s ∈ xs := by
  have h := idxF_any (fun x => decide (x = s)) xs
  rw [Bool.eq_iff_iff] at h
  simpa [placeS] using h
/-- A function value that tells p of every x that lies in memory as V says; it turns nothing. -/
def PredV {α : Type} (w : World) (fv : Value) (V : World → α → Value → Prop) (p : α → Bool) : Prop :=
  ∃ g lb, fv = .func (.func g) #[] lb ∧ (∀ args W, (callFunc g args).run Tryd.prog W = .ok (.enter g args) W) ∧
    ∀ W x v, Below w.heap.size w W → V W x v → Calls Tryd.prog g (#[v] ++ lb) W fun e w' => e = .returned (.bool (p x)) ∧ Below W.heap.size W w'
theorem PredV.below {α : Type} {w w1 : World} {fv : Value} {V : World → α → Value → Prop} {p : α → Bool} (h : PredV w fv V p) (hb : Below w.heap.size w w1) : PredV w1 fv V p := by
  obtain ⟨g, lb, e, he, hc⟩ := h
  exact ⟨g, lb, e, he, fun W x v hW hV => hc W x v (hb.trans (hW.mono hb.size)) hV⟩
def Vstr (_ : World) (x : ByteArray) (v : Value) : Prop := v = .string x
def Vint (_ : World) (x : Int) (v : Value) : Prop := v = .int .i64 x
def Vrl (w : World) (x : Rl) (v : Value) : Prop := ∃ A c, v = .agg #[.int .i64 x.left, .slice A x.right.length c] ∧ x.right.length ≤ c ∧ (Kd.int .i64).C w A x.right.length x.right
def Vu8 (_ : World) (x : UInt8) (v : Value) : Prop := v = .int .u8 x.toNat
end Go.Proofs.YtliofoikejdjeaaDoor
/- The document's Top, Place, Ints, SameRule. -/
namespace Go.Proofs.YtliofoikejdjeaaDoor
open Go.RowKit Go.Proofs.YtliofoikejdjeaaDoorW.PrintWords
set_option linter.unusedVariables false
set_option linter.unusedSimpArgs false
section
variable {w : World} {A0 A1 A2 : Option Addr} {c0 c1 c2 : Nat} {g : Gm}
theorem ref06_Top (h : GmAt w A0 A1 A2 c0 c1 c2 g) : Calls Tryd.prog 35 #[.agg (gv A0 A1 A2 c0 c1 c2 g)] w fun e w' => e = .returned (.int .i64 g.top) ∧ Below w.heap.size w w' := by
  have h0 := h.m0
  have h1 := h.m1
  clear h
  unfold gv Gm.top
  go_enter Tryd.func35, Tryd.ntmps35
  go_wp2
  go_ret
  exact ⟨rfl, (Below.refl _ _).alloc (Nat.le_refl _) _⟩

end
set_option linter.unusedVariables false
set_option linter.unusedSimpArgs false
theorem ref04_Place {w : World} {A : Option Addr} {c : Nat} {xs : List ByteArray} (hx : Kd.C Kd.string w A xs.length xs) (s : ByteArray) :
    Calls Tryd.prog 51 #[.slice A xs.length c, .string s] w fun e w' => e = .returned (.int .i64 (placeS xs s)) ∧ w' = w := by
  have hm := Kd.C_max hx
  have HX := Aside0.mk hx
  clear hx
  go_enter Tryd.func51, Tryd.ntmps51
  go_wp2
  go_loop [5] (fun i => ∃ k : Nat, k ≤ xs.length ∧ i = .int .i64 k ∧ Aside0 (∀ j, j < k → decide (xs.getD j default = s) = false)) (fun i => xs.length - (intOf i).toNat)
  case atStart => exact ⟨0, Nat.zero_le _, rfl, ⟨fun j hj => absurd hj (Nat.not_lt_zero _)⟩⟩
  case round =>
    obtain ⟨k, hk, rfl, AF⟩ := hrel
    by_cases hlt : k < xs.length
    · have hltz : (k : Int) < (xs.length : Int) := by omega
      obtain ⟨ad, rfl, l2⟩ := at_str HX.out k hlt
      obtain ⟨y, hy⟩ : ∃ y, xs.getD k default = y := ⟨_, rfl⟩
      rw [hy] at l2
      have HY := Aside0.mk hy
      clear hy
      by_cases e : y = s
      · subst e
        go_wp2
        go_ret
        exact ⟨rint (idxF_hit hlt (decide_eq_true HY.out) AF.out).symm, rfl⟩
      · have hne := str_ne e
        have HE := Aside0.mk e
        clear e
        go_wp2
        go_round
        case rel =>
          refine ⟨k + 1, by omega, by go_num, ⟨fun j hj => ?_⟩⟩
          by_cases e : j = k
          · subst e
            exact decide_eq_false (by rw [HY.out]; exact HE.out)
          · exact AF.out j (by omega)
        case measure => simp [intOf]; omega
    · have hltz : ¬ (k : Int) < (xs.length : Int) := by omega
      obtain rfl : k = xs.length := by omega
      go_wp2
      go_ret
      exact ⟨rint (idxF_miss AF.out).symm, rfl⟩
theorem eq_lists {α : Type} [Inhabited α] [DecidableEq α] {a b : List α} (hl : a.length = b.length) (h : ∀ j, j < a.length → a.getD j default = b.getD j default) : a = b := by
  apply List.ext_getElem hl
  intro j h1 h2
  have := h j h1
  simpa [List.getD_eq_getElem?_getD, h1, h2] using this
section
variable {w : World} {A B : Option Addr} {c d : Nat} {xs ys : List Int}
set_option maxHeartbeats 1000000 in
theorem ref06_Ints (hx : Kd.C (Kd.int .i64) w A xs.length xs) (hy : Kd.C (Kd.int .i64) w B ys.length ys) :
    Calls Tryd.prog 53 #[.slice A xs.length c, .slice B ys.length d] w fun e w' => e = .returned (.bool (decide (xs = ys))) ∧ ∃ n, w' = w.drewN n := by
  have hm := Kd.C_max hx
  have hm2 := Kd.C_max hy
  have HX := Aside0.mk hx
  have HY := Aside0.mk hy
  clear hx hy
  by_cases hl : xs.length = ys.length
  · have HL := Aside0.mk hl
    rw [← hl]
    clear hl
    go_enter Tryd.func53, Tryd.ntmps53
    go_wp2
    go_loopw [5] (fun i wr => ∃ k : Nat, k ≤ xs.length ∧ i = .int .i64 k ∧ Aside0 (∃ n, wr = w.drewN n) ∧ Aside0 (∀ j, j < k → xs.getD j default = ys.getD j default)) (fun i _ => xs.length - (intOf i).toNat)
    case atStart => exact ⟨0, Nat.zero_le _, rfl, ⟨0, rfl⟩, ⟨fun j hj => absurd hj (Nat.not_lt_zero _)⟩⟩
    case round =>
      obtain ⟨k, hk, rfl, ⟨n, rfl⟩, AF⟩ := hrel
      by_cases hlt : k < xs.length
      · have hltz : (k : Int) < (xs.length : Int) := by omega
        obtain ⟨ad, rfl, l2⟩ := at_int HX.out k hlt
        obtain ⟨bd, rfl, l3⟩ := at_int HY.out k (by rw [← HL.out]; exact hlt)
        obtain ⟨u, hu⟩ : ∃ u, xs.getD k default = u := ⟨_, rfl⟩
        obtain ⟨v, hv⟩ : ∃ v, ys.getD k default = v := ⟨_, rfl⟩
        rw [hu] at l2
        rw [hv] at l3
        have HU := Aside0.mk hu
        have HV := Aside0.mk hv
        clear hu hv
        by_cases huv : u = v
        · subst huv
          go_wp2
          go_quiet (fail)
          go_wp2
          go_roundw
          case rel =>
            refine ⟨k + 1, by omega, by go_num, ⟨_, rfl⟩, ⟨fun j hj => ?_⟩⟩
            by_cases e : j = k
            · subst e
              rw [HU.out, HV.out]
            · exact AF.out j (by omega)
          case measure => simp [intOf]; omega
        · have huv' : (u != v) = true := by simpa using huv
          have HN := Aside0.mk huv
          clear huv
          go_wp2
          go_quiet (fail)
          go_wp2
          go_ret
          exact ⟨rbool (decide_eq_false fun h => HN.out (by rw [← HU.out, ← HV.out, h])).symm, _, World.drewN_drewN ..⟩
      · have hltz : ¬ (k : Int) < (xs.length : Int) := by omega
        go_wp2
        go_ret
        exact ⟨rbool (decide_eq_true (eq_lists HL.out fun j hj => AF.out j (by omega))).symm, _, rfl⟩
  · have hl' : ((xs.length : Int) != (ys.length : Int)) = true := by simp; omega
    have HN := Aside0.mk hl
    clear hl
    go_enter Tryd.func53, Tryd.ntmps53
    go_wp2
    go_ret
    exact ⟨rbool (decide_eq_false fun h => HN.out (by rw [h])).symm, 0, rfl⟩
end
/-- Two rules as the callee is given them. -/
theorem rl_eq (a b : Rl) : decide (a = b) = (decide (a.left = b.left) && decide (a.right = b.right)) := by
  obtain ⟨a1, a2⟩ := a
  obtain ⟨b1, b2⟩ := b
  rw [Bool.eq_iff_iff]
  simp
set_option maxHeartbeats 1000000 in
theorem ref06_SameRule {w : World} {A B : Option Addr} {c d : Nat} {x y : Rl} (hx : Kd.C (Kd.int .i64) w A x.right.length x.right) (hy : Kd.C (Kd.int .i64) w B y.right.length y.right) :
    Calls Tryd.prog 33 #[.agg #[.int .i64 x.left, .slice A x.right.length c], .agg #[.int .i64 y.left, .slice B y.right.length d]] w fun e w' => e = .returned (.bool (decide (x = y))) ∧ Below w.heap.size w w' := by
  have hb0 := below_alloc (below_alloc (Below.refl _ w) (.cells #[.int .i64 x.left, .slice A x.right.length c] 74)) (.cells #[.int .i64 y.left, .slice B y.right.length d] 74)
  have he := ref06_Ints (c := c) (d := d) (Kd.C_below hx hb0) (Kd.C_below hy hb0)
  rw [rl_eq]
  clear hx hy hb0
  generalize decide (x.right = y.right) = b at *
  obtain ⟨x1, x2⟩ := x
  obtain ⟨y1, y2⟩ := y
  simp only at *
  by_cases h1 : x1 = y1
  · subst h1
    go_enter Tryd.func33, Tryd.ntmps33
    go_wp2_with (go_at_call 53; refine he.mono ?_; rintro e w' ⟨rfl, n, rfl⟩)
    go_ret
    exact ⟨rbool (by simp), pw_below_drewN (below_alloc (below_alloc (Below.refl _ _) _) _) _⟩
  · have h1' : (x1 == y1) = false := by simpa using h1
    have HN := Aside0.mk h1
    clear h1
    go_enter Tryd.func33, Tryd.ntmps33
    go_wp2
    go_ret
    exact ⟨rbool (by simp [HN.out]), below_alloc (below_alloc (Below.refl _ _) _) _⟩
end Go.Proofs.YtliofoikejdjeaaDoor
/- posix, oper: operators and reserved words, by their numbers: the program's and the document's. -/
namespace Go.Proofs.YtliofoikejdjeaaDoor
open Go.RowKit Go.Proofs.YtliofoikejdjeaaDoorW.PrintWords
set_option linter.unusedVariables false
set_option linter.unusedSimpArgs false
def operTexts : List ByteArray := [⟨#[]⟩, ⟨#[38, 38]⟩, ⟨#[124, 124]⟩, ⟨#[59, 59]⟩, ⟨#[59]⟩, ⟨#[38]⟩, ⟨#[124]⟩, ⟨#[40]⟩, ⟨#[41]⟩, ⟨#[60]⟩, ⟨#[62]⟩, ⟨#[62, 62]⟩, ⟨#[60, 60]⟩, ⟨#[60, 60, 45]⟩, ⟨#[60, 38]⟩, ⟨#[62, 38]⟩, ⟨#[60, 62]⟩, ⟨#[62, 124]⟩]
def resWords : List ByteArray := [⟨#[105, 102]⟩, ⟨#[116, 104, 101, 110]⟩, ⟨#[101, 108, 115, 101]⟩, ⟨#[101, 108, 105, 102]⟩, ⟨#[102, 105]⟩, ⟨#[100, 111]⟩, ⟨#[100, 111, 110, 101]⟩, ⟨#[99, 97, 115, 101]⟩, ⟨#[101, 115, 97, 99]⟩, ⟨#[119, 104, 105, 108, 101]⟩, ⟨#[117, 110, 116, 105, 108]⟩, ⟨#[102, 111, 114]⟩, ⟨#[123]⟩, ⟨#[125]⟩, ⟨#[33]⟩, ⟨#[105, 110]⟩]
def opText (n : Int) : ByteArray := if 0 ≤ n ∧ n < 18 then operTexts.getD n.toNat default else ⟨#[]⟩
def opS (n : Int) : Int := if opText n = ⟨#[]⟩ then 0 else 5 + n
def resS (s : ByteArray) : Int := if placeS resWords s < 0 then 0 else 23 + placeS resWords s
def spellS (t : Int) : ByteArray :=
  if t = 1 then ⟨#[39, 39]⟩ else if t = 2 then ⟨#[120, 61]⟩ else if t = 3 then ⟨#[120]⟩ else if t = 4 then ⟨#[49]⟩ else if t = 5 then ⟨#[10]⟩
  else if 23 ≤ t ∧ t ≤ 38 then resWords.getD (t - 23).toNat default else if 5 < t ∧ t < 23 then opText (t - 5) else ⟨#[]⟩
/-- The variables, as the program's text lays them. -/
def TextsAt (w : World) : Prop := ∀ i, i < 18 → w.cell? ⟨1, i, none⟩ = some (.string (operTexts.getD i default))
def WordsAt (w : World) : Prop := ∀ i, i < 16 → w.cell? ⟨0, i, none⟩ = some (.string (resWords.getD i default))
theorem TextsAt.below {w w' : World} (h : TextsAt w) (hb : Below w.heap.size w w') : TextsAt w' := fun i hi => (hb.cell (World.block_lt_of_cell? _ _ (h i hi))).trans (h i hi)
theorem WordsAt.below {w w' : World} (h : WordsAt w) (hb : Below w.heap.size w w') : WordsAt w' := fun i hi => (hb.cell (World.block_lt_of_cell? _ _ (h i hi))).trans (h i hi)
theorem rstr {a b : ByteArray} (h : a = b) : Ending.returned (.string a) = .returned (.string b) := by rw [h]
theorem oper_Text {w : World} (h : TextsAt w) (n : Int) : Calls Tryd.prog 27 #[.int .i64 n] w fun e w' => e = .returned (.string (opText n)) ∧ w' = w := by
  by_cases h1 : n < 0
  · have hr : opText n = ⟨#[]⟩ := by unfold opText; rw [if_neg (by omega)]
    rw [hr]
    clear h hr
    go_enter Tryd.func27, Tryd.ntmps27
    go_wp2
    go_ret
    exact ⟨rfl, rfl⟩
  · by_cases h2 : 18 ≤ n
    · have hr : opText n = ⟨#[]⟩ := by unfold opText; rw [if_neg (by omega)]
      rw [hr]
      clear h hr
      go_enter Tryd.func27, Tryd.ntmps27
      go_wp2
      go_ret
      exact ⟨rfl, rfl⟩
    · obtain ⟨k, rfl⟩ : ∃ k : Nat, n = k := ⟨n.toNat, by omega⟩
      have hk : k < 18 := by omega
      have hc := h k hk
      have hr : opText k = operTexts.getD k default := by unfold opText; rw [if_pos (by omega)]; rfl
      rw [hr]
      obtain ⟨y, hy⟩ : ∃ y, operTexts.getD k default = y := ⟨_, rfl⟩
      rw [hy] at hc ⊢
      have hkz : (k : Int) < 18 := by omega
      clear h hr hy h1 h2
      go_enter Tryd.func27, Tryd.ntmps27
      go_wp2
      go_ret
      exact ⟨rfl, rfl⟩
set_option maxHeartbeats 4000000 in
theorem ref23_Text (n : Int) (w : World) : Calls Tryd.prog 19 #[.int .i64 n] w fun e w' => e = .returned (.string (opText n)) ∧ w' = w := by
  go_enter Tryd.func19, Tryd.ntmps19
  go_wp2
  all_goals
    go_ret
    refine ⟨rstr ?_, rfl⟩
    try simp only [beq_iff_eq, beq_eq_false_iff_ne, ne_eq] at *
    first
      | (subst_vars; rfl)
      | (unfold opText
         by_cases hn : 0 ≤ n ∧ n < 18
         · rw [if_pos hn]
           obtain rfl : n = 0 := by omega
           rfl
         · rw [if_neg hn])
theorem op_ne {n : Int} (h : opText n ≠ ⟨#[]⟩) : 1 ≤ n ∧ n ≤ 17 := by
  unfold opText at h
  split at h
  · rename_i hn
    refine ⟨?_, by omega⟩
    by_cases h0 : n = 0
    · subst h0
      exact absurd rfl h
    · omega
  · exact absurd rfl h
theorem bytes_ne {t : ByteArray} (h : t ≠ ⟨#[]⟩) : t.toList.isEmpty = false ∧ t.toList ≠ [] := by
  have h2 : t.toList ≠ [] := by
    intro e
    apply h
    apply WideShapes.bytes_inj
    rw [← ByteArray.toList_eq, e]
  exact ⟨by cases e : t.toList <;> simp_all, h2⟩
theorem posix_Op {w : World} (h : TextsAt w) (n : Int) : Calls Tryd.prog 8 #[.int .i64 n] w fun e w' => e = .returned (.int .i64 (opS n)) ∧ w' = w := by
  have HC := Aside0.mk (oper_Text h n)
  obtain ⟨t, ht⟩ : ∃ t, opText n = t := ⟨_, rfl⟩
  unfold opS
  rw [ht] at HC ⊢
  by_cases hq : t = ⟨#[]⟩
  · rw [if_pos hq]
    subst hq
    clear ht
    go_enter Tryd.func8, Tryd.ntmps8
    go_wp2_with (go_at_call 27; refine HC.out.mono ?_; rintro e w' ⟨rfl, rfl⟩)
    go_ret
    exact ⟨rfl, rfl⟩
  · rw [if_neg hq]
    obtain ⟨b1, b2⟩ := op_ne (n := n) (by rw [ht]; exact hq)
    obtain ⟨n1, n2⟩ := bytes_ne hq
    clear ht hq
    go_enter Tryd.func8, Tryd.ntmps8
    go_wp2_with (go_at_call 27; refine HC.out.mono ?_; rintro e w' ⟨rfl, rfl⟩)
    go_ret
    exact ⟨rfl, rfl⟩
theorem ref30_Op (n : Int) (w : World) : Calls Tryd.prog 9 #[.int .i64 n] w fun e w' => e = .returned (.int .i64 (opS n)) ∧ w' = w := by
  have HC := Aside0.mk (ref23_Text n w)
  obtain ⟨t, ht⟩ : ∃ t, opText n = t := ⟨_, rfl⟩
  unfold opS
  rw [ht] at HC ⊢
  by_cases hq : t = ⟨#[]⟩
  · rw [if_pos hq]
    subst hq
    clear ht
    go_enter Tryd.func9, Tryd.ntmps9
    go_wp2_with (go_at_call 19; refine HC.out.mono ?_; rintro e w' ⟨rfl, rfl⟩)
    go_ret
    exact ⟨rfl, rfl⟩
  · rw [if_neg hq]
    obtain ⟨b1, b2⟩ := op_ne (n := n) (by rw [ht]; exact hq)
    obtain ⟨n1, n2⟩ := bytes_ne hq
    clear ht hq
    go_enter Tryd.func9, Tryd.ntmps9
    go_wp2_with (go_at_call 19; refine HC.out.mono ?_; rintro e w' ⟨rfl, rfl⟩)
    go_ret
    exact ⟨rfl, rfl⟩
theorem resS_hit {s : ByteArray} {k : Nat} (hk : k < 16) (h : resWords.getD k default = s) (h2 : ∀ j, j < k → decide (resWords.getD j default = s) = false) : resS s = 23 + (k : Int) := by
  unfold resS placeS
  rw [idxF_hit (p := fun x => decide (x = s)) (xs := resWords) (k := k) hk (decide_eq_true h) h2, if_neg (by omega)]
theorem resS_miss {s : ByteArray} (h2 : ∀ j, j < 16 → decide (resWords.getD j default = s) = false) : resS s = 0 := by
  unfold resS placeS
  rw [idxF_miss (p := fun x => decide (x = s)) (xs := resWords) h2]
  rfl
set_option maxHeartbeats 1000000 in
theorem posix_Reserved {w : World} (h : WordsAt w) (s : ByteArray) : Calls Tryd.prog 10 #[.string s] w fun e w' => e = .returned (.int .i64 (resS s)) ∧ w' = w := by
  have HX := Aside0.mk h
  clear h
  go_enter Tryd.func10, Tryd.ntmps10
  go_wp2
  go_loop [4] (fun i => ∃ k : Nat, k ≤ 16 ∧ i = .int .i64 k ∧ Aside0 (∀ j, j < k → decide (resWords.getD j default = s) = false)) (fun i => 16 - (intOf i).toNat)
  case atStart => exact ⟨0, Nat.zero_le _, rfl, ⟨fun j hj => absurd hj (Nat.not_lt_zero _)⟩⟩
  case round =>
    obtain ⟨k, hk, rfl, AF⟩ := hrel
    by_cases hlt : k < 16
    · have hltz : (k : Int) < 16 := by omega
      have l2 := HX.out k hlt
      obtain ⟨y, hy⟩ : ∃ y, resWords.getD k default = y := ⟨_, rfl⟩
      rw [hy] at l2
      have HY := Aside0.mk hy
      clear hy
      by_cases e : y = s
      · subst e
        go_wp2
        go_ret
        exact ⟨rint (resS_hit hlt HY.out AF.out).symm, rfl⟩
      · have hne := str_ne e
        have HE := Aside0.mk e
        clear e
        go_wp2
        go_round
        case rel =>
          refine ⟨k + 1, by omega, by go_num, ⟨fun j hj => ?_⟩⟩
          by_cases e : j = k
          · subst e
            exact decide_eq_false (by rw [HY.out]; exact HE.out)
          · exact AF.out j (by omega)
        case measure => simp [intOf]; omega
    · have hltz : ¬ (k : Int) < 16 := by omega
      obtain rfl : k = 16 := by omega
      go_wp2
      go_ret
      exact ⟨rint (resS_miss AF.out).symm, rfl⟩
theorem C_strs {w : World} {b : Nat} {xs : List ByteArray} {t : TypeId} {fr : Nat × Nat} (h : w.heap[b]? = some (.cells (xs.map Value.string).toArray t fr)) (hl : xs.length ≤ 100000) : Kd.C Kd.string w (some ⟨b, 0, none⟩) xs.length xs := by
  refine ⟨rfl, by omega, fun _ => ⟨_, rfl, fun j p hj => ?_⟩⟩
  refine ⟨[.string p], rfl, rfl, fun i u hu => ?_⟩
  cases i with
  | succ i => simp at hu
  | zero =>
    simp at hu
    subst hu
    have : w.cell? ⟨b, j, none⟩ = some (.string p) := by
      rw [cell_of_row w b j _ t fr h]
      simp [hj]
    have e : (⟨b, 0, none⟩ : Addr).add (j * Kd.string.sz + 0) = ⟨b, j, none⟩ := by
      show (⟨b, 0, none⟩ : Addr).add (j * 1 + 0) = ⟨b, j, none⟩
      rw [Nat.mul_one, Nat.add_zero]
      unfold Addr.add
      split <;> simp_all
    rw [e]
    exact this
theorem ref30_Words (w : World) : Calls Tryd.prog 28 #[] w fun e w' => ∃ A, e = .returned (.slice A 16 16) ∧ Kd.C Kd.string w' A 16 resWords ∧ Below w.heap.size w w' := by
  go_enter Tryd.func28, Tryd.ntmps28
  go_wp2
  go_ret
  exact ⟨_, rfl, C_strs (xs := resWords) (blk_new w _) (by decide), below_alloc (Below.refl _ _) _⟩
set_option maxHeartbeats 1000000 in
theorem ref30_Reserved (s : ByteArray) (w : World) : Calls Tryd.prog 11 #[.string s] w fun e w' => e = .returned (.int .i64 (resS s)) ∧ Below w.heap.size w w' := by
  have HW := Aside0.mk (ref30_Words w)
  go_enter Tryd.func11, Tryd.ntmps11
  go_wp2_with (go_at_call 28; refine HW.out.mono ?_; rintro e w2 ⟨A, rfl, hC, hb⟩; have HX := Aside0.mk hC; have HB := Aside0.mk hb; clear hC hb)
  go_loop [4] (fun i => ∃ k : Nat, k ≤ 16 ∧ i = .int .i64 k ∧ Aside0 (∀ j, j < k → decide (resWords.getD j default = s) = false)) (fun i => 16 - (intOf i).toNat)
  case atStart => exact ⟨0, Nat.zero_le _, rfl, ⟨fun j hj => absurd hj (Nat.not_lt_zero _)⟩⟩
  case round =>
    obtain ⟨k, hk, rfl, AF⟩ := hrel
    by_cases hlt : k < 16
    · have hltz : (k : Int) < 16 := by omega
      obtain ⟨ad, rfl, l2⟩ := at_str HX.out k hlt
      obtain ⟨y, hy⟩ : ∃ y, resWords.getD k default = y := ⟨_, rfl⟩
      rw [hy] at l2
      have HY := Aside0.mk hy
      clear hy
      by_cases e : y = s
      · subst e
        go_wp2
        go_ret
        exact ⟨rint (resS_hit hlt HY.out AF.out).symm, HB.out⟩
      · have hne := str_ne e
        have HE := Aside0.mk e
        clear e
        go_wp2
        go_round
        case rel =>
          refine ⟨k + 1, by omega, by go_num, ⟨fun j hj => ?_⟩⟩
          by_cases e : j = k
          · subst e
            exact decide_eq_false (by rw [HY.out]; exact HE.out)
          · exact AF.out j (by omega)
        case measure => simp [intOf]; omega
    · have hltz : ¬ (k : Int) < 16 := by omega
      obtain rfl : k = 16 := by omega
      go_wp2
      go_ret
      exact ⟨rint (resS_miss AF.out).symm, HB.out⟩
end Go.Proofs.YtliofoikejdjeaaDoor
/- Classes of bytes, by the program and by the document. -/
namespace Go.Proofs.YtliofoikejdjeaaDoor
open Go.RowKit Go.Proofs.YtliofoikejdjeaaDoorW.PrintWords
set_option linter.unusedVariables false
set_option linter.unusedSimpArgs false
theorem char_letter (c : UInt8) (w : World) : Calls Tryd.prog 104 #[.int .u8 c.toNat] w fun e w' => e = .returned (.int .i64 (ltr c.toNat)) ∧ w' = w := by
  have hc : (c.toNat : Int) ≤ 255 := by have := c.toNat_lt; omega
  have H := Aside0.mk (or32 c)
  go_enter Tryd.func104, Tryd.ntmps104
  go_wp2
  all_goals
    go_ret
    refine ⟨rint ?_, rfl⟩
    have h := H.out
    try simp only [beq_iff_eq, beq_eq_false_iff_ne, ne_eq] at *
    unfold ltr
    cases ha : alpha c.toNat
    · have h0 := mt h.1 (by simp [ha])
      simp only [Bool.false_eq_true, or_false]
      (repeat' split) <;> omega
    · have h0 := h.2 ha
      simp only [or_true, if_true]
      (repeat' split) <;> first | omega | (simp [alpha] at ha; omega)
theorem char_Class (c : UInt8) (w : World) : Calls Tryd.prog 79 #[.int .u8 c.toNat] w fun e w' => e = .returned (.int .i64 (cls c.toNat)) ∧ w' = w := by
  have hc : (c.toNat : Int) ≤ 255 := by have := c.toNat_lt; omega
  have hl := char_letter c w
  go_enter Tryd.func79, Tryd.ntmps79
  go_wp2_with (go_at_call 104; refine hl.mono ?_; rintro e w' ⟨rfl, rfl⟩)
  all_goals
    go_ret
    refine ⟨rint ?_, rfl⟩
    try simp only [beq_iff_eq, beq_eq_false_iff_ne, ne_eq] at *
    unfold cls
    (repeat' split) <;> first | rfl | (exfalso; omega)
set_option maxHeartbeats 4000000 in
theorem ref01_Class (c : UInt8) (w : World) : Calls Tryd.prog 66 #[.int .u8 c.toNat] w fun e w' => e = .returned (.int .i64 (cls c.toNat)) ∧ w' = w := by
  have hc : (c.toNat : Int) ≤ 255 := by have := c.toNat_lt; omega
  go_enter Tryd.func66, Tryd.ntmps66
  go_wp2
  all_goals
    go_ret
    refine ⟨rint ?_, rfl⟩
    try simp only [beq_iff_eq, beq_eq_false_iff_ne, ne_eq] at *
    unfold cls ltr alpha
    simp only [Bool.or_eq_true, decide_eq_true_eq]
    (repeat' split) <;> first | rfl | (exfalso; omega) | (exfalso; simp_all; done)
end Go.Proofs.YtliofoikejdjeaaDoor
/- gtok: spans, what is quoted. -/
namespace Go.Proofs.YtliofoikejdjeaaDoor
open Go.RowKit Go.Proofs.YtliofoikejdjeaaDoorW.PrintWords
set_option linter.unusedVariables false
set_option linter.unusedSimpArgs false
set_option maxHeartbeats 1000000 in
theorem gtok_span (s : ByteArray) (hs : s.size ≤ 140737488351232) (a : Nat) (ha : a ≤ s.size) (p : UInt8 → Bool) (fv : Value) (w : World) (hp : PredV w fv Vu8 p) :
    Calls Tryd.prog 75 #[.string s, .int .i64 a, fv] w fun e w' => e = .returned (.int .i64 (spanS p s a)) ∧ Below w.heap.size w w' := by
  obtain ⟨g, lb, rfl, eg, hp⟩ := hp
  go_enter Tryd.func75, Tryd.ntmps75
  go_wp2
  go_loopg [7] s.size (fun gg v7 wr => ∃ k : Nat, a + k ≤ s.size ∧ s.size - (a + k) ≤ gg ∧ v7 = .int .i64 k ∧ Aside0 (Below w.heap.size w wr) ∧ Aside0 (∀ (j : Nat) (h : a + j < s.size), j < k → p (s[a + j]'h) = true))
  case atStart => exact ⟨0, by omega, by omega, rfl, ⟨Below.refl _ _⟩, ⟨fun j _ hj => absurd hj (Nat.not_lt_zero _)⟩⟩
  case round =>
    obtain ⟨k, hk, hg, rfl, BW, AF⟩ := hrel
    by_cases hlt : a + k < s.size
    · have hltz : (a : Int) + (k : Int) < (s.size : Int) := by omega
      have hcall := hp wr (s[a + k]'hlt) _ BW.out rfl
      clear hp
      cases hq : p (s[a + k]'hlt) with
      | true =>
        have HQ := Aside0.mk hq
        rw [hq] at hcall
        clear hq
        go_wp2_with (go_at_fn g; refine hcall.mono ?_; rintro e w' ⟨rfl, hb'⟩)
        go_roundg (s.size - (a + (k + 1)))
        case measure => omega
        case rel =>
          refine ⟨k + 1, by omega, by omega, by go_num, ⟨BW.out.trans (hb'.mono BW.out.size)⟩, ⟨fun j h hj => ?_⟩⟩
          by_cases e : j = k
          · subst e
            exact HQ.out
          · exact AF.out j h (by omega)
      | false =>
        have HQ := Aside0.mk hq
        rw [hq] at hcall
        clear hq
        go_wp2_with (go_at_fn g; refine hcall.mono ?_; rintro e w' ⟨rfl, hb'⟩)
        go_ret
        exact ⟨rint (congrArg Int.ofNat (spanS_eq (by omega) AF.out (fun _ => HQ.out))).symm, BW.out.trans (hb'.mono BW.out.size)⟩
    · have hltz : ¬ (a : Int) + (k : Int) < (s.size : Int) := by omega
      clear hp
      go_wp2
      go_ret
      exact ⟨rint (congrArg Int.ofNat (spanS_eq (by omega) AF.out (fun h => absurd h hlt))).symm, BW.out⟩
theorem gtok_inside (c : UInt8) (w : World) : Calls Tryd.prog 103 #[.int .u8 c.toNat] w fun e w' => e = .returned (.bool (insideB c)) ∧ w' = w := by
  have hc : (c.toNat : Int) ≤ 255 := by have := c.toNat_lt; omega
  by_cases h1 : (32 : Int) < c.toNat
  · by_cases h2 : (c.toNat : Int) ≤ 126
    · go_enter Tryd.func103, Tryd.ntmps103
      go_wp2
      go_ret
      exact ⟨rbool (by rw [Bool.eq_iff_iff]; simp [insideB]; omega), rfl⟩
    · go_enter Tryd.func103, Tryd.ntmps103
      go_wp2
      go_ret
      exact ⟨rbool (by simp [insideB]; omega), rfl⟩
  · go_enter Tryd.func103, Tryd.ntmps103
    go_wp2
    go_ret
    exact ⟨rbool (by simp [insideB]; omega), rfl⟩
theorem ref05_inside (c : UInt8) (w : World) : Calls Tryd.prog 99 #[.int .u8 c.toNat] w fun e w' => e = .returned (.bool (insideB c)) ∧ w' = w := by
  have hc : (c.toNat : Int) ≤ 255 := by have := c.toNat_lt; omega
  by_cases h1 : (33 : Int) ≤ c.toNat
  · by_cases h2 : (c.toNat : Int) ≤ 126
    · go_enter Tryd.func99, Tryd.ntmps99
      go_wp2
      go_ret
      exact ⟨rbool (by rw [Bool.eq_iff_iff]; simp [insideB]; omega), rfl⟩
    · go_enter Tryd.func99, Tryd.ntmps99
      go_wp2
      go_ret
      exact ⟨rbool (by simp [insideB]; omega), rfl⟩
  · go_enter Tryd.func99, Tryd.ntmps99
    go_wp2
    go_ret
    exact ⟨rbool (by simp [insideB]; omega), rfl⟩
/-- An error of fault.New's make, or nil. -/
def ErrIs (w : World) (v : Value) (code at_ : Int) : Prop :=
  (code = 0 ∧ v = .nilIface) ∨ (code ≠ 0 ∧ ∃ b, v = .iface 116 (.pointer (some ⟨b, 0, none⟩)) ∧ w.heap[b]? = some (.cells #[.int .i64 code, .int .i64 at_] 94 (0, 0)))
theorem ErrIs.below {w w1 : World} {v : Value} {code at_ : Int} (h : ErrIs w v code at_) (hb : Below w.heap.size w w1) : ErrIs w1 v code at_ := by
  rcases h with h | ⟨h0, b, e, hc⟩
  · exact .inl h
  · exact .inr ⟨h0, b, e, blk_below hc hb⟩
theorem ErrIs.nil {w : World} {v : Value} {a : Int} (h : ErrIs w v 0 a) : v = .nilIface := by
  rcases h with h | h
  · exact h.2
  · exact absurd rfl h.1
theorem ErrIs.some_ {w : World} {v : Value} {c a : Int} (h : ErrIs w v c a) (hc : c ≠ 0) : ∃ b, v = .iface 116 (.pointer (some ⟨b, 0, none⟩)) := by
  rcases h with h | ⟨_, b, h, _⟩
  · exact absurd h.1 hc
  · exact ⟨b, h⟩
theorem fault_New (e at_ : Int) (w : World) (he : (e == 0) = false) : Calls Tryd.prog 39 #[.int .i64 e, .int .i64 at_] w fun ev w' => ∃ v, ev = .returned v ∧ ErrIs w' v e at_ ∧ Below w.heap.size w w' := by
  have H := Aside0.mk he
  go_enter Tryd.func39, Tryd.ntmps39
  go_wp2
  go_ret
  exact ⟨_, rfl, .inr ⟨by simpa using H.out, _, rfl, heap_alloc_new _ _⟩, below_alloc (Below.refl _ _) _⟩
set_option maxHeartbeats 1000000 in
theorem gtok_quoted (s : ByteArray) (hs : s.size ≤ 140737488351232) (a : Nat) (ha : a < s.size) (w : World) :
    Calls Tryd.prog 77 #[.string s, .int .i64 a] w fun e w' => ∃ v, e = .returned (.tuple #[.int .i64 (quotedS s a).1, v]) ∧ ErrIs w' v (quotedS s a).2.1 (quotedS s a).2.2 ∧ Below w.heap.size w w' := by
  have hsp := gtok_span s hs (a + 1) (by omega) insideB (.func (.func 103) #[] #[]) w ⟨_, _, rfl, fun _ _ => by kernel_rfl, fun W x v _ hv => by
    obtain rfl : v = .int .u8 x.toNat := hv
    exact (gtok_inside x W).mono fun e w' ⟨he, hw⟩ => ⟨he, hw ▸ Below.refl _ _⟩⟩
  have hle := spanS_le insideB s (a + 1) (by omega)
  rw [show (((a + 1 : Nat) : Int)) = (a : Int) + 1 from by omega] at hsp
  unfold quotedS
  generalize spanS insideB s (a + 1) = m at *
  by_cases h1 : s.size ≤ a + (1 + m)
  · simp only [if_pos h1]
    go_enter Tryd.func77, Tryd.ntmps77
    go_wp2_with (first | (go_at_call 75; refine hsp.mono ?_; rintro e w' ⟨rfl, hb⟩) | (go_at_call 39; refine (fault_New _ _ _ (by decide)).mono ?_; rintro e w1 ⟨v, rfl, hv, hb1⟩))
    go_ret2
    exact ⟨_, rfl, hv, hb.trans (hb1.mono hb.size)⟩
  · simp only [if_neg h1]
    have hlt : a + (1 + m) < s.size := by omega
    have hbn := byteN_at hlt
    by_cases h2 : byteN s (a + (1 + m)) ≠ 39 ∨ m = 0
    · simp only [if_pos h2]
      have HB := Aside0.mk hbn
      by_cases h3 : byteN s (a + (1 + m)) = 39
      · obtain rfl : m = 0 := h2.resolve_left (by simp [h3])
        have h4 : (((s[a + 1]'hlt).toNat : Int) != 39) = false := by rw [show (s[a + 1]'hlt).toNat = byteN s (a + 1) from hbn, show byteN s (a + 1) = 39 from h3]; rfl
        clear hbn h2 h3
        go_enter Tryd.func77, Tryd.ntmps77
        go_wp2_with (first | (go_at_call 75; refine hsp.mono ?_; rintro e w' ⟨rfl, hb⟩) | (go_at_call 39; refine (fault_New _ _ _ (by decide)).mono ?_; rintro e w1 ⟨v, rfl, hv, hb1⟩))
        go_ret2
        exact ⟨_, rfl, hv, hb.trans (hb1.mono hb.size)⟩
      · have h4 : (((s[a + (1 + m)]'hlt).toNat : Int) != 39) = true := by rw [hbn]; simp; omega
        clear hbn h2 h3
        go_enter Tryd.func77, Tryd.ntmps77
        go_wp2_with (first | (go_at_call 75; refine hsp.mono ?_; rintro e w' ⟨rfl, hb⟩) | (go_at_call 39; refine (fault_New _ _ _ (by decide)).mono ?_; rintro e w1 ⟨v, rfl, hv, hb1⟩))
        go_ret2
        exact ⟨_, rfl, hv, hb.trans (hb1.mono hb.size)⟩
    · simp only [if_neg h2]
      have h3 : byteN s (a + (1 + m)) = 39 := by omega
      have h5 : (1 + (m : Int) == 1) = false := by simp; omega
      have h4 : (((s[a + (1 + m)]'hlt).toNat : Int) != 39) = false := by rw [hbn, h3]; rfl
      clear hbn h2 h3
      by_cases h6 : 23 ≤ m
      · simp only [if_pos h6]
        go_enter Tryd.func77, Tryd.ntmps77
        go_wp2_with (first | (go_at_call 75; refine hsp.mono ?_; rintro e w' ⟨rfl, hb⟩) | (go_at_call 39; refine (fault_New _ _ _ (by decide)).mono ?_; rintro e w1 ⟨v, rfl, hv, hb1⟩))
        go_ret2
        exact ⟨_, rfl, hv, hb.trans (hb1.mono hb.size)⟩
      · simp only [if_neg h6]
        go_enter Tryd.func77, Tryd.ntmps77
        go_wp2_with (go_at_call 75; refine hsp.mono ?_; rintro e w' ⟨rfl, hb⟩)
        go_ret2
        exact ⟨_, rfl, .inl ⟨rfl, rfl⟩, hb⟩
end Go.Proofs.YtliofoikejdjeaaDoor
/- What gtok.All and gread.Parse answer, in plain Lean. -/
namespace Go.Proofs.YtliofoikejdjeaaDoor
open Go.RowKit Go.Proofs.YtliofoikejdjeaaDoorW.PrintWords
set_option linter.unusedVariables false
/-- A token. -/
structure Tk where
  k : Int
  s : ByteArray
  at_ : Int
  deriving DecidableEq
instance : Inhabited Tk := ⟨⟨0, ⟨#[]⟩, 0⟩⟩
/-- An error's number, and its place. -/
abbrev Ft := Int × Int
def whiteB (c : UInt8) : Bool := decide (c.toNat = 32) || decide (c.toNat = 9) || decide (c.toNat = 10) || decide (c.toNat = 13)
def letterB (c : UInt8) : Bool := decide (cls c.toNat = 4) || decide (cls c.toNat = 3)
def signS (n : Nat) : Int := if n = 58 then 3 else if n = 124 then 4 else if n = 59 then 5 else 0
/-- A comment from a place on: how many bytes; or an error. -/
def commentS (s : ByteArray) (a : Nat) : Int × Int × Int :=
  if byteN s (a + 1) = 42 then
    let n := Lib.index (s.data.toList.drop (a + 2)) [42, 47]
    if n < 0 then (0, 4, s.size) else (n + 4, 0, 0)
  else (0, 2, a)
/-- What stands behind a %: kind, bytes; or an error. -/
def markS (s : ByteArray) (a : Nat) : Int × Int × Int × Int :=
  if byteN s (a + 1) = 37 then (6, 2, 0, 0) else
    let n := spanS letterB s (a + 1)
    let t := (s.data.toList.drop (a + 1)).take n
    if t = [116, 111, 107, 101, 110] then (7, 1 + n, 0, 0) else if t = [115, 116, 97, 114, 116] then (8, 1 + n, 0, 0) else (0, 0, 2, a)
/-- The token at a place: kind (0: passed over), bytes; or an error. -/
def oneS (s : ByteArray) (a : Nat) : Int × Int × Int × Int :=
  if h : a < s.size then
    let c := s[a]'h
    if whiteB c then (0, spanS whiteB s a, 0, 0)
    else if c.toNat = 47 then (0, commentS s a)
    else if c.toNat = 39 then (2, quotedS s a)
    else if c.toNat = 37 then markS s a
    else if cls c.toNat = 4 then
      let n := spanS letterB s a
      if 24 < n then (0, 0, 5, a) else (1, n, 0, 0)
    else if signS c.toNat ≠ 0 then (signS c.toNat, 1, 0, 0)
    else (0, 0, 2, a)
  else (0, 0, 0, 0)
def cutS (s : ByteArray) (a n : Nat) : ByteArray := s.extract a (a + n)
def toksS (s : ByteArray) : Nat → Nat → List Tk × Int × Int
  | 0, _ => ([], 0, 0)
  | f + 1, a => if s.size ≤ a then ([⟨0, ⟨#[]⟩, s.size⟩], 0, 0) else
    let o := oneS s a
    if o.2.2.1 ≠ 0 then ([], o.2.2) else
    let r := toksS s f (a + o.2.1.toNat)
    if r.2.1 ≠ 0 then ([], r.2) else (if o.1 = 0 then r.1 else ⟨o.1, cutS s a o.2.1.toNat, a⟩ :: r.1, 0, 0)
def allS (s : ByteArray) : List Tk × Int × Int := if 8192 < s.size then ([], 5, 0) else toksS s (s.size + 1) 0

/-! the reader -/
structure Sd where
  l : List Tk
  at_ : Int
  deriving DecidableEq
instance : Inhabited Sd := ⟨⟨[], 0⟩⟩
structure Ru where
  left : Tk
  sides : List Sd
  deriving DecidableEq
instance : Inhabited Ru := ⟨⟨default, []⟩⟩
/-- What is declared. -/
structure Hd where
  declared : List Tk
  marks : List Int
  starts : List Tk
def hd (l : List Tk) : Tk := l.headD default
def symB (t : Tk) : Bool := decide (t.k = 1) || decide (t.k = 2)
def badS (l : List Tk) : Ft := if (hd l).k = 0 then (4, (hd l).at_) else (3, (hd l).at_)
def headS (l : List Tk) (x : Hd) : Except Ft (List Tk × Hd) :=
  if (hd l).k = 7 then
    if symB (hd l.tail) then .ok (l.tail.dropWhile symB, { x with declared := x.declared ++ l.tail.takeWhile symB }) else .error (badS l.tail)
  else if (hd l).k = 8 then
    if (hd l.tail).k = 1 then .ok (l.tail.tail, { x with marks := x.marks ++ [(hd l).at_], starts := x.starts ++ [hd l.tail] }) else .error (badS l.tail)
  else .error (badS l)
def sideS (l : List Tk) : Sd := ⟨l.takeWhile symB, (hd l).at_⟩
/-- Right sides, up to the sign behind them. -/
def sidesS : Nat → List Tk → List Sd → Except Ft (List Tk × List Sd)
  | 0, l, _ => .error (badS l)
  | f + 1, l, acc =>
    let l' := l.dropWhile symB
    if (hd l').k = 4 then sidesS f l'.tail (acc ++ [sideS l])
    else if (hd l').k = 5 then .ok (l'.tail, acc ++ [sideS l])
    else .error (badS l')
def ruleS (l : List Tk) : Except Ft (List Tk × Ru) :=
  if (hd l).k = 1 then
    if (hd l.tail).k = 3 then
      match sidesS (l.length + 1) l.tail.tail [] with
      | .ok (l', sd) => .ok (l', ⟨hd l, sd⟩)
      | .error f => .error f
    else .error (badS l.tail)
  else .error (badS l)
def headsS : Nat → List Tk → Hd → Except Ft (List Tk × Hd)
  | 0, l, _ => .error (badS l)
  | f + 1, l, x => if (hd l).k = 6 then .ok (l.tail, x) else
    match headS l x with
    | .ok (l', x') => headsS f l' x'
    | .error e => .error e
def rulesS : Nat → List Tk → List Ru → Except Ft (List Ru)
  | 0, l, _ => .error (badS l)
  | f + 1, l, acc => if (hd l).k = 0 then .ok acc else
    match ruleS l with
    | .ok (l', r) => rulesS f l' (acc ++ [r])
    | .error e => .error e
def formS (l : List Tk) : Except Ft (Hd × List Ru) :=
  match headsS (l.length + 1) l ⟨[], [], []⟩ with
  | .error e => .error e
  | .ok (l', x) =>
    match ruleS l' with
    | .error e => .error e
    | .ok (l'', r) =>
      match rulesS (l.length + 1) l'' [r] with
      | .error e => .error e
      | .ok rs => .ok (x, rs)

/-! the builder -/
def leftsN (rs : List Ru) (s : ByteArray) : Nat := rs.countP fun r => decide (r.left.s = s)
def termB (t : Tk) (ts : List ByteArray) : Except Ft (List ByteArray) := if 120 ≤ ts.length then .error (7, t.at_) else .ok (ts ++ [t.s])
def startB (rs : List Ru) (x : Hd) : Except Ft Unit := if leftsN rs (hd x.starts).s = 0 then .error (9, (hd x.starts).at_) else .ok ()
/-- What is declared: the tokens that are left, whether %start is to be asked yet, the terminals. -/
def declareB (rs : List Ru) (x : Hd) : List Tk → Bool → List ByteArray → Except Ft (List ByteArray)
  | [], p, ts => if p then (match startB rs x with | .ok _ => .ok ts | .error e => .error e) else .ok ts
  | t :: r, p, ts =>
    let q := p && decide (x.marks.headD 0 < t.at_)
    match (if q then startB rs x else .ok ()) with
    | .error e => .error e
    | .ok _ =>
      if 0 ≤ placeS ts t.s then .error (8, t.at_) else
      match termB t ts with
      | .error e => .error e
      | .ok ts' => declareB rs x r (p && !q) ts'
def secondB (x : Hd) : Int := if x.marks.length < 2 then 8193 else x.marks.getD 1 0
def headsB (rs : List Ru) (x : Hd) : Except Ft (List ByteArray) :=
  match declareB rs x x.declared (!x.starts.isEmpty) [] with
  | .ok ts => if secondB x ≤ 8192 then .error (8, secondB x) else .ok ts
  | .error e => if secondB x ≤ 8192 ∧ secondB x < e.2 then .error (8, secondB x) else .error e
def leftB (t : Tk) (declared : Nat) (ts ns : List ByteArray) : Except Ft (List ByteArray) :=
  if 0 ≤ placeS ts t.s ∧ placeS ts t.s < declared then .error (8, t.at_)
  else if 0 ≤ placeS ns t.s then .ok ns
  else if 120 ≤ ns.length then .error (7, t.at_) else .ok (ns ++ [t.s])
def symbolB (rs : List Ru) (t : Tk) (k : Nat) (ts : List ByteArray) : Except Ft (List ByteArray) :=
  if 8 ≤ k then .error (7, t.at_) else if 0 ≤ placeS ts t.s then .ok ts else if t.k = 2 then termB t ts else if leftsN rs t.s = 0 then .error (9, t.at_) else .ok ts
def symbolsB (rs : List Ru) : List Tk → Nat → List ByteArray → Except Ft (List ByteArray)
  | [], _, ts => .ok ts
  | t :: r, k, ts => match symbolB rs t k ts with | .error e => .error e | .ok ts' => symbolsB rs r (k + 1) ts'
/-- What is built: terminals, nonterminals, rules by names. -/
structure Bu where
  ts : List ByteArray
  ns : List ByteArray
  rs : List (List ByteArray)
def sideB (rs : List Ru) (left : ByteArray) (s : Sd) (b : Bu) : Except Ft Bu :=
  if 300 ≤ b.rs.length then .error (7, s.at_) else
  match symbolsB rs s.l 0 b.ts with
  | .error e => .error e
  | .ok ts => if b.rs.any (fun y => decide ((left :: s.l.map (·.s)) = y)) then .error (8, s.at_) else .ok { b with ts := ts, rs := b.rs ++ [left :: s.l.map (·.s)] }
def sidesB (rs : List Ru) (left : ByteArray) : List Sd → Bu → Except Ft Bu
  | [], b => .ok b
  | s :: r, b => match sideB rs left s b with | .error e => .error e | .ok b' => sidesB rs left r b'
def rulesB (rs : List Ru) (declared : Nat) : List Ru → Bu → Except Ft Bu
  | [], b => .ok b
  | x :: r, b =>
    match leftB x.left declared b.ts b.ns with
    | .error e => .error e
    | .ok ns => match sidesB rs x.left.s x.sides { b with ns := ns } with
      | .error e => .error e
      | .ok b' => rulesB rs declared r b'
def findB (ts ns : List ByteArray) (s : ByteArray) : Int := if 0 ≤ placeS ts s then placeS ts s + 1 else if 0 ≤ placeS ns s then ts.length + placeS ns s + 1 else 0
def ruleB (ts ns : List ByteArray) (x : List ByteArray) : Rl := ⟨findB ts ns (x.headD default), x.tail.map (findB ts ns)⟩
def gramB (x : Hd) (b : Bu) : Gm := { terms := b.ts, nons := b.ns, rules := b.rs.map (ruleB b.ts b.ns), start := if x.starts.isEmpty then b.ts.length + 1 else findB b.ts b.ns (hd x.starts).s }
def buildB (x : Hd) (rs : List Ru) : Except Ft Gm :=
  match headsB rs x with
  | .error e => .error e
  | .ok ts => match rulesB rs ts.length rs ⟨ts, [], []⟩ with
    | .error e => .error e
    | .ok b => .ok (gramB x b)
def parseS (s : ByteArray) : Except Ft Gm :=
  if (allS s).2.1 ≠ 0 then .error (allS s).2 else
  match formS (allS s).1 with
  | .error e => .error e
  | .ok (x, rs) => buildB x rs
end Go.Proofs.YtliofoikejdjeaaDoor
/-
  DERIVED: THE SHELF's CONTRACTS AT THIS DUMP, IN PLAIN WORDS (tools/lay-plain.mjs out of 'TrydShelf.lean', which tools/lay-shelf.mjs wrote): THE SAME DECLARATIONS UNDER THE SAME NAMES: 'import', 'namespace', 'open', 'def', 'theorem' AND NOTHING ELSE: no command of the shelf's: FOR A HAND-IN. Each laying: the table of numbers ('.._ren') and one theorem, a field a fact of the dump's own or the kernel's comparison; each contract: ONE APPLICATION.
-/
namespace Go.Proofs
open Go.Shelf
def Tryd.lays137_ren : Go.Shelf.Ren := ⟨fun | 137 => 100 | 217 => 111 | 266 => 114 | n => n, fun | 9 => 9 | 5 => 5 | 3 => 3 | n => n, fun | n => n⟩
theorem Tryd.lays137 : Go.Proofs.Lays.n137 Tryd.prog Tryd.lays137_ren := {
  mixed := by kernel_rfl
  f137 := Tryd.func100.trans (congrArg some (by kernel_rfl))
  f217 := Tryd.func111.trans (congrArg some (by kernel_rfl))
  f266 := Tryd.func114.trans (congrArg some (by kernel_rfl))
  t3 := Tryd.underlying3
  a3 := Tryd.isAgg3
  z3 := Tryd.sizeOf3
  v3 := Tryd.zeroValue3
  t5 := Tryd.underlying5
  a5 := Tryd.isAgg5
  z5 := Tryd.sizeOf5
  v5 := Tryd.zeroValue5
  t9 := Tryd.underlying9
  a9 := Tryd.isAgg9
  z9 := Tryd.sizeOf9
  v9 := Tryd.zeroValue9 }
open Go.RowKit in
/-- strings.IndexByte: "IndexByte returns the index of the first instance of c in s, or -1 if c is not present in s.": IT RETURNS 'Lib.indexByte s c'; the world is as it was. (LAID: no walk: one application.) -/
theorem Tryd.strings_IndexByte (s : ByteArray) (c : Int) (w : World) :
    Calls Tryd.prog 100 #[.string s, .int .u8 c] w fun e w' => e = .returned (.int .i64 (Lib.indexByte s.data.toList c.toNat.toUInt8)) ∧ w' = w := Any.strings_IndexByte Tryd.lays137 s c w
def Tryd.lays217_ren : Go.Shelf.Ren := ⟨fun | 217 => 111 | 266 => 114 | n => n, fun | 9 => 9 | 5 => 5 | 3 => 3 | n => n, fun | n => n⟩
theorem Tryd.lays217 : Go.Proofs.Lays.n217 Tryd.prog Tryd.lays217_ren := {
  mixed := by kernel_rfl
  f217 := Tryd.func111.trans (congrArg some (by kernel_rfl))
  f266 := Tryd.func114.trans (congrArg some (by kernel_rfl))
  t3 := Tryd.underlying3
  a3 := Tryd.isAgg3
  z3 := Tryd.sizeOf3
  v3 := Tryd.zeroValue3
  t5 := Tryd.underlying5
  a5 := Tryd.isAgg5
  z5 := Tryd.sizeOf5
  v5 := Tryd.zeroValue5
  t9 := Tryd.underlying9
  a9 := Tryd.isAgg9
  z9 := Tryd.sizeOf9
  v9 := Tryd.zeroValue9 }
open Go.RowKit Go.Lib in
/-- internal/stringslite.IndexByte (what strings.IndexByte calls): IT RETURNS 'Lib.indexByte s c'; the world is as it was. (LAID: no walk: one application.) -/
theorem Tryd.stringslite_IndexByte (s : ByteArray) (c : Int) (w : World) :
    Calls Tryd.prog 111 #[.string s, .int .u8 c] w fun e w' => e = .returned (.int .i64 (Lib.indexByte s.data.toList c.toNat.toUInt8)) ∧ w' = w := Any.stringslite_IndexByte Tryd.lays217 s c w
def Tryd.lays224_ren : Go.Shelf.Ren := ⟨fun | 224 => 116 | n => n, fun | 3 => 3 | n => n, fun | n => n⟩
theorem Tryd.lays224 : Go.Proofs.Lays.n224 Tryd.prog Tryd.lays224_ren := {
  mixed := by kernel_rfl
  f224 := Tryd.func116.trans (congrArg some (by kernel_rfl))
  t3 := Tryd.underlying3
  a3 := Tryd.isAgg3
  z3 := Tryd.sizeOf3
  v3 := Tryd.zeroValue3 }
open Go.RowKit Go.Lib in
/-- internal/bytealg.Cutover: "Cutover reports the number of failures of IndexByte we should tolerate before switching over to Index. n is the number of bytes processed so far.": on amd64: (n + 16) / 8. (LAID: no walk: one application.) -/
theorem Tryd.bytealg_Cutover (n : Int) (h0 : 0 ≤ n) (h1 : n < 4611686018427387904) (w : World) :
    Calls Tryd.prog 116 #[.int .i64 n] w fun e w' => e = .returned (.int .i64 ((n + 16) / 8)) ∧ w' = w := Any.bytealg_Cutover Tryd.lays224 n h0 h1 w
def Tryd.lays314_ren : Go.Shelf.Ren := ⟨fun | 314 => 118 | n => n, fun | 9 => 9 | 51 => 179 | 3 => 3 | 4 => 4 | 5 => 5 | 46 => 178 | n => n, fun | n => n⟩
theorem Tryd.lays314 : Go.Proofs.Lays.n314 Tryd.prog Tryd.lays314_ren := {
  mixed := by kernel_rfl
  f314 := Tryd.func118.trans (congrArg some (by kernel_rfl))
  t3 := Tryd.underlying3
  a3 := Tryd.isAgg3
  z3 := Tryd.sizeOf3
  v3 := Tryd.zeroValue3
  t4 := Tryd.underlying4
  a4 := Tryd.isAgg4
  z4 := Tryd.sizeOf4
  v4 := Tryd.zeroValue4
  t5 := Tryd.underlying5
  a5 := Tryd.isAgg5
  z5 := Tryd.sizeOf5
  v5 := Tryd.zeroValue5
  t9 := Tryd.underlying9
  a9 := Tryd.isAgg9
  z9 := Tryd.sizeOf9
  v9 := Tryd.zeroValue9
  t46 := Tryd.underlying178
  a46 := Tryd.isAgg178
  z46 := Tryd.sizeOf178
  v46 := Tryd.zeroValue178
  t51 := Tryd.underlying179
  a51 := Tryd.isAgg179
  z51 := Tryd.sizeOf179
  v51 := Tryd.zeroValue179 }
open Go.RowKit Go.Lib in
/-- hashStr: "returns the hash and the appropriate multiplicative factor for use in Rabin-Karp algorithm": THE HASH OF ALL OF sep, AND 16777619 ^ len(sep), both in uint32. (LAID: no walk: one application.) -/
theorem Tryd.bytealg_hashStr (sep : ByteArray) (hs : sep.size < 4294967281) (w : World) :
    Calls Tryd.prog 118 #[.string sep] w fun e w' => e = .returned (.tuple #[.int .u32 (RK.H sep.data.toList % 4294967296), .int .u32 (16777619 ^ sep.size % 4294967296)]) ∧ w' = w := Any.bytealg_hashStr Tryd.lays314 sep hs w
def Tryd.lays267_ren : Go.Shelf.Ren := ⟨fun | 267 => 117 | 314 => 118 | n => n, fun | 9 => 9 | 3 => 3 | 146 => 180 | 51 => 179 | 4 => 4 | 5 => 5 | 46 => 178 | n => n, fun | n => n⟩
theorem Tryd.lays267 : Go.Proofs.Lays.n267 Tryd.prog Tryd.lays267_ren := {
  mixed := by kernel_rfl
  f267 := Tryd.func117.trans (congrArg some (by kernel_rfl))
  f314 := Tryd.func118.trans (congrArg some (by kernel_rfl))
  t3 := Tryd.underlying3
  a3 := Tryd.isAgg3
  z3 := Tryd.sizeOf3
  v3 := Tryd.zeroValue3
  t4 := Tryd.underlying4
  a4 := Tryd.isAgg4
  z4 := Tryd.sizeOf4
  v4 := Tryd.zeroValue4
  t5 := Tryd.underlying5
  a5 := Tryd.isAgg5
  z5 := Tryd.sizeOf5
  v5 := Tryd.zeroValue5
  t9 := Tryd.underlying9
  a9 := Tryd.isAgg9
  z9 := Tryd.sizeOf9
  v9 := Tryd.zeroValue9
  t46 := Tryd.underlying178
  a46 := Tryd.isAgg178
  z46 := Tryd.sizeOf178
  v46 := Tryd.zeroValue178
  t51 := Tryd.underlying179
  a51 := Tryd.isAgg179
  z51 := Tryd.sizeOf179
  v51 := Tryd.zeroValue179
  t146 := Tryd.underlying180
  a146 := Tryd.isAgg180
  z146 := Tryd.sizeOf180
  v146 := Tryd.zeroValue180 }
open Go.RowKit Go.Lib in
theorem Tryd.bytealg_IndexRabinKarp (s sep : ByteArray) (h1 : 1 ≤ sep.size) (h2 : sep.size ≤ s.size) (hs : s.size < 4294967281) (w : World) :
    Calls Tryd.prog 117 #[.string s, .string sep] w fun e w' => e = .returned (.int .i64 (Lib.index s.data.toList sep.data.toList)) ∧ w' = w := Any.bytealg_IndexRabinKarp Tryd.lays267 s sep h1 h2 hs w
def Tryd.lays219_ren : Go.Shelf.Ren := ⟨fun | 219 => 113 | 217 => 111 | 225 => 115 | 224 => 116 | 267 => 117 | 266 => 114 | 314 => 118 | n => n, fun | 9 => 9 | 3 => 3 | 4 => 4 | 5 => 5 | 46 => 178 | 146 => 180 | 51 => 179 | n => n, fun | 1 => 3 | n => n⟩
theorem Tryd.lays219 : Go.Proofs.Lays.n219 Tryd.prog Tryd.lays219_ren := {
  mixed := by kernel_rfl
  f217 := Tryd.func111.trans (congrArg some (by kernel_rfl))
  f219 := Tryd.func113.trans (congrArg some (by kernel_rfl))
  f224 := Tryd.func116.trans (congrArg some (by kernel_rfl))
  f225 := Tryd.func115.trans (congrArg some (by kernel_rfl))
  f266 := Tryd.func114.trans (congrArg some (by kernel_rfl))
  f267 := Tryd.func117.trans (congrArg some (by kernel_rfl))
  f314 := Tryd.func118.trans (congrArg some (by kernel_rfl))
  t3 := Tryd.underlying3
  a3 := Tryd.isAgg3
  z3 := Tryd.sizeOf3
  v3 := Tryd.zeroValue3
  t4 := Tryd.underlying4
  a4 := Tryd.isAgg4
  z4 := Tryd.sizeOf4
  v4 := Tryd.zeroValue4
  t5 := Tryd.underlying5
  a5 := Tryd.isAgg5
  z5 := Tryd.sizeOf5
  v5 := Tryd.zeroValue5
  t9 := Tryd.underlying9
  a9 := Tryd.isAgg9
  z9 := Tryd.sizeOf9
  v9 := Tryd.zeroValue9
  t46 := Tryd.underlying178
  a46 := Tryd.isAgg178
  z46 := Tryd.sizeOf178
  v46 := Tryd.zeroValue178
  t51 := Tryd.underlying179
  a51 := Tryd.isAgg179
  z51 := Tryd.sizeOf179
  v51 := Tryd.zeroValue179
  t146 := Tryd.underlying180
  a146 := Tryd.isAgg180
  z146 := Tryd.sizeOf180
  v146 := Tryd.zeroValue180
  g1 := by kernel_rfl }
open Go.RowKit Go.Lib in
/-- internal/stringslite.Index (what strings.Index calls) AT A substr OF ONE BYTE c: IT RETURNS 'Lib.indexByte s c'; the world is as it was. (LAID: no walk: one application.) -/
theorem Tryd.stringslite_Index_one (s : ByteArray) (c : UInt8) (w : World) :
    Calls Tryd.prog 113 #[.string s, .string ⟨#[c]⟩] w fun e w' => e = .returned (.int .i64 (Lib.indexByte s.data.toList c)) ∧ w' = w := Any.stringslite_Index_one Tryd.lays219 s c w
open Go.RowKit Go.Lib in
/-- internal/stringslite.Index (what strings.Index calls) AT A substr OF WHATEVER LENGTH: IT RETURNS 'Lib.index s substr'; the world is as it was. 'm': what internal/bytealg.MaxLen holds: whatever. (LAID: no walk: one application.) -/
theorem Tryd.stringslite_Index (s sub : ByteArray) (m : Int) (w : World) (hs : s.size < 4294967281) (hm : w.cell? ⟨3, 0, none⟩ = some (.int .i64 m)) :
    Calls Tryd.prog 113 #[.string s, .string sub] w fun e w' => e = .returned (.int .i64 (Lib.index s.data.toList sub.data.toList)) ∧ w' = w := Any.stringslite_Index Tryd.lays219 s sub m w hs hm
def Tryd.lays143_ren : Go.Shelf.Ren := ⟨fun | 143 => 102 | 219 => 113 | 217 => 111 | 225 => 115 | 224 => 116 | 267 => 117 | 266 => 114 | 314 => 118 | n => n, fun | 9 => 9 | 3 => 3 | 4 => 4 | 5 => 5 | 46 => 178 | 146 => 180 | 51 => 179 | n => n, fun | 1 => 3 | n => n⟩
theorem Tryd.lays143 : Go.Proofs.Lays.n143 Tryd.prog Tryd.lays143_ren := {
  mixed := by kernel_rfl
  f143 := Tryd.func102.trans (congrArg some (by kernel_rfl))
  f217 := Tryd.func111.trans (congrArg some (by kernel_rfl))
  f219 := Tryd.func113.trans (congrArg some (by kernel_rfl))
  f224 := Tryd.func116.trans (congrArg some (by kernel_rfl))
  f225 := Tryd.func115.trans (congrArg some (by kernel_rfl))
  f266 := Tryd.func114.trans (congrArg some (by kernel_rfl))
  f267 := Tryd.func117.trans (congrArg some (by kernel_rfl))
  f314 := Tryd.func118.trans (congrArg some (by kernel_rfl))
  t3 := Tryd.underlying3
  a3 := Tryd.isAgg3
  z3 := Tryd.sizeOf3
  v3 := Tryd.zeroValue3
  t4 := Tryd.underlying4
  a4 := Tryd.isAgg4
  z4 := Tryd.sizeOf4
  v4 := Tryd.zeroValue4
  t5 := Tryd.underlying5
  a5 := Tryd.isAgg5
  z5 := Tryd.sizeOf5
  v5 := Tryd.zeroValue5
  t9 := Tryd.underlying9
  a9 := Tryd.isAgg9
  z9 := Tryd.sizeOf9
  v9 := Tryd.zeroValue9
  t46 := Tryd.underlying178
  a46 := Tryd.isAgg178
  z46 := Tryd.sizeOf178
  v46 := Tryd.zeroValue178
  t51 := Tryd.underlying179
  a51 := Tryd.isAgg179
  z51 := Tryd.sizeOf179
  v51 := Tryd.zeroValue179
  t146 := Tryd.underlying180
  a146 := Tryd.isAgg180
  z146 := Tryd.sizeOf180
  v146 := Tryd.zeroValue180
  g1 := by kernel_rfl }
open Go.RowKit Go.Lib in
/-- strings.Index: "Index returns the index of the first instance of substr in s, or -1 if substr is not present in s.": AT A substr OF ONE BYTE c: IT RETURNS 'Lib.indexByte s c'; the world is as it was. (LAID: no walk: one application.) -/
theorem Tryd.strings_Index_one (s : ByteArray) (c : UInt8) (w : World) :
    Calls Tryd.prog 102 #[.string s, .string ⟨#[c]⟩] w fun e w' => e = .returned (.int .i64 (Lib.indexByte s.data.toList c)) ∧ w' = w := Any.strings_Index_one Tryd.lays143 s c w
open Go.RowKit Go.Lib in
/-- strings.Index: "Index returns the index of the first instance of substr in s, or -1 if substr is not present in s.": IT RETURNS 'Lib.index s substr'; the world is as it was. (LAID: no walk: one application.) -/
theorem Tryd.strings_Index (s sub : ByteArray) (m : Int) (w : World) (hs : s.size < 4294967281) (hm : w.cell? ⟨3, 0, none⟩ = some (.int .i64 m)) :
    Calls Tryd.prog 102 #[.string s, .string sub] w fun e w' => e = .returned (.int .i64 (Lib.index s.data.toList sub.data.toList)) ∧ w' = w := Any.strings_Index Tryd.lays143 s sub m w hs hm
def Tryd.laysM219_ren : Go.Shelf.Ren := ⟨fun | 219 => 113 | 217 => 111 | 225 => 115 | 224 => 116 | 267 => 117 | 266 => 114 | 314 => 118 | n => n, fun | 9 => 9 | 3 => 3 | 4 => 4 | 5 => 5 | 46 => 178 | 146 => 180 | 51 => 179 | n => n, fun | 1 => 3 | n => n⟩
theorem Tryd.laysM219 : Go.Proofs.LaysM.n219 Tryd.prog Tryd.laysM219_ren := {
  mixed := by kernel_rfl
  f217 := Tryd.func111.trans (congrArg some (by kernel_rfl))
  f219 := Tryd.func113.trans (congrArg some (by kernel_rfl))
  f224 := Tryd.func116.trans (congrArg some (by kernel_rfl))
  f225 := Tryd.func115.trans (congrArg some (by kernel_rfl))
  f266 := Tryd.func114.trans (congrArg some (by kernel_rfl))
  f267 := Tryd.func117.trans (congrArg some (by kernel_rfl))
  f314 := Tryd.func118.trans (congrArg some (by kernel_rfl))
  t3 := Tryd.underlying3
  a3 := Tryd.isAgg3
  z3 := Tryd.sizeOf3
  v3 := Tryd.zeroValue3
  t4 := Tryd.underlying4
  a4 := Tryd.isAgg4
  z4 := Tryd.sizeOf4
  v4 := Tryd.zeroValue4
  t5 := Tryd.underlying5
  a5 := Tryd.isAgg5
  z5 := Tryd.sizeOf5
  v5 := Tryd.zeroValue5
  t9 := Tryd.underlying9
  a9 := Tryd.isAgg9
  z9 := Tryd.sizeOf9
  v9 := Tryd.zeroValue9
  t46 := Tryd.underlying178
  a46 := Tryd.isAgg178
  z46 := Tryd.sizeOf178
  v46 := Tryd.zeroValue178
  t51 := Tryd.underlying179
  a51 := Tryd.isAgg179
  z51 := Tryd.sizeOf179
  v51 := Tryd.zeroValue179
  t146 := Tryd.underlying180
  a146 := Tryd.isAgg180
  z146 := Tryd.sizeOf180
  v146 := Tryd.zeroValue180
  g1 := by kernel_rfl
  i3 := by kernel_rfl
  i4 := by kernel_rfl
  i5 := by kernel_rfl
  i9 := by kernel_rfl
  i46 := by kernel_rfl
  i51 := by kernel_rfl
  i146 := by kernel_rfl
  m1 := by kernel_rfl
  s1_3 := fun w h => Go.Proofs.cell_of_shapedOpen_int (zero := #[.int .i64 0]) (t := 3) h (of_decide_eq_true (by kernel_rfl)) (by kernel_rfl) rfl (by kernel_rfl) (by kernel_rfl) Tryd.underlying3 }
open Go.RowKit Go.Lib in
theorem Tryd.stringslite_Index_shaped (s sub : ByteArray) (w : World) (h : w.ShapedOpen Tryd.prog) (hs : s.size < 4294967281) :
    Calls Tryd.prog 113 #[.string s, .string sub] w fun e w' => e = .returned (.int .i64 (Lib.index s.data.toList sub.data.toList)) ∧ w' = w := Any.stringslite_Index_shaped Tryd.laysM219 s sub w h hs
def Tryd.laysM143_ren : Go.Shelf.Ren := ⟨fun | 143 => 102 | 219 => 113 | 217 => 111 | 225 => 115 | 224 => 116 | 267 => 117 | 266 => 114 | 314 => 118 | n => n, fun | 9 => 9 | 3 => 3 | 4 => 4 | 5 => 5 | 46 => 178 | 146 => 180 | 51 => 179 | n => n, fun | 1 => 3 | n => n⟩
theorem Tryd.laysM143 : Go.Proofs.LaysM.n143 Tryd.prog Tryd.laysM143_ren := {
  mixed := by kernel_rfl
  f143 := Tryd.func102.trans (congrArg some (by kernel_rfl))
  f217 := Tryd.func111.trans (congrArg some (by kernel_rfl))
  f219 := Tryd.func113.trans (congrArg some (by kernel_rfl))
  f224 := Tryd.func116.trans (congrArg some (by kernel_rfl))
  f225 := Tryd.func115.trans (congrArg some (by kernel_rfl))
  f266 := Tryd.func114.trans (congrArg some (by kernel_rfl))
  f267 := Tryd.func117.trans (congrArg some (by kernel_rfl))
  f314 := Tryd.func118.trans (congrArg some (by kernel_rfl))
  t3 := Tryd.underlying3
  a3 := Tryd.isAgg3
  z3 := Tryd.sizeOf3
  v3 := Tryd.zeroValue3
  t4 := Tryd.underlying4
  a4 := Tryd.isAgg4
  z4 := Tryd.sizeOf4
  v4 := Tryd.zeroValue4
  t5 := Tryd.underlying5
  a5 := Tryd.isAgg5
  z5 := Tryd.sizeOf5
  v5 := Tryd.zeroValue5
  t9 := Tryd.underlying9
  a9 := Tryd.isAgg9
  z9 := Tryd.sizeOf9
  v9 := Tryd.zeroValue9
  t46 := Tryd.underlying178
  a46 := Tryd.isAgg178
  z46 := Tryd.sizeOf178
  v46 := Tryd.zeroValue178
  t51 := Tryd.underlying179
  a51 := Tryd.isAgg179
  z51 := Tryd.sizeOf179
  v51 := Tryd.zeroValue179
  t146 := Tryd.underlying180
  a146 := Tryd.isAgg180
  z146 := Tryd.sizeOf180
  v146 := Tryd.zeroValue180
  g1 := by kernel_rfl
  i3 := by kernel_rfl
  i4 := by kernel_rfl
  i5 := by kernel_rfl
  i9 := by kernel_rfl
  i46 := by kernel_rfl
  i51 := by kernel_rfl
  i146 := by kernel_rfl
  m1 := by kernel_rfl
  s1_3 := fun w h => Go.Proofs.cell_of_shapedOpen_int (zero := #[.int .i64 0]) (t := 3) h (of_decide_eq_true (by kernel_rfl)) (by kernel_rfl) rfl (by kernel_rfl) (by kernel_rfl) Tryd.underlying3 }
open Go.RowKit Go.Lib in
theorem Tryd.strings_Index_shaped (s sub : ByteArray) (w : World) (h : w.ShapedOpen Tryd.prog) (hs : s.size < 4294967281) :
    Calls Tryd.prog 102 #[.string s, .string sub] w fun e w' => e = .returned (.int .i64 (Lib.index s.data.toList sub.data.toList)) ∧ w' = w := Any.strings_Index_shaped Tryd.laysM143 s sub w h hs
def Tryd.lays206_ren : Go.Shelf.Ren := ⟨fun | 206 => 112 | n => n, fun | 9 => 9 | 4 => 4 | 3 => 3 | n => n, fun | n => n⟩
theorem Tryd.lays206 : Go.Proofs.Lays.n206 Tryd.prog Tryd.lays206_ren := {
  mixed := by kernel_rfl
  f206 := Tryd.func112.trans (congrArg some (by kernel_rfl))
  t3 := Tryd.underlying3
  a3 := Tryd.isAgg3
  z3 := Tryd.sizeOf3
  v3 := Tryd.zeroValue3
  t4 := Tryd.underlying4
  a4 := Tryd.isAgg4
  z4 := Tryd.sizeOf4
  v4 := Tryd.zeroValue4
  t9 := Tryd.underlying9
  a9 := Tryd.isAgg9
  z9 := Tryd.sizeOf9
  v9 := Tryd.zeroValue9 }
open Go.RowKit Go.Lib in
/-- internal/stringslite.HasPrefix (what strings.HasPrefix calls). (LAID: no walk: one application.) -/
theorem Tryd.stringslite_HasPrefix (s p : ByteArray) (w : World) :
    Calls Tryd.prog 112 #[.string s, .string p] w fun e w' => e = .returned (.bool (Lib.hasPrefix s.data.toList p.data.toList)) ∧ w' = w := Any.stringslite_HasPrefix Tryd.lays206 s p w
def Tryd.lays99_ren : Go.Shelf.Ren := ⟨fun | 99 => 101 | 206 => 112 | n => n, fun | 9 => 9 | 4 => 4 | 3 => 3 | n => n, fun | n => n⟩
theorem Tryd.lays99 : Go.Proofs.Lays.n99 Tryd.prog Tryd.lays99_ren := {
  mixed := by kernel_rfl
  f99 := Tryd.func101.trans (congrArg some (by kernel_rfl))
  f206 := Tryd.func112.trans (congrArg some (by kernel_rfl))
  t3 := Tryd.underlying3
  a3 := Tryd.isAgg3
  z3 := Tryd.sizeOf3
  v3 := Tryd.zeroValue3
  t4 := Tryd.underlying4
  a4 := Tryd.isAgg4
  z4 := Tryd.sizeOf4
  v4 := Tryd.zeroValue4
  t9 := Tryd.underlying9
  a9 := Tryd.isAgg9
  z9 := Tryd.sizeOf9
  v9 := Tryd.zeroValue9 }
open Go.RowKit Go.Lib in
/-- strings.HasPrefix: "HasPrefix reports whether the string s begins with prefix.": IT RETURNS 'Lib.hasPrefix s prefix'; the world is as it was. (LAID: no walk: one application.) -/
theorem Tryd.strings_HasPrefix (s p : ByteArray) (w : World) :
    Calls Tryd.prog 101 #[.string s, .string p] w fun e w' => e = .returned (.bool (Lib.hasPrefix s.data.toList p.data.toList)) ∧ w' = w := Any.strings_HasPrefix Tryd.lays99 s p w
def Tryd.lays109_ren : Go.Shelf.Ren := ⟨fun | 109 => 94 | n => n, fun | 31 => 27 | 9 => 9 | 3 => 3 | 0 => 0 | 4 => 4 | n => n, fun | n => n⟩
theorem Tryd.lays109 : Go.Proofs.Lays.n109 Tryd.prog Tryd.lays109_ren := {
  mixed := by kernel_rfl
  f109 := Tryd.func94.trans (congrArg some (by kernel_rfl))
  t0 := Tryd.underlying0
  a0 := Tryd.isAgg0
  z0 := Tryd.sizeOf0
  v0 := Tryd.zeroValue0
  t3 := Tryd.underlying3
  a3 := Tryd.isAgg3
  z3 := Tryd.sizeOf3
  v3 := Tryd.zeroValue3
  t4 := Tryd.underlying4
  a4 := Tryd.isAgg4
  z4 := Tryd.sizeOf4
  v4 := Tryd.zeroValue4
  t9 := Tryd.underlying9
  a9 := Tryd.isAgg9
  z9 := Tryd.sizeOf9
  v9 := Tryd.zeroValue9
  t31 := Tryd.underlying27
  a31 := Tryd.isAgg27
  z31 := Tryd.sizeOf27
  v31 := Tryd.zeroValue27 }
open Go.Lib in
/-- slices.Index at []string: "Index returns the index of the first occurrence of v in s, or -1 if not present.": IT RETURNS 'Lib.idxOfS (the elements) v'; the world is as it was. 'zs': what the cells behind the slice's address hold (its spare capacity too, if you have it); 'zs.take n': its elements. (LAID: no walk: one application.) -/
theorem Tryd.slices_Index_string (b off n c : Nat) (zs : List ByteArray) (x : ByteArray) (w : World) (hz : n ≤ zs.length) (hbig : n ≤ 9223372036854775807) (hc : ∀ j, j < zs.length → w.cell? ⟨b, off + j, none⟩ = some (.string (zs.getD j ByteArray.empty))) :
    Calls Tryd.prog 94 #[.slice (some ⟨b, off, none⟩) n c, .string x] w fun e w' => e = .returned (.int .i64 (Lib.idxOfS (zs.take n) x)) ∧ w' = w := Any.slices_Index_string Tryd.lays109 b off n c zs x w hz hbig hc
open Go.Lib in
/-- The same at a slice of length 0, a nil one too: no cell is known, none is asked for. (LAID: no walk: one application.) -/
theorem Tryd.slices_Index_string_empty (a : Option Addr) (c : Nat) (x : ByteArray) (w : World) :
    Calls Tryd.prog 94 #[.slice a 0 c, .string x] w fun e w' => e = .returned (.int .i64 (Lib.idxOfS [] x)) ∧ w' = w := Any.slices_Index_string_empty Tryd.lays109 a c x w
def Tryd.lays193_ren : Go.Shelf.Ren := ⟨fun | 193 => 93 | n => n, fun | 31 => 27 | 9 => 9 | 4 => 4 | 3 => 3 | 0 => 0 | n => n, fun | n => n⟩
theorem Tryd.lays193 : Go.Proofs.Lays.n193 Tryd.prog Tryd.lays193_ren := {
  mixed := by kernel_rfl
  f193 := Tryd.func93.trans (congrArg some (by kernel_rfl))
  t0 := Tryd.underlying0
  a0 := Tryd.isAgg0
  z0 := Tryd.sizeOf0
  v0 := Tryd.zeroValue0
  t3 := Tryd.underlying3
  a3 := Tryd.isAgg3
  z3 := Tryd.sizeOf3
  v3 := Tryd.zeroValue3
  t4 := Tryd.underlying4
  a4 := Tryd.isAgg4
  z4 := Tryd.sizeOf4
  v4 := Tryd.zeroValue4
  t9 := Tryd.underlying9
  a9 := Tryd.isAgg9
  z9 := Tryd.sizeOf9
  v9 := Tryd.zeroValue9
  t31 := Tryd.underlying27
  a31 := Tryd.isAgg27
  z31 := Tryd.sizeOf27
  v31 := Tryd.zeroValue27 }
open Go.RowKit Go.Lib in
/-- slices.Equal at []string: "Equal reports whether two slices are equal: the same length and all elements equal. If the lengths are different, Equal returns false. Otherwise, the elements are compared in increasing index order, and the comparison stops at the first unequal pair. Empty and nil slices are considered equal.": IT RETURNS WHETHER THE TWO LISTS OF ELEMENTS ARE ONE; the world is as it was but for the count of draws (the test 's1[i] != s2[i]' has two reads, whose order the model draws, once a round). 'xs', 'ys': what the cells behind the two addresses hold (the spare capacity too, if you have it); 'xs.take n', 'ys.take m': the elements. THE TWO SLICES MAY OVERLAP. (LAID: no walk: one application.) -/
theorem Tryd.slices_Equal_string (b1 o1 n c b2 o2 m d : Nat) (xs ys : List ByteArray) (w : World) (hx : n ≤ xs.length) (hy : m ≤ ys.length) (hbig : n ≤ 9223372036854775807) (hbig2 : m ≤ 9223372036854775807) (hc1 : ∀ j, j < xs.length → w.cell? ⟨b1, o1 + j, none⟩ = some (.string (xs.getD j ByteArray.empty))) (hc2 : ∀ j, j < ys.length → w.cell? ⟨b2, o2 + j, none⟩ = some (.string (ys.getD j ByteArray.empty))) :
    Calls Tryd.prog 93 #[.slice (some ⟨b1, o1, none⟩) n c, .slice (some ⟨b2, o2, none⟩) m d] w fun e w' => e = .returned (.bool (decide (xs.take n = ys.take m))) ∧ ∃ q, w' = w.drewN q := Any.slices_Equal_string Tryd.lays193 b1 o1 n c b2 o2 m d xs ys w hx hy hbig hbig2 hc1 hc2
open Go.RowKit Go.Lib in
/-- The same where the first is of length 0 (a nil one too): no cell is asked for. (LAID: no walk: one application.) -/
theorem Tryd.slices_Equal_string_empty (a1 a2 : Option Addr) (c m d : Nat) (w : World) (hbig2 : m ≤ 9223372036854775807) :
    Calls Tryd.prog 93 #[.slice a1 0 c, .slice a2 m d] w fun e w' => e = .returned (.bool (decide (m = 0))) ∧ w' = w := Any.slices_Equal_string_empty Tryd.lays193 a1 a2 c m d w hbig2
open Go.RowKit Go.Lib in
theorem Tryd.slices_Equal_string_lens (a1 a2 : Option Addr) (n c m d : Nat) (w : World) (hnm : n ≠ m) :
    Calls Tryd.prog 93 #[.slice a1 n c, .slice a2 m d] w fun e w' => e = .returned (.bool false) ∧ w' = w := Any.slices_Equal_string_lens Tryd.lays193 a1 a2 n c m d w hnm
end Go.Proofs
/- gtok's tokens: bytes, comments, marks. -/
namespace Go.Proofs.YtliofoikejdjeaaDoor
open Go.RowKit Go.Proofs.YtliofoikejdjeaaDoorW.PrintWords
set_option linter.unusedVariables false
set_option linter.unusedSimpArgs false
theorem white_byte : ∀ c : UInt8, decide (0 ≤ Lib.indexByte [32, 9, 10, 13] c) = whiteB c := by
  have h : ∀ n : Fin 256, decide (0 ≤ Lib.indexByte [32, 9, 10, 13] (UInt8.ofNat n.val)) = whiteB (UInt8.ofNat n.val) := by decide +kernel
  intro c
  have := h ⟨c.toNat, c.toNat_lt⟩
  simpa using this
theorem gtok_white (c : UInt8) (w : World) : Calls Tryd.prog 74 #[.int .u8 c.toNat] w fun e w' => e = .returned (.bool (whiteB c)) ∧ w' = w := by
  have hb : ((c.toNat : Int).toNat).toUInt8 = c := by simp
  have hc := Tryd.strings_IndexByte ⟨#[32, 9, 10, 13]⟩ (c.toNat : Int) w
  rw [hb] at hc
  have hw := white_byte c
  obtain ⟨n, hn⟩ : ∃ n, Lib.indexByte [32, 9, 10, 13] c = n := ⟨_, rfl⟩
  have hc' : Calls Tryd.prog 100 #[.string ⟨#[32, 9, 10, 13]⟩, .int .u8 (c.toNat : Int)] w fun e w' => e = .returned (.int .i64 n) ∧ w' = w := by rw [← hn]; exact hc
  have HW : Aside0 (decide (0 ≤ n) = whiteB c) := ⟨by rw [← hn]; exact hw⟩
  clear hw hn hc hb
  go_enter Tryd.func74, Tryd.ntmps74
  go_wp2_with (go_at_call 100; refine hc'.mono ?_; rintro e w' ⟨rfl, rfl⟩)
  go_ret
  exact ⟨rbool HW.out, rfl⟩
theorem gtok_letter (c : UInt8) (w : World) : Calls Tryd.prog 80 #[.int .u8 c.toNat] w fun e w' => e = .returned (.bool (letterB c)) ∧ w' = w := by
  have hc := char_Class c w
  have HL : Aside0 (letterB c = (decide (cls c.toNat = 4) || decide (cls c.toNat = 3))) := ⟨rfl⟩
  generalize cls c.toNat = k at hc HL
  by_cases h4 : k = 4
  · subst h4
    go_enter Tryd.func80, Tryd.ntmps80
    go_wp2_with (go_at_call 79; refine hc.mono ?_; rintro e w' ⟨rfl, rfl⟩)
    go_ret
    exact ⟨rbool (by rw [HL.out]; rfl), rfl⟩
  · have hq : (k == 4) = false := beq_false_of_ne h4
    have H4 := Aside0.mk h4
    clear h4
    go_enter Tryd.func80, Tryd.ntmps80
    go_wp2_with (go_at_call 79; refine hc.mono ?_; rintro e w' ⟨rfl, rfl⟩)
    go_ret
    exact ⟨rbool (by rw [HL.out]; simp only [H4.out, decide_false, Bool.false_or]; rw [Bool.eq_iff_iff]; simp), rfl⟩
theorem gtok_sign (c : UInt8) (w : World) : Calls Tryd.prog 81 #[.int .u8 c.toNat] w fun e w' => e = .returned (.int .i64 (signS c.toNat)) ∧ w' = w := by
  have hn : ∀ k : Nat, c.toNat ≠ k → ((c.toNat : Int) == (k : Int)) = false := fun k h => beq_false_of_ne (by omega)
  by_cases h1 : c.toNat = 58
  · rw [h1, show (((58 : Nat) : Int)) = 58 from rfl]
    go_enter Tryd.func81, Tryd.ntmps81
    go_wp2
    go_ret
    exact ⟨rfl, rfl⟩
  · by_cases h2 : c.toNat = 124
    · rw [h2, show (((124 : Nat) : Int)) = 124 from rfl]
      go_enter Tryd.func81, Tryd.ntmps81
      go_wp2
      go_ret
      exact ⟨rfl, rfl⟩
    · by_cases h3 : c.toNat = 59
      · rw [h3, show (((59 : Nat) : Int)) = 59 from rfl]
        go_enter Tryd.func81, Tryd.ntmps81
        go_wp2
        go_ret
        exact ⟨rfl, rfl⟩
      · have q1 := hn 58 h1
        have q2 := hn 124 h2
        have q3 := hn 59 h3
        have HS : Aside0 (signS c.toNat = 0) := ⟨by unfold signS; rw [if_neg h1, if_neg h2, if_neg h3]⟩
        clear hn h1 h2 h3
        go_enter Tryd.func81, Tryd.ntmps81
        go_wp2
        go_ret
        exact ⟨rint HS.out.symm, rfl⟩
/-- The variable of the library's search holds some number. -/
def MxAt (w : World) : Prop := ∃ m, w.cell? ⟨3, 0, none⟩ = some (.int .i64 m)
theorem MxAt.below {w w' : World} (h : MxAt w) (hb : Below w.heap.size w w') : MxAt w' := by
  obtain ⟨m, hm⟩ := h
  exact ⟨m, pw_cell_below hb hm⟩
theorem extract_list (s : ByteArray) (a : Nat) : (s.extract a s.size).data.toList = s.data.toList.drop a := by
  rw [ByteArray.data_extract, Array.toList_extract, List.extract_eq_take_drop, List.take_of_length_le]
  rw [List.length_drop, data_length]
  omega
theorem prefix2 {s : ByteArray} {a : Nat} (h : a < s.size) (x y : UInt8) (hx : s[a]'h = x) : Lib.hasPrefix (s.data.toList.drop a) [x, y] = decide (byteN s (a + 1) = y.toNat ∧ a + 1 < s.size) := by
  have hl := data_length s
  rw [List.drop_eq_getElem_cons (by omega), show s.data.toList[a]'(by omega) = x from hx]
  by_cases h2 : a + 1 < s.size
  · rw [List.drop_eq_getElem_cons (by omega)]
    have hb := byteN_at h2
    rw [← hb]
    simp only [Lib.hasPrefix, List.isPrefixOf, beq_self_eq_true, Bool.true_and, Bool.and_true, h2, and_true]
    rw [Bool.eq_iff_iff]
    simp only [beq_iff_eq, decide_eq_true_eq]
    rw [show s.data.toList[a + 1]'(by omega) = s[a + 1]'h2 from rfl]
    constructor
    · intro h; rw [h]
    · intro h; exact (UInt8.toNat_inj.1 h).symm
  · rw [List.drop_eq_nil_of_le (by omega)]
    simp [Lib.hasPrefix, List.isPrefixOf, h2]
end Go.Proofs.YtliofoikejdjeaaDoor
/- The cards' common part: closed facts, what the rows' conditions give the walks, the wrap that keeps the world's shape. -/
namespace Go.Proofs.YtliofoikejdjeaaDoor
open Go.RowKit Go.Proofs.YtliofoikejdjeaaDoorW.PrintWords Go.ChangeShapes Go.WideShapes Go.ChangeAt
set_option linter.unusedVariables false
set_option linter.unusedSimpArgs false
theorem own : ownKnob Tryd.prog.godebug = none := by kernel_rfl
theorem laidOut : laidOutB Tryd.pinned.checked.prog = true := by kernel_rfl
/-- The library's variable holds some number: the form asks it of every world. -/
theorem mxAt_of_shaped {W : World} (h : W.ShapedOpen Tryd.prog) : MxAt W := by
  have h0 : (((begin Tryd.prog (fun _ _ => 0) default).world.heap[3]?).bind Obj.row?).map (fun x => (x.1.size, x.2)) = some (1, 3) := by kernel_rfl
  obtain ⟨⟨zero, t⟩, hz, he⟩ := Option.map_eq_some_iff.1 h0
  simp only [Prod.mk.injEq] at he
  obtain ⟨he1, rfl⟩ := he
  exact cell_of_shapedOpen_int h (of_decide_eq_true (by kernel_rfl)) hz he1 (by kernel_rfl) (by kernel_rfl) Tryd.underlying3
/-- A table of strings that reads as the list holds the list's strings, cell for cell. -/
theorem cells_of_strs {H : Type} {enc : TypeId × Value → H} {P : Program} {w : World} {base : Nat} {sp : Nat → Bool} {held : Bool} {fuel : Nat} {t e : TypeId} {n : Nat} {cs : List Value} {zs : List ByteArray} {p : List MemPlace}
    (ht : P.underlying t = some (.array n e)) (he : P.underlying e = some .string) (hce : P.cellsOf e = 1) (hct : P.cellsOf t = n)
    (h : DataW.trod enc P w base sp held fuel t cs = some (.agg (zs.map fun z => .lit (.string z.data.toList)), p)) : cs = zs.map Value.string := by
  cases fuel with
  | zero => simp [DataW.trod] at h
  | succ fuel =>
    simp only [DataW.trod, ht, hce, hct, Nat.mul_one] at h
    split at h
    · rename_i hl
      obtain ⟨xs, hm, hx⟩ := Option.map_eq_some_iff.1 h
      have hxs : xs.map (·.1) = zs.map fun z => (DataW.lit (.string z.data.toList) : DataW H) := by
        have := congrArg Prod.fst hx
        simpa using this
      have hxl : xs.length = n := by simpa using Lib.mapM_length hm
      have hzl : zs.length = n := by
        have := congrArg List.length hxs
        simp at this
        omega
      apply List.ext_getElem?
      intro i
      by_cases hi : i < n
      · obtain ⟨b, hb, hf⟩ := Lib.mapM_at hm i i (by simp [hi])
        obtain ⟨z, hc, rfl, _⟩ := DataW.trod_string he hf
        have h1 : cs[i]? = some (.string z) := by
          have := congrArg (·[0]?) hc
          simpa [List.getElem?_take, List.getElem?_drop] using this
        have h2 : (xs.map (·.1))[i]? = some (DataW.lit (.string z.data.toList) : DataW H) := by simp [hb]
        rw [hxs] at h2
        simp only [List.getElem?_map, Option.map_eq_some_iff, DataW.lit.injEq, Lit.string.injEq] at h2
        obtain ⟨z', hz', e2⟩ := h2
        have e3 := WideShapes.bytes_inj e2
        subst e3
        simp [h1, hz']
      · rw [List.getElem?_eq_none (by omega), List.getElem?_eq_none (by simp; omega)]
    · cases h
theorem var_strs {W : World} {name : String} {zs : List ByteArray} {g : Nat} (hg : Tryd.prog.globalNamed name = some g) (hv : W.var? Tryd.prog name = some (zs.map Value.string).toArray) (i : Nat) (hi : i < zs.length) : W.cell? ⟨g, i, none⟩ = some (.string (zs.getD i default)) := by
  have := World.var?_cell hg hv i
  rw [this]
  simp [hi, List.getD_eq_getElem?_getD]
def layPosix : List (String × DataW Unit) := [("conch/oper.texts", Rows.laid_conch_oper_texts), ("conch/posix.reserved", Rows.laid_conch_posix_reserved)]
theorem gTexts : Tryd.prog.globalNamed "conch/oper.texts" = some 1 := by kernel_rfl
theorem gWords : Tryd.prog.globalNamed "conch/posix.reserved" = some 0 := by kernel_rfl
theorem texts_is : (Rows.laid_conch_oper_texts : DataW Unit) = .agg (operTexts.map fun z => .lit (.string z.data.toList)) := rfl
theorem words_is : (Rows.laid_conch_posix_reserved : DataW Unit) = .agg (resWords.map fun z => .lit (.string z.data.toList)) := rfl
theorem tTexts : (Tryd.prog.globals[1]?).map (·.type) = some 100 := by kernel_rfl
theorem tWords : (Tryd.prog.globals[0]?).map (·.type) = some 54 := by kernel_rfl
/-- What the rows of posix list gives the walks. -/
theorem posix_of_laid {W : World} (h : laidMetH Tryd.prog layPosix W) : TextsAt W ∧ WordsAt W := by
  rw [MakeChecks.laidMetH_plain _ _ _ (by kernel_rfl)] at h
  obtain ⟨ps, ⟨g0, t0, cs0, f0, p0, q0, hg0, ht0, hv0, hd0, ⟨g1, t1, cs1, f1, p1, q1, hg1, ht1, hv1, hd1, _, _⟩, _⟩, _, _⟩ := h
  obtain rfl := Option.some.inj (gTexts.symm.trans hg0)
  obtain rfl := Option.some.inj (gWords.symm.trans hg1)
  obtain rfl := Option.some.inj (tTexts.symm.trans ht0)
  obtain rfl := Option.some.inj (tWords.symm.trans ht1)
  rw [texts_is] at hd0
  rw [words_is] at hd1
  have c0 := cells_of_strs Tryd.underlying100 Tryd.underlying9 (by kernel_rfl) (by kernel_rfl) hd0
  have c1 := cells_of_strs Tryd.underlying54 Tryd.underlying9 (by kernel_rfl) (by kernel_rfl) hd1
  refine ⟨fun i hi => var_strs gTexts ?_ i hi, fun i hi => var_strs gWords ?_ i hi⟩
  · rw [hv0, ← c0]
  · rw [hv1, ← c1]
/-- The door's own heap meets the condition. -/
theorem posix_door (os : Os) (args : Array Value) : laidMetH Tryd.prog layPosix ((World.doorLaid Tryd.prog 400 os).forCall (fun _ _ => 0) ⟨#[], args, []⟩).memory :=
  laidMetH_of_parts3 (fuel := 8) (laidMet_of_run' 8 (by kernel_rfl) (by kernel_rfl)) (by kernel_rfl) (by kernel_rfl)
section
variable {H : Type} {enc : TypeId × Value → H}
/-- The wrap of a row that lists variables, the world's shape kept. -/
theorem returns_laid_shaped {a : Assume} {C : Checked} {os : Os} {f : FuncId} {fn : Func} {s : ChangeSpec} {conds : List PathCond} {apart fresh handsOn again : Bool} {X : World → Array Value → Prop}
    (hX : ∀ (w w' : World) (args : Array Value), w.heap = w'.heap → X w args → X w' args)
    (own : ownKnob C.prog.godebug = none) (started : os.Started) (noInit : C.prog.inits.idxOf? f = none) (hfn : C.prog.funcs[f]? = some fn)
    (witness : ∃ (w : World) (tape : Tape) (i : Input), w.os = os ∧ (w.forCall tape i).Shaped C.prog ∧ i.vars = [] ∧ Input.okWide C.prog (w.forCall tape i) .any w.heap.size f i ∧
      ((s.pre enc C.prog fn conds apart (w.forCall tape i).memory i.args ∧ X (w.forCall tape i).memory i.args) ∧ sizedMet enc C.prog fn (OpenSpec.ofChange s) apart (w.forCall tape i).memory i.args) ∧ a.holds C.prog (lone (Frame.enter C.prog f i.args .normal) [] (w.forCall tape i)))
    (contract : ∀ (W : World) (base : Nat) (args : Array Value) (ds gs : List (DataW H)) (before : List MemPlace),
      (∀ (j : Nat) t v, fn.params[j]? = some t → args[j]? = some v → Value.okWide C.prog W .any base t v) →
      DataW.Whole enc C.prog fn.params.toList s.vars apart W args.toList ds gs before →
      conds.all (PathCond.test C.prog ⟨fn.params.toList, ds, s.plain.varTypes C.prog, gs⟩) = true →
      (DataW.weightsEach C.prog (fn.params.toList ++ s.plain.varTypes C.prog) (ds ++ gs)).all (· ≤ reachBytes) = true → X W args → W.ShapedOpen C.prog →
      Calls C.prog f args W fun e W' => ∃ v, e = .returned v ∧ s.post enc C.prog fn apart fresh handsOn again W args v W') :
    ReturnsInHanded a C os f .any (fun w args => (s.pre enc C.prog fn conds apart w args ∧ X w args) ∧ sizedMet enc C.prog fn (OpenSpec.ofChange s) apart w args) (s.post enc C.prog fn apart fresh handsOn again) := by
  refine returnsInHanded_of_calls own started noInit witness ?_
  intro w tape i _ hsh _ hok hpre _
  obtain ⟨_, _, _, fn', hfn', _, _, _, _, hval⟩ := hok
  have e : fn' = fn := Option.some.inj (hfn'.symm.trans hfn)
  subst e
  obtain ⟨⟨⟨ds, gs, before, hw, hc⟩, hx⟩, hz⟩ := hpre
  have hw' := DataW.Whole.of_heap (w' := w.forCall tape i) (by rfl) hw
  refine (contract (w.forCall tape i) w.heap.size i.args ds gs before hval hw' hc (hz.weights hw) (hX _ _ _ (by rfl) hx) hsh).mono fun e W' ⟨v, he, hp⟩ => ?_
  subst he
  exact ChangeSpec.post_blind hp
end
end Go.Proofs.YtliofoikejdjeaaDoor
