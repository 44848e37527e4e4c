/- Texts laid one behind the other: Det, Base, Map, Gram1, Zr, Pa, Fn, Ch, Char, Char2, Tk, Tok, Tq, Tok2. -/
import Derived.Orders
import Derived.KernelRfl
import Derived.Test.YtliofoikejdjeaaGreatProg
import Derived.Test.YtliofoikejdjeaaGreatWWords
import Derived.WalkKit
import Derived.BigQuiet
import Derived.Deep.QuietTactic
import Derived.Deep.LoopGhost
import Derived.Deep.DeepCutAuto
import Derived.Deep.DeepMust
import Derived.Outline
import Derived.Shelf.Abstract
import Derived.WideLaws
import Derived.WalkSpells
import Derived.WalkLawsBesides
import Derived.Maps.Own
import Derived.Maps.OwnOps
import Derived.Maps.OwnSet
import Derived.Maps.Views
import Derived.Test.YtliofoikejdjeaaGreatWLast
import Derived.Test.YtliofoikejdjeaaGreatWArr
import Derived.Lib.OthersKept
/- A region that draws its order, walked once: every operation, run in the region's LAST frame, hands that frame back, in whatever world the region's invariant allows; conditions: each slot is written once, and what an operation reads is written ahead of it ('detOk', by the kernel). -/
namespace Go.Proofs.YtliofoikejdjeaaGreat
open Go
set_option linter.unusedVariables false
set_option linter.unusedSimpArgs false
set_option linter.unnecessarySimpa false

def isSel : Op → Bool
  | .select .. => true
  | _ => false
def noDup : List Nat → Bool
  | [] => true
  | x :: xs => !xs.contains x && noDup xs
def detOk (ops : Array Oper) : Bool :=
  noDup (ops.toList.filterMap (·.dst)) &&
  ops.toList.all fun o => !isSel o.op && (o.looksAt ops).all fun t => (List.range ops.size).all fun j =>
    (ops[j]?.bind (·.dst)) != some t || o.after.any fun e => Region.binds .any e && e.on == j

/-- The frame behind all: each operation's value in its slot. -/
def putAll : List Oper → List Value → Act → Act
  | o :: os, v :: vs, a => putAll os vs (a.put o.dst v)
  | _, _, a => a
/-- One operation in the last frame. -/
def Det1 (P : Program) (ops : Array Oper) (c : Act) (Inv : World → Prop) (o : Oper) : Prop :=
  ∀ W, Inv W → if Region.wanted o (yielded ops c.tmps) then o.wp P c W (fun a' W' => a' = c ∧ Inv W') (fun _ _ _ => False) else c.put o.dst undef = c
def DetAll (P : Program) (ops : Array Oper) (c : Act) (Inv : World → Prop) : List Oper → Prop
  | [] => True
  | o :: os => Det1 P ops c Inv o ∧ DetAll P ops c Inv os

theorem detAll_mem {P : Program} {ops : Array Oper} {c : Act} {Inv : World → Prop} {l : List Oper} (h : DetAll P ops c Inv l) : ∀ o, o ∈ l → Det1 P ops c Inv o := by
  induction l with
  | nil => intro o hm; cases hm
  | cons x xs ih =>
    intro o hm
    obtain ⟨h1, h2⟩ := h
    cases hm with
    | head => exact h1
    | tail _ hm => exact ih h2 o hm

theorem putAll_defers : ∀ (l : List Oper) (vs : List Value) (a : Act), (putAll l vs a).defers = a.defers
  | [], _, _ => by simp [putAll]
  | _ :: _, [], _ => by simp [putAll]
  | o :: os, v :: vs, a => by
    rw [putAll, putAll_defers os vs]
    unfold Act.put
    cases o.dst <;> rfl
theorem put_size (a : Act) (d : Option Tmp) (v : Value) : (a.put d v).tmps.size = a.tmps.size := by
  unfold Act.put
  cases d <;> simp
theorem putAll_size : ∀ (l : List Oper) (vs : List Value) (a : Act), (putAll l vs a).tmps.size = a.tmps.size
  | [], _, _ => by simp [putAll]
  | _ :: _, [], _ => by simp [putAll]
  | o :: os, v :: vs, a => by rw [putAll, putAll_size os vs, put_size]
theorem put_other (a : Act) (d : Option Tmp) (v : Value) (t : Nat) (h : d ≠ some t) : (a.put d v).tmps[t]? = a.tmps[t]? := by
  unfold Act.put
  cases d with
  | none => rfl
  | some d => exact Array.getElem?_setIfInBounds_ne (fun e => h (by rw [e]))
theorem putAll_other (t : Nat) : ∀ (l : List Oper) (vs : List Value) (a : Act), (∀ o ∈ l, o.dst ≠ some t) → (putAll l vs a).tmps[t]? = a.tmps[t]?
  | [], _, _, _ => by simp [putAll]
  | _ :: _, [], _, _ => by simp [putAll]
  | o :: os, v :: vs, a, h => by
    rw [putAll, putAll_other t os vs _ fun o' ho => h o' (List.mem_cons_of_mem _ ho), put_other _ _ _ _ (h o (List.mem_cons_self ..))]

theorem noDup_idx : ∀ (l : List Oper), noDup (l.filterMap (·.dst)) = true → ∀ (i j : Nat) (oi oj : Oper) (d : Nat), l[i]? = some oi → l[j]? = some oj → oi.dst = some d → oj.dst = some d → i = j
  | [], _, i, _, _, _, _, h, _, _, _ => by simp at h
  | o :: os, hn, i, j, oi, oj, d, hi, hj, di, dj => by
    have hn' : noDup (os.filterMap (·.dst)) = true := by
      cases h : o.dst with
      | none => simpa [List.filterMap_cons, h] using hn
      | some e => simp [List.filterMap_cons, h, noDup] at hn; exact hn.2
    have hne : ∀ (k : Nat) (o' : Oper), os[k]? = some o' → o.dst = some d → o'.dst ≠ some d := by
      intro k o' hk h h'
      simp [List.filterMap_cons, h, noDup] at hn
      exact hn.1 o' (List.mem_of_getElem? hk) h'
    cases i with
    | zero =>
      cases j with
      | zero => rfl
      | succ j =>
        simp at hi hj
        subst hi
        exact absurd dj (hne j _ hj di)
    | succ i =>
      cases j with
      | zero =>
        simp at hi hj
        subst hj
        exact absurd di (hne i _ hi dj)
      | succ j =>
        simp at hi hj
        rw [noDup_idx os hn' i j oi oj d hi hj di dj]

/-- How the frame stands while the region runs: what is done has its last value, the rest its first. -/
structure Midway (ops : Array Oper) (c a0 a : Act) (listed : Array Bool) : Prop where
  size : a.tmps.size = c.tmps.size
  defers : a.defers = c.defers
  done : ∀ (j : Nat) (o : Oper) t, ops[j]? = some o → o.dst = some t → listed.getD j false = true → a.tmps[t]? = c.tmps[t]?
  rest : ∀ t, (∀ (j : Nat) (o : Oper), ops[j]? = some o → o.dst ≠ some t) → a.tmps[t]? = c.tmps[t]?

section
variable {P : Program} {ops : Array Oper} {Q : Exit → Act → World → Prop}

theorem det_reads (hck : detOk ops = true) {c a0 a : Act} {listed : Array Bool} (hm : Midway ops c a0 a listed) {i : Nat} {o : Oper} (hi : ops[i]? = some o)
    (hr : ∀ e ∈ o.after, Region.binds .any e = true → listed.getD e.on false = true) : ∀ t ∈ o.looksAt ops, a.tmps[t]? = c.tmps[t]? := by
  intro t ht
  by_cases hw : ∃ (j : Nat) (oj : Oper), ops[j]? = some oj ∧ oj.dst = some t
  · obtain ⟨j, oj, hj, hd⟩ := hw
    refine hm.done j oj t hj hd ?_
    have hck2 := (Bool.and_eq_true _ _ ▸ hck).2
    have ho := List.all_eq_true.1 hck2 o (by simpa using Array.mem_of_getElem? hi)
    have ho2 := List.all_eq_true.1 ((Bool.and_eq_true _ _ ▸ ho).2) t ht
    have hjl : j < ops.size := (Array.getElem?_eq_some_iff.1 hj).1
    have ho3 := List.all_eq_true.1 ho2 j (List.mem_range.2 hjl)
    simp only [hj, Option.bind_some, hd, bne_self_eq_false, Bool.false_or] at ho3
    obtain ⟨q, hq, hb⟩ := Array.any_eq_true.1 ho3
    obtain ⟨e, he, hb⟩ : ∃ e, e ∈ o.after ∧ (Region.binds .any e && e.on == j) = true := ⟨o.after[q], Array.getElem_mem hq, hb⟩
    simp only [Bool.and_eq_true, beq_iff_eq] at hb
    rw [← hb.2]
    exact hr e he hb.1
  · exact hm.rest t fun j oj hj hd => hw ⟨j, oj, hj, hd⟩

theorem eval_same {c a : Act} {x : Operand} (h : ∀ t, x = .tmp t → a.tmps[t]? = c.tmps[t]?) : a.eval x = c.eval x := by
  cases x with
  | tmp t => simp [Act.eval, h t rfl]
  | _ => rfl

theorem put_fix {c : Act} {d : Tmp} {v : Value} (h : c.put (some d) v = c) (hlt : d < c.tmps.size) : c.tmps[d]? = some v := by
  have h1 : (c.put (some d) v).tmps[d]? = c.tmps[d]? := by rw [h]
  rw [← h1]
  simp [Act.put, hlt]

theorem midway_put (hnd : noDup (ops.toList.filterMap (·.dst)) = true) {c a0 a : Act} {listed : Array Bool} (hm : Midway ops c a0 a listed) {i : Nat} {o : Oper} (hi : ops[i]? = some o) {v : Value}
    (hv : c.put o.dst v = c) : Midway ops c a0 (a.put o.dst v) (listed.setIfInBounds i true) := by
  refine ⟨by rw [put_size]; exact hm.size, by rw [← hm.defers]; unfold Act.put; cases o.dst <;> rfl, fun j oj t hj hd hl => ?_, fun t ht => ?_⟩
  · by_cases e : j = i
    · subst e
      obtain rfl : oj = o := Option.some.inj (hj.symm.trans hi)
      rw [hd] at hv ⊢
      by_cases hlt : t < c.tmps.size
      · rw [put_fix hv hlt]
        simp [Act.put, hm.size, hlt]
      · have h1 := put_size a (some t) v
        have h2 := hm.size
        rw [Array.getElem?_eq_none (Nat.le_trans (Nat.le_of_eq (h1.trans h2)) (Nat.le_of_not_lt hlt)), Array.getElem?_eq_none (Nat.le_of_not_lt hlt)]
    · have hne : o.dst ≠ some t := fun h => e (noDup_idx ops.toList hnd j i oj o t (by simpa using hj) (by simpa using hi) hd h)
      rw [put_other _ _ _ _ hne]
      refine hm.done j oj t hj hd ?_
      rwa [getD_set_ne false (fun h => e h.symm)] at hl
  · rw [put_other _ _ _ _ (ht i o hi)]
    exact hm.rest t ht

theorem det_wp {c a : Act} {o : Oper} {W : World} {Inv : World → Prop} {K : Act → World → Prop} (he : execOp a.eval o = execOp c.eval o)
    (h : o.wp P c W (fun a' W' => a' = c ∧ Inv W') (fun _ _ _ => False)) (hdf : a.defers = c.defers) (hK : ∀ v W', c.put o.dst v = c → Inv W' → K (a.put o.dst v) W') : o.wp P a W K Q := by
  unfold Oper.wp at *
  rw [he]
  generalize (execOp c.eval o).run P W = r at *
  cases r with
  | ok n w' =>
    cases n with
    | value v => exact hK v w' h.1 h.2
    | skip => exact hK _ w' h.1 h.2
    | defer d =>
      have h1 : ({ c with defers := d :: c.defers }.put o.dst undef).defers = c.defers := by rw [h.1]
      unfold Act.put at h1
      have h2 : (d :: c.defers) = c.defers := by cases hd : o.dst <;> simpa [hd] using h1
      have h3 := congrArg List.length h2
      simp at h3
    | enter f args =>
      refine Calls.mono h fun e w'' he => ?_
      cases e with
      | returned u => exact hK u w'' he.1 he.2
      | panicked c => exact he.elim
      | outgrown => obtain ⟨_, _, hh⟩ := he; exact hh.elim
    | row row args => exact Rows.mono h fun u w'' he => hK u w'' he.1 he.2
    | _ => exact h.elim
  | halt x w' => cases x <;> exact h.elim

theorem det_any (hck : detOk ops = true) {c a0 : Act} {Inv : World → Prop} (hops : ∀ o ∈ ops.toList, Det1 P ops c Inv o) (hQ : ∀ W, Inv W → Q .normal c W) :
    ∀ (fuel : Nat) (listed : Array Bool) (a : Act) (W : World), listed.size = ops.size → (∀ i, i < ops.size → listed.getD i false = true ∨ True) → Midway ops c a0 a listed → Inv W →
      (Region.ready .any ops listed = [] → ∀ j, j < ops.size → listed.getD j false = true) → (fuel + (listed.toList.filter id).length = ops.size) →
      (∀ l : Array Bool, l.size = ops.size → Region.ready .any ops l = [] → ∀ j, j < ops.size → l.getD j false = true) → wpAny P .any ops Q fuel listed a W := by
  have hnd := (Bool.and_eq_true _ _ ▸ hck).1
  have fin : ∀ (listed : Array Bool) (a : Act) (W : World), Midway ops c a0 a listed → Inv W → (∀ j, j < ops.size → listed.getD j false = true) → Q .normal a W := by
    intro listed a W hm hI hall
    have : a = c := by
      have ht : a.tmps = c.tmps := by
        apply Array.ext_getElem?
        intro t
        by_cases hw : ∃ (j : Nat) (oj : Oper), ops[j]? = some oj ∧ oj.dst = some t
        · obtain ⟨j, oj, hj, hd⟩ := hw
          exact hm.done j oj t hj hd (hall j (Array.getElem?_eq_some_iff.1 hj).1)
        · exact hm.rest t fun j oj hj hd => hw ⟨j, oj, hj, hd⟩
      obtain ⟨t1, d1⟩ := a
      obtain ⟨t2, d2⟩ := c
      simp only at ht
      have hd := hm.defers
      simp only at hd
      rw [ht, hd]
    rw [this]
    exact hQ W hI
  intro fuel
  induction fuel with
  | zero =>
    intro listed a W hs _ hm hI hr hf hend
    have hall : ∀ j, j < ops.size → listed.getD j false = true := by
      have hl : (listed.toList.filter id).length = listed.toList.length := by simp at hf ⊢; omega
      have hfl := List.length_filter_eq_length_iff.1 hl
      intro j hj
      have hj' : j < listed.size := by omega
      have := hfl (listed[j]'hj') (by simp)
      simpa [Array.getD, hj'] using this
    refine ⟨?_, fin listed a W hm hI hall⟩
    apply List.eq_nil_iff_forall_not_mem.2
    intro j hj
    obtain ⟨h0, o, ho, _⟩ := mem_ready.1 hj
    have hlt : j < ops.size := (Array.getElem?_eq_some_iff.1 ho).1
    have h1 := hall j hlt
    have hj' : j < listed.size := by omega
    simp [Array.getD, hj'] at h0 h1
    rw [h0] at h1
    cases h1
  | succ fuel ih =>
    intro listed a W hs _ hm hI hr hf hend
    refine ⟨fun h => fin listed a W hm hI (hr h), fun i hi => ?_⟩
    obtain ⟨h0, o, ho, hrd⟩ := mem_ready.1 hi
    have hlt : i < ops.size := (Array.getElem?_eq_some_iff.1 ho).1
    have hsame := det_reads hck hm ho hrd
    have hsel : ∀ cs b, o.op ≠ .select cs b := by
      intro cs b h
      have hck2 := (Bool.and_eq_true _ _ ▸ hck).2
      have hoo := List.all_eq_true.1 hck2 o (by simpa using Array.mem_of_getElem? ho)
      simp [h, isSel] at hoo
    have he : execOp a.eval o = execOp c.eval o := execOp_congr o hsel fun x hx => eval_same fun t ht => hsame t (by
      subst ht
      exact List.mem_append_left _ (List.mem_filterMap.2 ⟨.tmp t, by simpa using hx, rfl⟩))
    have hwn : Region.wanted o (yielded ops a.tmps) = Region.wanted o (yielded ops c.tmps) := by
      unfold Region.wanted
      cases hg : o.guard with
      | none => rfl
      | some gw =>
        obtain ⟨g, want⟩ := gw
        have : yielded ops a.tmps g = yielded ops c.tmps g := by
          unfold yielded
          cases ht : (ops[g]?).bind (·.dst) with
          | none => rfl
          | some t =>
            simp only [Option.bind_some]
            rw [hsame t (by simp [Oper.looksAt, hg, ht])]
        simp only [this]
    have hD := hops o (by simpa using Array.mem_of_getElem? ho) W hI
    have hnext : ∀ v W', c.put o.dst v = c → Inv W' → wpAny P .any ops Q fuel (listed.setIfInBounds i true) (a.put o.dst v) W' := by
      intro v W' hv hI'
      refine ih _ _ _ (by simpa using hs) (fun _ _ => .inr trivial) (midway_put hnd hm ho hv) hI' (hend _ (by simpa using hs)) ?_ hend
      have hi' : i < listed.size := by omega
      have hfalse : listed[i] = false := by simpa [Array.getD, hi'] using h0
      have : ((listed.setIfInBounds i true).toList.filter id).length = (listed.toList.filter id).length + 1 := by
        rw [Array.toList_setIfInBounds]
        have key : ∀ (l : List Bool) (k : Nat) (hk : k < l.length), l[k] = false → ((l.set k true).filter id).length = (l.filter id).length + 1 := by
          intro l
          induction l with
          | nil => intro k hk; simp at hk
          | cons b l ihl =>
            intro k hk hb
            cases k with
            | zero => simp at hb; subst hb; simp
            | succ k =>
              simp at hb hk
              have := ihl k hk hb
              cases b <;> simp [this]
        exact key listed.toList i (by simpa using hi') (by simpa using hfalse)
      omega
    unfold wpOp
    simp only [ho]
    rw [hwn]
    split
    · rename_i hw
      rw [if_pos hw] at hD
      exact .inl (det_wp he hD hm.defers hnext)
    · rename_i hw
      rw [if_neg hw] at hD
      exact hnext _ _ hD hI

/-- Whatever is not done, something of it can be done: the edges lead back. -/
def backOk (ops : Array Oper) : Bool :=
  (List.range ops.size).all fun i => ((ops[i]?).map fun o => o.after.all fun e => !Region.binds .any e || decide (e.on < i)).getD true
theorem back_ready (hb : backOk ops = true) (l : Array Bool) (hs : l.size = ops.size) (hr : Region.ready .any ops l = []) : ∀ j, j < ops.size → l.getD j false = true := by
  intro j
  induction j using Nat.strongRecOn with
  | _ j ih =>
    intro hj
    have hj' : j < l.size := by omega
    cases hd : l.getD j false with
    | true => rfl
    | false =>
      exfalso
      have ho : ops[j]? = some ops[j] := Array.getElem?_eq_getElem hj
      have hbj := List.all_eq_true.1 hb j (List.mem_range.2 hj)
      simp only [ho, Option.map_some, Option.getD_some] at hbj
      have : j ∈ Region.ready .any ops l := mem_ready.2 ⟨by simpa [Array.getD, hj'] using hd, ops[j], ho, fun e he hbn => by
        have h1 := Array.all_eq_true_iff_forall_mem.1 hbj e he
        simp [hbn] at h1
        exact ih e.on h1 (by omega)⟩
      rw [hr] at this
      cases this

theorem wp_region_det {id : Nat} {l : List Oper} {a0 c : Act} {w : World} (vs : List Value) (Inv : World → Prop) (hm : P.follows .mixedOrders = true) (hck : (detOk l.toArray && backOk l.toArray) = true)
    (hc : putAll l vs a0 = c) (hI : Inv { w with drawn := w.drawn + 1 }) (hops : DetAll P l.toArray c Inv l) (hQ : ∀ W, Inv W → Q .normal c W) : (Code.region id l.toArray true).wp P Q a0 w := by
  simp only [Bool.and_eq_true] at hck
  refine wp_region_any hm ?_
  refine det_any (a0 := a0) hck.1 (by simpa using detAll_mem hops) hQ _ _ _ _ (by simp) (fun _ _ => .inr trivial) ?_ hI (back_ready hck.2 _ (by simp)) (by simp) (back_ready hck.2)
  refine ⟨by rw [← hc, putAll_size], by rw [← hc, putAll_defers], fun j o t hj hd hl => ?_, fun t ht => ?_⟩
  · simp only [Array.getD_eq_getD_getElem?, Array.getElem?_replicate] at hl
    split at hl <;> simp at hl
  · rw [← hc, putAll_other t l vs a0 fun o ho => ?_]
    obtain ⟨j, hj⟩ := List.mem_iff_getElem?.1 ho
    exact ht j o (by simpa using hj)
end
end Go.Proofs.YtliofoikejdjeaaGreat
/- The kinds of the program's data: a rule, a grammar; how they lie in memory. -/
namespace Go.Proofs.YtliofoikejdjeaaGreat
open Go.RowKit Go.Proofs.YtliofoikejdjeaaGreatW.PrintWords
set_option linter.unusedVariables false
set_option linter.unusedSimpArgs false

theorem info3 : (Tryz.prog.info? 3).map (fun i => (i.zero, i.size, i.bytes)) = some (some (.int .i64 0), 1, 8) := by kernel_rfl
theorem info9 : (Tryz.prog.info? 9).map (fun i => (i.zero, i.size, i.bytes)) = some (some (.string ⟨#[]⟩), 1, 16) := by kernel_rfl

/-- A rule. -/
structure Rl where
  left : Int
  right : List Int
  deriving DecidableEq
instance : Inhabited Rl := ⟨⟨0, []⟩⟩
def kInt : Kd Int := Kd.int .i64
def kRl : Kd Rl := Kd.iso (Kd.pair (Kd.int .i64) (Kd.slice 3 (Kd.int .i64))) (fun x : Rl => (x.left, x.right))
theorem kRl_open {w : World} {x : Rl} {cs : List Value} (h : kRl.K w x cs) : ∃ A c, cs = [.int .i64 x.left, .slice A x.right.length c] ∧ x.right.length ≤ c ∧ (Kd.int .i64).C w A x.right.length x.right := by
  obtain ⟨_, _, rfl, rfl, ⟨A1, c1, rfl, l1, g1⟩⟩ := h
  exact ⟨A1, c1, rfl, l1, g1⟩
theorem at_rl {w : World} {A : Option Addr} {n : Nat} {xs : List Rl} (h : Kd.C kRl w A n xs) (i : Nat) (h1 : i < n) : ∃ ad A1 c1, A = some ad ∧ w.cell? (ad.add (i * 2)) = some (.int .i64 (xs.getD i default).left) ∧ w.cell? ⟨(ad.add (i * 2)).block, (ad.add (i * 2)).off + 1, none⟩ = some (.slice A1 (xs.getD i default).right.length c1) ∧ (xs.getD i default).right.length ≤ c1 ∧ (Kd.int .i64).C w A1 (xs.getD i default).right.length (xs.getD i default).right := by
  obtain ⟨ad, c, e, _, hK, hc0⟩ := Kd.C_get h (default : Rl) (i : Int) (by omega) (by omega)
  have hc : ∀ j u, c[j]? = some u → w.cell? (ad.add (i * 2 + j)) = some u := hc0
  obtain ⟨A1, c1, rfl, l1, g1⟩ := kRl_open (by simpa using hK)
  exact ⟨ad, A1, c1, e, hc 0 _ rfl, by rw [← add_field _ _ 1 (by omega)]; exact hc 1 _ rfl, l1, g1⟩
theorem at_str {w : World} {A : Option Addr} {n : Nat} {xs : List ByteArray} (h : Kd.C Kd.string w A n xs) (i : Nat) (h1 : i < n) : ∃ ad, A = some ad ∧ w.cell? (ad.add i) = some (.string (xs.getD i default)) := by
  obtain ⟨ad, e, hc⟩ := Kd.at_string h (i : Int) (by omega) (by omega)
  exact ⟨ad, e, hc⟩

theorem at_int {w : World} {A : Option Addr} {n : Nat} {xs : List Int} (h : Kd.C (Kd.int .i64) w A n xs) (i : Nat) (h1 : i < n) : ∃ ad, A = some ad ∧ w.cell? (ad.add i) = some (.int .i64 (xs.getD i default)) := by
  obtain ⟨ad, e, hc⟩ := Kd.at_int h (i : Int) (by omega) (by omega)
  exact ⟨ad, e, hc⟩

/-- A grammar. -/
structure Gm where
  terms : List ByteArray
  nons : List ByteArray
  rules : List Rl
  start : Int
/-- Its value: four cells; it lies in w. -/
def gv (A0 A1 A2 : Option Addr) (c0 c1 c2 : Nat) (g : Gm) : Array Value := #[.slice A0 g.terms.length c0, .slice A1 g.nons.length c1, .slice A2 g.rules.length c2, .int .i64 g.start]
structure GmAt (w : World) (A0 A1 A2 : Option Addr) (c0 c1 c2 : Nat) (g : Gm) : Prop where
  terms : Kd.C Kd.string w A0 g.terms.length g.terms
  nons : Kd.C Kd.string w A1 g.nons.length g.nons
  rules : Kd.C kRl w A2 g.rules.length g.rules
  l0 : g.terms.length ≤ c0
  l1 : g.nons.length ≤ c1
  l2 : g.rules.length ≤ c2
  m0 : g.terms.length ≤ 8796093022208
  m1 : g.nons.length ≤ 8796093022208
  m2 : g.rules.length ≤ 8796093022208
theorem GmAt.below {w w' : World} {A0 A1 A2 : Option Addr} {c0 c1 c2 : Nat} {g : Gm} (h : GmAt w A0 A1 A2 c0 c1 c2 g) (hb : Below w.heap.size w w') : GmAt w' A0 A1 A2 c0 c1 c2 g :=
  ⟨Kd.C_below h.terms hb, Kd.C_below h.nons hb, Kd.C_below h.rules hb, h.l0, h.l1, h.l2, h.m0, h.m1, h.m2⟩
/-- All old cells and marks read as before. -/
theorem bcell {W w1 : World} (hb : Below W.heap.size W w1) : (∀ b o, b < W.heap.size → w1.cell? ⟨b, o, none⟩ = W.cell? ⟨b, o, none⟩) ∧ (∀ b o, b < W.heap.size → w1.frozen? ⟨b, o, none⟩ = W.frozen? ⟨b, o, none⟩) :=
  ⟨fun b o h => hb.cell (p := ⟨b, o, none⟩) h, fun b o h => hb.frozen (p := ⟨b, o, none⟩) h⟩
theorem below_new {w w1 : World} {o : Obj} (hb : Below (w.alloc o).heap.size (w.alloc o) w1) : Below w.heap.size w w1 :=
  ((Below.refl _ _).alloc (Nat.le_refl _) o).trans (hb.mono (by simp))
theorem below_new2 {w w1 : World} {o p : Obj} (hb : Below ((w.alloc o).alloc p).heap.size ((w.alloc o).alloc p) w1) : Below w.heap.size w w1 :=
  below_new (below_new hb)
theorem rint {k : IntKind} {a b : Int} (h : a = b) : Ending.returned (.int k a) = .returned (.int k b) := by rw [h]
theorem rbool {a b : Bool} (h : a = b) : Ending.returned (.bool a) = .returned (.bool b) := by rw [h]
end Go.Proofs.YtliofoikejdjeaaGreat
/- A map from strings to ints that the call made. -/
namespace Go.Proofs.YtliofoikejdjeaaGreat
open Go.RowKit Go.Proofs.YtliofoikejdjeaaGreatW.PrintWords Go.Maps
set_option linter.unusedVariables false
set_option linter.unusedSimpArgs false
theorem lawS : Keyed Tryz.prog 9 := string_keyed Tryz.underlying9
theorem zeroI (w : World) : (zeroValue 3).run Tryz.prog w = .ok (.int .i64 0) w := by kernel_rfl
def litS (s : ByteArray) : Lit := .string s.data.toList
theorem keyS (s : ByteArray) (hs : s.size ≤ 140737488351232) : keyOf Tryz.prog 9 (.string s) = some (litS s) := WideMaps.keyOf_string_mk Tryz.underlying9 (by unfold maxLen; omega)
theorem litS_inj {s t : ByteArray} (h : litS s = litS t) : s = t := by
  injection h with h
  exact WideShapes.bytes_inj h
/-- Block b is a map that holds f, of c keys, and of n at most. -/
def MapSI (w : World) (b n : Nat) (f : ByteArray → Option Int) (c : Nat) : Prop :=
  ∃ D : DataW Unit, w.ownsMap Tryz.prog 9 (plainElem Tryz.prog 3) b n D ∧ Tidy D ∧ size D = c ∧ ∀ s, has D (litS s) = (f s).isSome ∧ D.atKey (litS s) (.lit (.int .i64 0)) = .lit (.int .i64 ((f s).getD 0))
theorem MapSI.made (w : World) : MapSI (w.alloc (.map #[] 0)) w.heap.size 0 (fun _ => none) 0 :=
  ⟨.map [], World.ownsMap_made _ _ _ _, tidy_empty, rfl, fun s => ⟨rfl, rfl⟩⟩
theorem MapSI.lt {w : World} {b n : Nat} {f : ByteArray → Option Int} {c : Nat} (h : MapSI w b n f c) : b < w.heap.size := by
  obtain ⟨D, h, _⟩ := h
  exact h.lt
theorem MapSI.below {w w1 : World} {b n : Nat} {f : ByteArray → Option Int} {c : Nat} (h : MapSI w b n f c) (hb : Below w.heap.size w w1) : MapSI w1 b n f c := by
  obtain ⟨D, ⟨es, clock, h1, h2⟩, h3⟩ := h
  exact ⟨D, ⟨es, clock, blk_below h1 hb, h2⟩, h3⟩
theorem MapSI.grown {w w1 : World} {b n : Nat} {f : ByteArray → Option Int} {c : Nat} (h : MapSI w b n f c) {row : Option Nat} (hg : w.grownBy w1 row) (hr : some b ≠ row) : MapSI w1 b n f c := by
  obtain ⟨D, ⟨es, clock, h1, h2⟩, h3⟩ := h
  exact ⟨D, ⟨es, clock, blk_grown h1 hg hr, h2⟩, h3⟩
theorem MapSI.map_ {w : World} {b n : Nat} {f : ByteArray → Option Int} {c : Nat} (h : MapSI w b n f c) : ∃ es clock, w.heap[b]? = some (.map es clock) := by
  obtain ⟨D, ⟨es, clock, h1, _⟩, _⟩ := h
  exact ⟨es, clock, h1⟩
/-- A cell stays where a map is written. -/
theorem cell_map {w w1 : World} {b : Nat} {es : Array MapEntry} {clock : Nat} (hm : w.heap[b]? = some (.map es clock)) (hg : w.grownBy w1 (some b)) {p : Addr} {v : Value} (h : w.cell? p = some v) : w1.cell? p = some v := by
  have hlt := World.block_lt_of_cell? w p h
  have hne : some p.block ≠ some b := by
    intro e
    injection e with e
    unfold World.cell? at h
    rw [e, hm] at h
    cases h
  unfold World.cell? at h ⊢
  rw [hg.block _ hlt hne]
  exact h
theorem C_str_map {w w1 : World} {b : Nat} {es : Array MapEntry} {clock : Nat} (hm : w.heap[b]? = some (.map es clock)) (hg : w.grownBy w1 (some b)) {A : Option Addr} {n : Nat} {xs : List ByteArray} (h : Kd.C Kd.string w A n xs) : Kd.C Kd.string w1 A n xs := by
  obtain ⟨h1, h2, h3⟩ := Kd.reads_of_C (d := (default : ByteArray)) h
  exact Kd.C_of_reads (d := (default : ByteArray)) ⟨h1, h2, fun hn => by
    obtain ⟨ad, e, hc⟩ := h3 hn
    exact ⟨ad, e, fun j hj => cell_map hm hg (hc j hj)⟩⟩
section
variable {w : World} {ops : Array Oper} {rest : List Oper} {o : Oper} {a : Act} {Q : Exit → Act → World → Prop} {b n c : Nat} {f : ByteArray → Option Int}
theorem msi_lookup (hg : o.guard = none) (m x : Operand) (t : TypeId) (hop : o.op = Op.lookup t m x false) (ht : Tryz.prog.underlying t = some (.map 9 3)) (hm : a.eval m = .map (some b)) (h : MapSI w b n f c) (s : ByteArray) (hx : a.eval x = .string s) (hs : s.size ≤ 140737488351232)
    (hK : wpList Tryz.prog ops Q rest (a.put o.dst (.int .i64 ((f s).getD 0))) w) : wpList Tryz.prog ops Q (o :: rest) a w := by
  obtain ⟨D, h1, h2, h3, h4⟩ := h
  refine wpList_lookup_own_int w hg m x t hop 9 3 .i64 lawS ht Tryz.underlying3 (zeroI w) b n D hm h1 _ _ hx (keyS s hs) ?_
  intro q hq _
  rw [(h4 s).2] at hq
  injection hq with hq
  injection hq with _ hq
  rw [← hq]
  exact hK
theorem msi_update (hg : o.guard = none) (m x v : Operand) (t : TypeId) (hop : o.op = Op.mapUpdate t m x v) (ht : Tryz.prog.underlying t = some (.map 9 3)) (hm : a.eval m = .map (some b)) (h : MapSI w b n f c) (hn : n ≤ 140737488351232) (s : ByteArray) (hx : a.eval x = .string s) (hs : s.size ≤ 140737488351232) (q : Int) (hv : a.eval v = .int .i64 q) (hq : (Lit.int .i64 q).wf = true)
    (hK : ∀ w', MapSI w' b (n + 1) (fun u => if u = s then some q else f u) (if (f s).isSome then c else c + 1) → w.grownBy w' (some b) → wpList Tryz.prog ops Q rest (a.put o.dst undef) w') : wpList Tryz.prog ops Q (o :: rest) a w := by
  obtain ⟨D, h1, h2, h3, h4⟩ := h
  refine wpList_mapUpdate_own w hg m x v t hop 9 3 lawS ht (plainElem Tryz.prog 3) b n D hm h1 (by unfold maxLen; omega) _ _ _ hx hv (keyS s hs) _ [] (plainElem_int Tryz.underlying3 hq) ?_
  intro w' h5 h6
  have hkl : WideAt.IsKeyLit (litS s) := lawS.key (keyS s hs)
  refine hK w' ⟨_, h5, h2.put hkl _, ?_, fun u => ?_⟩ h6
  · rw [size_put h2, (h4 s).1, h3]
  · by_cases e : u = s
    · subst e
      show has _ _ = (if u = u then some q else f u).isSome ∧ _ = DataW.lit (Lit.int .i64 ((if u = u then some q else f u).getD 0))
      rw [if_pos rfl]
      exact ⟨has_put_same h2.isMap hkl _, atKey_put_same h2.isMap hkl _ _⟩
    · show has _ _ = (if u = s then some q else f u).isSome ∧ _ = DataW.lit (Lit.int .i64 ((if u = s then some q else f u).getD 0))
      rw [if_neg e]
      have hne : litS u ≠ litS s := fun h => e (litS_inj h)
      exact ⟨(has_put_other hne _).trans (h4 u).1, (atKey_put_other hne _ _).trans (h4 u).2⟩
theorem msi_len (hg : o.guard = none) (m : Operand) (t : TypeId) (hop : o.op = Op.call { callee := Callee.builtin Builtin.len, args := #[m], argTypes := #[t] }) (ht : Tryz.prog.underlying t = some (.map 9 3)) (hm : a.eval m = .map (some b)) (h : MapSI w b n f c)
    (hK : wpList Tryz.prog ops Q rest (a.put o.dst (.int .i64 c)) w) : wpList Tryz.prog ops Q (o :: rest) a w := by
  obtain ⟨D, h1, h2, h3, h4⟩ := h
  refine wpList_len_own w hg m t hop 9 3 ht _ b n D hm h1 ?_
  rw [h3]
  exact hK
end
end Go.Proofs.YtliofoikejdjeaaGreat
/- gram: the small functions. -/
namespace Go.Proofs.YtliofoikejdjeaaGreat
open Go.RowKit Go.Proofs.YtliofoikejdjeaaGreatW.PrintWords
set_option linter.unusedVariables false
set_option linter.unusedSimpArgs false
def Gm.top (g : Gm) : Int := g.terms.length + g.nons.length
def Gm.isTerm (g : Gm) (s : Int) : Bool := decide (1 ≤ s) && decide (s ≤ g.terms.length)
def Gm.isNon (g : Gm) (s : Int) : Bool := decide (g.terms.length < s) && decide (s ≤ g.top)
def Gm.names (g : Gm) : List ByteArray := g.terms ++ g.nons
/-- A symbol's name. -/
def Gm.nameOf (g : Gm) (s : Int) : ByteArray := if s = 0 then ⟨#[36]⟩ else if 1 ≤ s ∧ s ≤ g.top then g.names.getD (s.toNat - 1) default else ⟨#[]⟩
set_option linter.unusedVariables false
set_option linter.unusedSimpArgs false
theorem gcells {w : World} {b : Nat} {v0 v1 v2 v3 : Value} {t : TypeId} (h : w.heap[b]? = some (.cells #[v0, v1, v2, v3] t (0, 0))) : w.cell? ⟨b, 0, none⟩ = some v0 ∧ w.cell? ⟨b, 1, none⟩ = some v1 ∧ w.cell? ⟨b, 2, none⟩ = some v2 ∧ w.cell? ⟨b, 3, none⟩ = some v3 :=
  ⟨blk_cell h 0, blk_cell h 1, blk_cell h 2, blk_cell h 3⟩
section
variable {w : World} {A0 A1 A2 : Option Addr} {c0 c1 c2 : Nat} {g : Gm}

theorem gram_Top (h : GmAt w A0 A1 A2 c0 c1 c2 g) : Calls Tryz.prog 51 #[.agg (gv A0 A1 A2 c0 c1 c2 g)] w fun e w' => e = .returned (.int .i64 g.top) ∧ Below w.heap.size w w' := by
  have h0 := h.m0
  have h1 := h.m1
  clear h
  unfold gv Gm.top
  go_enter Tryz.func51, Tryz.ntmps51
  go_wp2
  go_ret
  exact ⟨rfl, (Below.refl _ _).alloc (Nat.le_refl _) _⟩

theorem gram_Term (h : GmAt w A0 A1 A2 c0 c1 c2 g) (s : Int) : Calls Tryz.prog 71 #[.agg (gv A0 A1 A2 c0 c1 c2 g), .int .i64 s] w fun e w' => e = .returned (.bool (g.isTerm s)) ∧ Below w.heap.size w w' := by
  have h0 := h.m0
  have h1 := h.m1
  clear h
  unfold gv Gm.isTerm
  by_cases hs : 1 ≤ s
  all_goals
    go_enter Tryz.func71, Tryz.ntmps71
    go_wp2
    go_ret
    exact ⟨rbool (by first | (simp [hs]; done) | (simp; omega)), (Below.refl _ _).alloc (Nat.le_refl _) _⟩

theorem gram_Non (h : GmAt w A0 A1 A2 c0 c1 c2 g) (s : Int) : Calls Tryz.prog 46 #[.agg (gv A0 A1 A2 c0 c1 c2 g), .int .i64 s] w fun e w' => e = .returned (.bool (g.isNon s)) ∧ Below w.heap.size w w' := by
  have h0 := h.m0
  have h1 := h.m1
  have ht := gram_Top (h.below ((Below.refl _ _).alloc (Nat.le_refl _) (.cells (gv A0 A1 A2 c0 c1 c2 g) 25)))
  clear h
  unfold gv at *
  by_cases hs : (g.terms.length : Int) < s
  · go_enter Tryz.func46, Tryz.ntmps46
    go_wp2_with (go_at_call 51; refine ht.mono ?_; rintro e w' ⟨rfl, hb⟩)
    go_ret
    exact ⟨by simp [Gm.isNon, hs], below_new hb⟩
  · go_enter Tryz.func46, Tryz.ntmps46
    go_wp2
    go_ret
    exact ⟨rbool (by simp [Gm.isNon]; omega), (Below.refl _ _).alloc (Nat.le_refl _) _⟩
end
end Go.Proofs.YtliofoikejdjeaaGreat
/- The first half of the printed words WZeros. -/
/-! ### 42. append(v, make([]T, n)...): the operation comes as_ append with the number in the second place -/
namespace Go.Proofs.YtliofoikejdjeaaGreatW.PrintWords
open Go.RowKit
section
variable {P : Program}
theorem run_append_zeros (w : World) (base : Nat) (t ti ty e : TypeId) (i : TypeInfo) (z : Value) (size bytes : Nat) (ht : P.underlying t = some (.slice e)) {k : IntKind} (hti : P.underlying ti = some (.int k)) (hi : P.info? e = some i) (hz : i.zero = some z)
    (hsize : i.size = size) (hby : i.bytes = bytes) (hzs : z.cells.size = size) (hsz : 0 < size) (hb0 : 0 < bytes)
    (v : Value) (n : Nat) (xs : List Value) (hown : w.ownsRow base e size v n xs) (kx : IntKind) (m : Nat) (h1 : ∀ u ∈ (Builtin.zeroCells z.cells m).toList, u.oneCell' = true)
    (hbytes : (n + m) * bytes ≤ 140737488355328) (hbase : base ≤ w.heap.size) :
    ∃ v' w', (Builtin.append_ #[t, ti] ty #[v, .int kx m]).run P w = .ok v' w' ∧ w'.ownsRow base e size v' (n + m) (xs ++ (Builtin.zeroCells z.cells m).toList) ∧ w.grownBy w' v.ownBlock ∧
      (v'.ownBlock = v.ownBlock ∨ v'.ownBlock = some w.heap.size) := by
  subst hsize
  subst hby
  have hle : n + m ≤ 140737488355328 := Nat.le_trans (Nat.le_mul_of_pos_right _ hb0) hbytes
  have h63 : n + m ≤ maxLen := by simp only [maxLen]; omega
  have hw : IntKind.i64.wrap (m : Int) = m := by rw [IntKind.wrap_i64]; omega
  have hw0 : IntKind.i64.wrap 0 = 0 := by rw [IntKind.wrap_i64]; rfl
  have hneg : ¬ ((m : Int) < 0) := by omega
  have hmb : m * i.bytes ≤ 140737488355328 := Nat.le_trans (Nat.mul_le_mul_right _ (Nat.le_add_left m n)) hbytes
  have hbig : ¬ (281474976710656 < (m : Int) * (i.bytes : Int)) := by
    rw [← Int.natCast_mul]
    omega
  have hsn : i.size ≠ 0 := by omega
  obtain ⟨news, hnews⟩ : ∃ news, news = (Builtin.zeroCells z.cells m).toList := ⟨_, rfl⟩
  rw [← hnews] at h1 ⊢
  have hl : news.length = m * i.size := by rw [hnews, Array.length_toList, size_zeroCells, hzs]
  have hna : Builtin.zeroCells z.cells m = news.toArray := by rw [hnews]
  have hlen : (xs ++ news).length = (n + m) * i.size := by rw [List.length_append, hown.1, hl, Nat.add_mul]
  have hnil : m = 0 → news = [] := fun h => List.eq_nil_of_length_eq_zero (by rw [hl, h, Nat.zero_mul])
  have grown : ∀ (old : Nat), old < n + m → ∀ (row : Option Nat),
      (w.drew.alloc (.cells (xs.toArray ++ news.toArray ++ Builtin.zeroCells z.cells (grownCap w (n + m) old e - (n + m))) e)).ownsRow base e i.size
        (.slice (some ⟨w.heap.size, 0, none⟩) (n + m) (grownCap w (n + m) old e)) (n + m) (xs ++ news) ∧
      w.grownBy (w.drew.alloc (.cells (xs.toArray ++ news.toArray ++ Builtin.zeroCells z.cells (grownCap w (n + m) old e - (n + m))) e)) row := by
    intro old ho row
    have hge := grownCap_ge w (n + m) old e
    have hcm : grownCap w (n + m) old e ≤ maxLen := grownCap_le_maxLen w (n + m) old e h63
    refine ⟨⟨hlen, .inr ⟨w.heap.size, _, _, rfl, hbase, heap_alloc_new w.drew _, hge, hcm, ?_, ?_⟩⟩, ⟨rfl, rfl, rfl, by simp, fun k hk _ => heap_alloc_old w.drew _ hk⟩⟩
    · simp only [Array.size_append, List.size_toArray, size_zeroCells, hzs, hown.1, hl, ← Nat.add_mul]
      congr 1
      omega
    · simp only [Array.toList_append, List.append_assoc]
      rw [← List.append_assoc, ← hlen]
      exact List.take_left
  have runs : ∀ (A : Option Addr) (cap : Nat), cap < n + m → (Builtin.firstCells i.size n (.slice A n cap)).run P w.drew = .ok xs.toArray w.drew → (Builtin.append_ #[t, ti] ty #[.slice A n cap, .int kx m]).run P w =
      .ok (.slice (some ⟨w.heap.size, 0, none⟩) (n + m) (grownCap w (n + m) cap e)) (w.drew.alloc (.cells (xs.toArray ++ news.toArray ++ Builtin.zeroCells z.cells (grownCap w (n + m) cap e - (n + m))) e)) := by
    intro A cap hcap hfo
    have hn : ¬ (n + m ≤ cap) := by omega
    have h63' : ¬ (9223372036854775807 < ((n : Int) + (m : Int))) := by omega
    have hfit := growslice_fits hcap hbytes
    have h48' : ¬ (281474976710656 < Builtin.nextslicecap (n + m) cap * i.bytes) := by omega
    by_cases hm : m = 0
    · have hnl := hnil hm
      subst hm
      rw [hnl]
      simp only [Nat.add_zero] at hn h63' h48' ⊢
      have h63'' : ¬ (9223372036854775807 < (n : Int)) := by omega
      simp [Builtin.append_, run_underlying ht, run_underlying hti, sizeOf, typeInfo, zeroValue, hi, hz, asInt, asIntOf, hw0, hn, h63'', h48', Question.forced, hfo, newRow, grownCap]
    · have hmz : ¬ (m * i.size = 0) := Nat.mul_ne_zero hm hsn
      simp [Builtin.append_, run_underlying ht, run_underlying hti, sizeOf, typeInfo, zeroValue, hi, hz, asInt, asIntOf, hw, hneg, hbig, hn, h63', h48', Question.forced, hfo, newRow, grownCap, hmz, hna]
      congr 2
      apply Array.ext'
      simp [List.append_assoc]
  rcases hown.2 with ⟨rfl, rfl⟩ | ⟨g, cap, cur, rfl, hbg, hg, hnc, hcm, hcs, htake⟩
  · have hx : xs = [] := List.eq_nil_of_length_eq_zero (by simpa using hown.1)
    subst hx
    by_cases hm : m = 0
    · have hnl := hnil hm
      subst hm
      rw [hnl]
      refine ⟨.slice none 0 0, w, ?_, World.ownsRow_nil w base e i.size, ⟨rfl, rfl, rfl, Nat.le_refl _, fun _ _ _ => rfl⟩, Or.inl rfl⟩
      simp [Builtin.append_, run_underlying ht, run_underlying hti, sizeOf, typeInfo, hi, asInt, asIntOf, hw0]
    · have hgr := grown 0 (by omega) (Value.ownBlock (.slice none 0 0))
      exact ⟨_, _, runs none 0 (by omega) (by simp [Builtin.firstCells]), hgr.1, hgr.2, Or.inr rfl⟩
  · by_cases hroom : n + m ≤ cap
    · have hfit : n * i.size + news.length ≤ cur.size := by rw [hl, hcs, ← Nat.add_mul]; exact Nat.mul_le_mul_right _ hroom
      obtain ⟨cur', h3, h4, h5⟩ := setCells_row news (n * i.size) w cur hg hfit
      obtain ⟨s1, s2, s3, s4⟩ := setCells_same g news (n * i.size) w
      have hst := run_storeCells_cells (P := P) g (n * i.size) news 0 w (fun j hj => by rw [cell_of_row w g _ cur e (0, 0) hg]; simp; omega) (fun j _ => blk_frozen hg _) h1
      simp only [Nat.add_zero] at hst
      refine ⟨.slice (some ⟨g, 0, none⟩) (n + m) cap, w.setCells g (n * i.size) news, ?_, ⟨hlen, .inr ⟨g, cap, cur', rfl, hbg, h3, hroom, hcm, by rw [h4, hcs], ?_⟩⟩, ⟨s1, s2, s3, by rw [s4]; exact Nat.le_refl _, fun k _ hk => setCells_far news _ k (fun e => hk (by simp [Value.ownBlock, e]))⟩, Or.inl rfl⟩
      · by_cases hm : m = 0
        · have hnl := hnil hm
          subst hm
          rw [hnl] at hst ⊢
          simp [Builtin.append_, run_underlying ht, run_underlying hti, sizeOf, typeInfo, hi, asInt, asIntOf, hw0, hnc, add_plain, hst]
        · have hmz : ¬ (m * i.size = 0) := Nat.mul_ne_zero hm hsn
          simp [Builtin.append_, run_underlying ht, run_underlying hti, sizeOf, typeInfo, zeroValue, hi, hz, asInt, asIntOf, hw, hneg, hbig, hroom, hmz, hna, add_plain, hst]
      · rw [h5]
        have h6 : cur.toList.take (n * i.size) = xs := htake
        rw [h6, ← hlen]
        exact List.take_left
    · have holds : ∀ j u, xs[j]? = some u → w.cell? ((⟨g, 0, none⟩ : Addr).add j) = some u := hown.cells (g := g) rfl
      have hgr := grown cap (by omega) (Value.ownBlock (.slice (some ⟨g, 0, none⟩) n cap))
      exact ⟨_, _, runs (some ⟨g, 0, none⟩) cap (by omega) (run_firstCells_some (P := P) w.drew i.size n _ n cap xs hown.1 (by simpa using holds)), hgr.1, hgr.2, Or.inr rfl⟩
end
namespace Kd
/-- What zeros are made of. -/
theorem reps_zeros {α : Type} {R : α → List Value → Prop} {z : Value} {size : Nat} {z0 : α} (hz : z.cells.size = size) (hs : 0 < size) (h0 : R z0 z.cells.toList) (m : Nat) : Reps R size (List.replicate m z0) (Builtin.zeroCells z.cells m).toList := by
  have h := reps_made hz hs h0 m
  rw [show Builtin.zeroCells z.cells m = madeCells z.cells (m * size) by unfold Builtin.zeroCells madeCells; rw [hz]]
  exact h
section
variable {P : Program} {ops : Array Oper} {rest : List Oper} {o : Oper} {a : Act} {Q : Exit → Act → World → Prop} {Kc : Act → World → Prop} {α : Type}
theorem R_zeros_run (d : Kd α) {W : World} (base : Nat) (t ti ty e : TypeId) (z : Value) (bytes : Nat) (ht : P.underlying t = some (.slice e)) {k : IntKind} (hti : P.underlying ti = some (.int k)) (hinfo : (P.info? e).map (fun i => (i.zero, i.size, i.bytes)) = some (some z, d.sz, bytes)) (hz : z.cells.size = d.sz) (hs0 : 0 < d.sz) (hb0 : 0 < bytes)
    (v : Value) (xs : List α) (z0 : α) {ok : Nat → Prop} (hzero : d.M W base (fun _ => False) z0 z.cells.toList) (hfresh : ∀ k, W.heap.size ≤ k → ok k) (HO : d.R e W base ok v xs) (kx : IntKind) (n : Int) (h0 : 0 ≤ n) (hl : (xs.length + n.toNat) * bytes ≤ 140737488355328) (hbase : base ≤ W.heap.size) :
    ∃ v1 w1, (Builtin.append_ #[t, ti] ty #[v, .int kx n]).run P W = .ok v1 w1 ∧ d.R e w1 base ok v1 (xs ++ List.replicate n.toNat z0) ∧ W.grownBy w1 v.ownBlock ∧ (v1.ownBlock = v.ownBlock ∨ ∃ b, v1.ownBlock = some b ∧ W.heap.size ≤ b) := by
  obtain ⟨m, rfl⟩ := Int.eq_ofNat_of_zero_le h0
  simp only [Int.toNat_natCast] at hl ⊢
  obtain ⟨i0, hi, hzz⟩ := Option.map_eq_some_iff.1 hinfo
  simp only [Prod.mk.injEq] at hzz
  obtain ⟨hz0, hz1, hz2⟩ := hzz
  obtain ⟨hok, inner, hown, hr⟩ := HO
  have hnM : Reps (d.M W base (fun _ => False)) d.sz (List.replicate m z0) (Builtin.zeroCells z.cells m).toList := reps_zeros hz hs0 hzero m
  obtain ⟨v1, w1, hrun, h2, hg, hat⟩ := run_append_zeros (P := P) W base t ti ty e i0 z d.sz bytes ht hti hi hz0 hz1 hz2 hz hs0 hb0 v xs.length inner hown kx m (reps_one hnM hs0 (fun _ _ hp => d.K_one (d.K_of_M hp))) hl hbase
  have hat' : v1.ownBlock = v.ownBlock ∨ ∃ b, v1.ownBlock = some b ∧ W.heap.size ≤ b := by
    rcases hat with hat | hat
    · exact .inl hat
    · exact .inr ⟨_, hat, Nat.le_refl _⟩
  have hne : ∀ k, some k ≠ v.ownBlock → k < W.heap.size → some k ≠ v1.ownBlock := by
    intro k hk hlt
    rcases hat' with hat | ⟨b, hb, hle⟩
    · rw [hat]; exact hk
    · rw [hb]
      intro he
      injection he with he
      omega
  have step : ∀ {q : α} {c : List Value} {o : Nat → Prop}, d.M W base o q c → (∀ k, o k → ok k ∧ some k ≠ v.ownBlock) → d.M w1 base (fun k => ok k ∧ some k ≠ v1.ownBlock) q c := by
    intro q c o hq ho
    have h1 := d.M_move (w1 := w1) (fun k hk => hg.block k hk.2.2.1 (ho k hk.1).2) (d.M_bound hq)
    exact d.M_mono (fun k hk => ⟨(ho k hk.1).1, hne k (ho k hk.1).2 hk.2.2.1⟩) h1
  refine ⟨v1, w1, hrun, ⟨fun k hk => ?_, inner ++ (Builtin.zeroCells z.cells m).toList, by rw [List.length_append, List.length_replicate]; exact h2, reps_append (hr.imp_ (fun _ _ hq => step hq (fun _ hk => hk))) (hnM.imp_ (fun _ _ hq => step hq (fun _ hk => hk.elim)))⟩, hg, hat'⟩
  rcases hat' with hat | ⟨b, hb, hle⟩
  · exact hok k (hat ▸ hk)
  · rw [hb] at hk
    injection hk with hk
    exact hfresh k (by omega)
/-- append(v, make([]T, n)...): z0's cells are the type's zero's. -/
theorem R_append_zeros (d : Kd α) {w0 W : World} (base : Nat) (hgd : o.guard = none) (s x : Operand) (t ti e : TypeId) (z : Value) (bytes : Nat)
    (ho : o.op = .call { callee := .builtin .append, args := #[s, x], argTypes := #[t, ti] })
    (ht : P.underlying t = some (.slice e)) {k : IntKind} (hti : P.underlying ti = some (.int k)) (hinfo : (P.info? e).map (fun i => (i.zero, i.size, i.bytes)) = some (some z, d.sz, bytes)) (hz : z.cells.size = d.sz) (hs0 : 0 < d.sz) (hb0 : 0 < bytes)
    (v : Value) (xs : List α) (z0 : α) {kx : IntKind} (n : Int) (ok : Nat → Prop) (hs : a.eval s = v) (hx : a.eval x = .int kx n) (hzero : d.M W base (fun _ => False) z0 z.cells.toList) (hfresh : ∀ k, W.heap.size ≤ k → ok k)
    (HO : d.R e W base ok v xs) (h0 : 0 ≤ n) (HB : Below base w0 W) (hbase : base ≤ W.heap.size) (hl : (xs.length + n.toNat) * bytes ≤ 140737488355328)
    (h : ∀ v1 w1, d.R e w1 base ok v1 (xs ++ List.replicate n.toNat z0) → Below base w0 w1 → W.grownBy w1 v.ownBlock → (v1.ownBlock = v.ownBlock ∨ ∃ b, v1.ownBlock = some b ∧ W.heap.size ≤ b) → wpList P ops Q rest (a.put o.dst v1) w1) :
    wpList P ops Q (o :: rest) a W := by
  obtain ⟨v1, w1, hr1, h1, hg, hat⟩ := R_zeros_run (P := P) d base t ti o.type e z bytes ht hti hinfo hz hs0 hb0 v xs z0 hzero hfresh HO kx n h0 hl hbase
  refine wpList_plain hgd fun K hK => ?_
  unfold Oper.wp execOp
  simp only [ho, resolve, invoke, builtin, Sem.run_bind, Sem.run_pure, Result.andThen_ok, List.map_toArray, List.map_cons, List.map_nil, hs, hx, hr1]
  exact hK _ _ (h v1 w1 h1 (HB.grown hg hbase (R_base HO)) hg hat)
theorem R_append_zeros_step (d : Kd α) {w0 W : World} (base : Nat) (hw : Region.wanted o (yielded ops a.tmps) = true) (s x : Operand) (t ti e : TypeId) (z : Value) (bytes : Nat)
    (ho : o.op = .call { callee := .builtin .append, args := #[s, x], argTypes := #[t, ti] })
    (ht : P.underlying t = some (.slice e)) {k : IntKind} (hti : P.underlying ti = some (.int k)) (hinfo : (P.info? e).map (fun i => (i.zero, i.size, i.bytes)) = some (some z, d.sz, bytes)) (hz : z.cells.size = d.sz) (hs0 : 0 < d.sz) (hb0 : 0 < bytes)
    (v : Value) (xs : List α) (z0 : α) {kx : IntKind} (n : Int) (ok : Nat → Prop) (hs : a.eval s = v) (hx : a.eval x = .int kx n) (hzero : d.M W base (fun _ => False) z0 z.cells.toList) (hfresh : ∀ k, W.heap.size ≤ k → ok k)
    (HO : d.R e W base ok v xs) (h0 : 0 ≤ n) (HB : Below base w0 W) (hbase : base ≤ W.heap.size) (hl : (xs.length + n.toNat) * bytes ≤ 140737488355328)
    (h : ∀ v1 w1, d.R e w1 base ok v1 (xs ++ List.replicate n.toNat z0) → Below base w0 w1 → W.grownBy w1 v.ownBlock → (v1.ownBlock = v.ownBlock ∨ ∃ b, v1.ownBlock = some b ∧ W.heap.size ≤ b) → Kc (a.put o.dst v1) w1) :
    if Region.wanted o (yielded ops a.tmps) = true then Oper.wp P o a W Kc Q else Kc (a.put o.dst undef) W := by
  obtain ⟨v1, w1, hr1, h1, hg, hat⟩ := R_zeros_run (P := P) d base t ti o.type e z bytes ht hti hinfo hz hs0 hb0 v xs z0 hzero hfresh HO kx n h0 hl hbase
  rw [if_pos hw]
  unfold Oper.wp execOp
  simp only [ho, resolve, invoke, builtin, Sem.run_bind, Sem.run_pure, Result.andThen_ok, List.map_toArray, List.map_cons, List.map_nil, hs, hx, hr1]
  exact h v1 w1 h1 (HB.grown hg hbase (R_base HO)) hg hat
end
end Kd
end Go.Proofs.YtliofoikejdjeaaGreatW.PrintWords
/- Plain words: classes of bytes, spans, places in lists. -/
namespace Go.Proofs.YtliofoikejdjeaaGreat
open Go.RowKit Go.Proofs.YtliofoikejdjeaaGreatW.PrintWords
set_option linter.unusedVariables false
set_option linter.unusedSimpArgs false
def alpha (n : Int) : Bool := decide (65 ≤ n ∧ n ≤ 90) || decide (97 ≤ n ∧ n ≤ 122)
def ltr (n : Int) : Int := if 48 ≤ n ∧ n ≤ 57 then 3 else if n = 95 ∨ alpha n = true then 4 else 8
def cls (n : Int) : Int :=
  if n = 0 then 0 else if n = 32 ∨ n = 9 then 1 else if n = 10 then 2
  else if n = 38 ∨ n = 124 ∨ n = 59 ∨ n = 60 ∨ n = 62 ∨ n = 40 ∨ n = 41 then 5
  else if n = 39 ∨ n = 34 ∨ n = 92 ∨ n = 96 then 6 else if n = 36 then 7 else ltr n
theorem or32 : ∀ c : UInt8, (97 ≤ bits BinOp.or IntKind.u8 (c.toNat : Int) 32 ∧ bits BinOp.or IntKind.u8 (c.toNat : Int) 32 ≤ 122) ↔ alpha c.toNat = true := by
  have h : ∀ n : Fin 256, (97 ≤ bits BinOp.or IntKind.u8 (n.val : Int) 32 ∧ bits BinOp.or IntKind.u8 (n.val : Int) 32 ≤ 122) ↔ alpha n.val = true := by decide +kernel
  intro c
  exact h ⟨c.toNat, c.toNat_lt⟩
theorem cls_hi (n : Int) (h : 128 ≤ n) : cls n = 8 := by
  have : alpha n = false := by simp [alpha]; omega
  unfold cls ltr
  rw [this]
  (repeat' split) <;> first | rfl | (exfalso; omega) | simp_all
def nameOk (s : ByteArray) : Bool := decide (0 < s.size) && decide (∀ (i : Nat) (h : i < s.size), cls (s[i]'h).toNat = 4 ∨ cls (s[i]'h).toNat = 3 ∧ 0 < i)
theorem toList_nil {s : ByteArray} (h : s.size = 0) : s.toList = [] := by
  rw [ByteArray.toList_eq]
  exact List.eq_nil_of_length_eq_zero (by rw [data_length]; exact h)
theorem toList_ne {s : ByteArray} (h : ¬ s.size = 0) : s.toList ≠ [] := by
  rw [ByteArray.toList_eq]
  intro h'
  apply h
  rw [← data_length, h']
  rfl
/-- How many bytes from a place on are so. -/
def spanS (p : UInt8 → Bool) (s : ByteArray) (i : Nat) : Nat := ((s.data.toList.drop i).takeWhile p).length
theorem spanS_eq {p : UInt8 → Bool} {s : ByteArray} {i n : Nat} (hl : i + n ≤ s.size) (h1 : ∀ (j : Nat) (h : i + j < s.size), j < n → p (s[i + j]'h) = true) (h2 : ∀ h : i + n < s.size, p (s[i + n]'h) = false) : spanS p s i = n := by
  unfold spanS
  have hlen := data_length s
  induction n generalizing i with
  | zero =>
    by_cases h : i < s.size
    · rw [List.drop_eq_getElem_cons (by omega), List.takeWhile_cons]
      have := h2 (by omega)
      simp only [Nat.add_zero] at this
      rw [show s.data.toList[i]'(by omega) = s[i]'h from rfl, this]
      rfl
    · rw [List.drop_eq_nil_of_le (by omega)]
      rfl
  | succ n ih =>
    have h : i < s.size := by omega
    rw [List.drop_eq_getElem_cons (by omega), List.takeWhile_cons]
    have := h1 0 (by omega) (by omega)
    simp only [Nat.add_zero] at this
    rw [show s.data.toList[i]'(by omega) = s[i]'h from rfl, this]
    simp only [if_true, List.length_cons]
    rw [ih (by omega) (fun j hj hjn => ?_) (fun hh => ?_)]
    · have := h1 (j + 1) (by omega) (by omega)
      simpa [Nat.add_assoc, Nat.add_comm 1 j] using this
    · have := h2 (by omega)
      simpa [Nat.add_assoc, Nat.add_comm 1 n] using this
theorem spanS_le (p : UInt8 → Bool) (s : ByteArray) (i : Nat) (hi : i ≤ s.size) : i + spanS p s i ≤ s.size := by
  unfold spanS
  have := (List.takeWhile_sublist p (l := s.data.toList.drop i)).length_le
  rw [List.length_drop, data_length] at this
  omega
def insideB (c : UInt8) : Bool := decide (32 < c.toNat ∧ c.toNat ≤ 126) && decide (c.toNat ≠ 39)
/-- A byte, as a number; 0 behind the end. -/
def byteN (s : ByteArray) (i : Nat) : Nat := if h : i < s.size then (s[i]'h).toNat else 0
theorem byteN_at {s : ByteArray} {i : Nat} (h : i < s.size) : (s[i]'h).toNat = byteN s i := by simp [byteN, h]
/-- What is quoted from a place on: how many bytes; or an error's number (0: none), and its place. -/
def quotedS (s : ByteArray) (a : Nat) : Int × Int × Int :=
  let m := spanS insideB s (a + 1)
  if s.size ≤ a + (1 + m) then (0, 4, s.size) else if byteN s (a + (1 + m)) ≠ 39 ∨ m = 0 then (0, 2, a + (1 + m)) else if 23 ≤ m then (0, 5, a) else (1 + m + 1, 0, 0)
def idxF {α : Type} (p : α → Bool) (xs : List α) : Int := match xs.findIdx? p with | some i => i | none => -1
theorem idxF_hit {α : Type} [Inhabited α] {p : α → Bool} {xs : List α} {k : Nat} (hk : k < xs.length) (h1 : p (xs.getD k default) = true) (h2 : ∀ j, j < k → p (xs.getD j default) = false) : idxF p xs = k := by
  unfold idxF
  have : xs.findIdx? p = some k := by
    rw [List.findIdx?_eq_some_iff_getElem]
    refine ⟨hk, ?_, fun j hj => ?_⟩
    · simpa [List.getD_eq_getElem?_getD, hk] using h1
    · have := h2 j hj
      simpa [List.getD_eq_getElem?_getD, show j < xs.length by omega] using this
  rw [this]
theorem idxF_miss {α : Type} [Inhabited α] {p : α → Bool} {xs : List α} (h2 : ∀ j, j < xs.length → p (xs.getD j default) = false) : idxF p xs = -1 := by
  unfold idxF
  have : xs.findIdx? p = none := by
    rw [List.findIdx?_eq_none_iff]
    intro x hx
    obtain ⟨j, hj, rfl⟩ := List.mem_iff_getElem.1 hx
    have := h2 j hj
    simpa [List.getD_eq_getElem?_getD, hj] using this
  rw [this]
theorem getD_mem {α : Type} [Inhabited α] {xs : List α} {k : Nat} (h : k < xs.length) : xs.getD k default ∈ xs := by
  rw [List.getD_eq_getElem?_getD, List.getElem?_eq_getElem h]
  exact List.getElem_mem h
theorem idxF_any {α : Type} (p : α → Bool) (xs : List α) : decide (0 ≤ idxF p xs) = xs.any p := by
  unfold idxF
  cases h : xs.findIdx? p with
  | none =>
    rw [List.findIdx?_eq_none_iff] at h
    simpa using h
  | some i =>
    obtain ⟨h1, h2, _⟩ := List.findIdx?_eq_some_iff_getElem.1 h
    have : xs.any p = true := List.any_eq_true.2 ⟨_, List.getElem_mem h1, h2⟩
    simp [this]
theorem str_ne {x y : ByteArray} (h : x ≠ y) : (x.toList == y.toList) = false := by
  have : x.toList ≠ y.toList := by
    rw [ByteArray.toList_eq, ByteArray.toList_eq]
    exact fun e => h (WideShapes.bytes_inj e)
  simpa using this
def placeS (xs : List ByteArray) (s : ByteArray) : Int := idxF (fun x => decide (x = s)) xs
theorem place_mem (xs : List ByteArray) (s : ByteArray) : 0 ≤ placeS xs s ↔ s ∈ xs := by
  have h := idxF_any (fun x => decide (x = s)) xs
  rw [Bool.eq_iff_iff] at h
  simpa [placeS] using h
/-- A function value that tells p of every x that lies in memory as V says; it turns nothing. -/
def PredV {α : Type} (w : World) (fv : Value) (V : World → α → Value → Prop) (p : α → Bool) : Prop :=
  ∃ g lb, fv = .func (.func g) #[] lb ∧ (∀ args W, (callFunc g args).run Tryz.prog W = .ok (.enter g args) W) ∧
    ∀ W x v, Below w.heap.size w W → V W x v → Calls Tryz.prog g (#[v] ++ lb) W fun e w' => e = .returned (.bool (p x)) ∧ Below W.heap.size W w'
theorem PredV.below {α : Type} {w w1 : World} {fv : Value} {V : World → α → Value → Prop} {p : α → Bool} (h : PredV w fv V p) (hb : Below w.heap.size w w1) : PredV w1 fv V p := by
  obtain ⟨g, lb, e, he, hc⟩ := h
  exact ⟨g, lb, e, he, fun W x v hW hV => hc W x v (hb.trans (hW.mono hb.size)) hV⟩
def Vstr (_ : World) (x : ByteArray) (v : Value) : Prop := v = .string x
def Vint (_ : World) (x : Int) (v : Value) : Prop := v = .int .i64 x
def Vrl (w : World) (x : Rl) (v : Value) : Prop := ∃ A c, v = .agg #[.int .i64 x.left, .slice A x.right.length c] ∧ x.right.length ≤ c ∧ (Kd.int .i64).C w A x.right.length x.right
def Vu8 (_ : World) (x : UInt8) (v : Value) : Prop := v = .int .u8 x.toNat
end Go.Proofs.YtliofoikejdjeaaGreat
/- Function values that answer a bool; slices.IndexFunc, ContainsFunc and gram.all over them. -/
namespace Go.Proofs.YtliofoikejdjeaaGreat
open Go.RowKit Go.Proofs.YtliofoikejdjeaaGreatW.PrintWords
set_option linter.unusedVariables false
set_option linter.unusedSimpArgs false
section
variable {w : World} {A : Option Addr} {c : Nat} {fv : Value}
set_option maxHeartbeats 1000000 in
theorem idx_str {xs : List ByteArray} {p : ByteArray → Bool} (hr : Kd.C Kd.string w A xs.length xs) (hm : xs.length ≤ 9223372036854775807) (hp : PredV w fv (fun W x v => Vstr W x v ∧ x ∈ xs) p) :
    Calls Tryz.prog 108 #[.slice A xs.length c, fv] w fun e w' => e = .returned (.int .i64 (idxF p xs)) ∧ Below w.heap.size w w' := by
  obtain ⟨g, lb, rfl, eg, hp⟩ := hp
  have HR := Aside0.mk hr
  clear hr
  go_enter Tryz.func108, Tryz.ntmps108
  go_wp2
  go_loopg [5, 8] xs.length (fun gg _ s8 wr => ∃ kk : Nat, kk ≤ xs.length ∧ xs.length - kk ≤ gg ∧ s8 = .int .i64 kk ∧ Aside0 (Below w.heap.size w wr) ∧ Aside0 (∀ j, j < kk → p (xs.getD j default) = false))
  case atStart => exact ⟨0, Nat.zero_le _, by omega, rfl, ⟨Below.refl _ w⟩, ⟨fun j hj => absurd hj (Nat.not_lt_zero _)⟩⟩
  case round =>
    obtain ⟨kk, hkk, hg, rfl, BW, AF⟩ := hrel
    by_cases hlt : kk < xs.length
    · have hltz : (kk : Int) < (xs.length : Int) := by omega
      obtain ⟨ad, rfl, l2⟩ := at_str (Kd.C_below HR.out BW.out) kk hlt
      have hcall := hp wr (xs.getD kk default) _ BW.out ⟨rfl, getD_mem hlt⟩
      clear hp
      obtain ⟨y, hy⟩ : ∃ y, xs.getD kk default = y := ⟨_, rfl⟩
      rw [hy] at l2 hcall
      have HY := Aside0.mk hy
      clear hy
      cases hq : p y with
      | true =>
        have HQ : Aside0 (p (xs.getD kk default) = _) := ⟨(congrArg p HY.out).trans hq⟩
        rw [hq] at hcall
        clear hq
        go_wp2_with (go_at_fn g; refine hcall.mono ?_; rintro e w' ⟨rfl, hb'⟩)
        go_ret
        exact ⟨rint (idxF_hit hlt HQ.out AF.out).symm, BW.out.trans (hb'.mono BW.out.size)⟩
      | false =>
        have HQ : Aside0 (p (xs.getD kk default) = _) := ⟨(congrArg p HY.out).trans hq⟩
        rw [hq] at hcall
        clear hq
        go_wp2_with (go_at_fn g; refine hcall.mono ?_; rintro e w' ⟨rfl, hb'⟩)
        go_roundg (xs.length - (kk + 1))
        case measure => omega
        case rel =>
          refine ⟨kk + 1, by omega, by omega, by go_num, ⟨BW.out.trans (hb'.mono BW.out.size)⟩, ⟨fun j hj => ?_⟩⟩
          by_cases e : j = kk
          · subst e
            exact HQ.out
          · exact AF.out j (by omega)
    · have hltz : ¬ (kk : Int) < (xs.length : Int) := by omega
      have : kk = xs.length := by omega
      subst this
      go_wp2
      go_ret
      exact ⟨rint (idxF_miss AF.out).symm, BW.out⟩
theorem contains_str {xs : List ByteArray} {p : ByteArray → Bool} (hr : Kd.C Kd.string w A xs.length xs) (hm : xs.length ≤ 9223372036854775807) (hp : PredV w fv (fun W x v => Vstr W x v ∧ x ∈ xs) p) :
    Calls Tryz.prog 74 #[.slice A xs.length c, fv] w fun e w' => e = .returned (.bool (xs.any p)) ∧ Below w.heap.size w w' := by
  have hi := idx_str (c := c) hr hm hp
  rw [← idxF_any]
  clear hr hp
  generalize idxF p xs = i at *
  go_enter Tryz.func74, Tryz.ntmps74
  go_wp2_with (go_at_call 108; refine hi.mono ?_; rintro e w' ⟨rfl, hb⟩)
  go_ret
  exact ⟨rfl, hb⟩
set_option maxRecDepth 100000 in
theorem all_str {xs : List ByteArray} {p : ByteArray → Bool} (hr : Kd.C Kd.string w A xs.length xs) (hm : xs.length ≤ 9223372036854775807) (hp : PredV w fv (fun W x v => Vstr W x v ∧ x ∈ xs) p) :
    Calls Tryz.prog 41 #[.slice A xs.length c, fv] w fun e w' => e = .returned (.bool (xs.all p)) ∧ Below w.heap.size w w' := by
  obtain ⟨gf, lf, rfl, _⟩ := id hp
  have hb0 : Below w.heap.size w (w.alloc (.cells #[.func (.func gf) #[] lf] 37)) := (Below.refl _ _).alloc (Nat.le_refl _) _
  have hP : PredV (w.alloc (.cells #[.func (.func gf) #[] lf] 37)) (.func (.func 75) #[] #[.pointer (some ⟨w.heap.size, 0, none⟩)]) (fun W x v => Vstr W x v ∧ x ∈ xs) (fun x => !p x) := by
    refine ⟨_, _, rfl, fun _ _ => rfl, fun W x v hW hVM => ?_⟩
    obtain ⟨hV, hMem⟩ := hVM
    obtain ⟨g, lb, hfe, eg, hp⟩ := hp.below (hb0.trans (hW.mono hb0.size))
    rw [hfe] at hW
    have hbox : W.cell? ⟨w.heap.size, 0, none⟩ = some (.func (.func g) #[] lb) := (hW.cell (p := ⟨w.heap.size, 0, none⟩) (by simp)).trans (by simp)
    clear hfe
    have hcall := hp W x v (Below.refl _ _) ⟨hV, hMem⟩
    clear hW hp hb0 hr
    show Calls _ _ #[v, _] _ fun e w' => e = .returned (.bool (!p x)) ∧ _
    generalize p x = b at hcall ⊢
    go_enter Tryz.func75, Tryz.ntmps75
    go_wp2_with (go_at_fn g; refine hcall.mono ?_; rintro e w' ⟨rfl, hb'⟩)
    go_ret
    exact ⟨rfl, hb'⟩
  have hc := contains_str (c := c) (Kd.C_below hr hb0) hm hP
  clear hP hp hr
  rw [show xs.all p = !xs.any (fun x => !p x) by rw [List.not_any_eq_all_not]; simp]
  generalize xs.any (fun x => !p x) = b at *
  go_enter Tryz.func41, Tryz.ntmps41
  go_wp2_with (go_at_call 74; refine hc.mono ?_; rintro e w' ⟨rfl, hb⟩)
  go_ret
  exact ⟨rfl, below_new hb⟩
set_option maxHeartbeats 1000000 in
theorem idx_int {xs : List Int} {p : Int → Bool} (hr : Kd.C (Kd.int .i64) w A xs.length xs) (hm : xs.length ≤ 9223372036854775807) (hp : PredV w fv (fun W x v => Vint W x v ∧ x ∈ xs) p) :
    Calls Tryz.prog 124 #[.slice A xs.length c, fv] w fun e w' => e = .returned (.int .i64 (idxF p xs)) ∧ Below w.heap.size w w' := by
  obtain ⟨g, lb, rfl, eg, hp⟩ := hp
  have HR := Aside0.mk hr
  clear hr
  go_enter Tryz.func124, Tryz.ntmps124
  go_wp2
  go_loopg [5, 8] xs.length (fun gg _ s8 wr => ∃ kk : Nat, kk ≤ xs.length ∧ xs.length - kk ≤ gg ∧ s8 = .int .i64 kk ∧ Aside0 (Below w.heap.size w wr) ∧ Aside0 (∀ j, j < kk → p (xs.getD j default) = false))
  case atStart => exact ⟨0, Nat.zero_le _, by omega, rfl, ⟨Below.refl _ w⟩, ⟨fun j hj => absurd hj (Nat.not_lt_zero _)⟩⟩
  case round =>
    obtain ⟨kk, hkk, hg, rfl, BW, AF⟩ := hrel
    by_cases hlt : kk < xs.length
    · have hltz : (kk : Int) < (xs.length : Int) := by omega
      obtain ⟨ad, rfl, l2⟩ := at_int (Kd.C_below HR.out BW.out) kk hlt
      have hcall := hp wr (xs.getD kk default) _ BW.out ⟨rfl, getD_mem hlt⟩
      clear hp
      obtain ⟨y, hy⟩ : ∃ y, xs.getD kk default = y := ⟨_, rfl⟩
      rw [hy] at l2 hcall
      have HY := Aside0.mk hy
      clear hy
      cases hq : p y with
      | true =>
        have HQ : Aside0 (p (xs.getD kk default) = _) := ⟨(congrArg p HY.out).trans hq⟩
        rw [hq] at hcall
        clear hq
        go_wp2_with (go_at_fn g; refine hcall.mono ?_; rintro e w' ⟨rfl, hb'⟩)
        go_ret
        exact ⟨rint (idxF_hit hlt HQ.out AF.out).symm, BW.out.trans (hb'.mono BW.out.size)⟩
      | false =>
        have HQ : Aside0 (p (xs.getD kk default) = _) := ⟨(congrArg p HY.out).trans hq⟩
        rw [hq] at hcall
        clear hq
        go_wp2_with (go_at_fn g; refine hcall.mono ?_; rintro e w' ⟨rfl, hb'⟩)
        go_roundg (xs.length - (kk + 1))
        case measure => omega
        case rel =>
          refine ⟨kk + 1, by omega, by omega, by go_num, ⟨BW.out.trans (hb'.mono BW.out.size)⟩, ⟨fun j hj => ?_⟩⟩
          by_cases e : j = kk
          · subst e
            exact HQ.out
          · exact AF.out j (by omega)
    · have hltz : ¬ (kk : Int) < (xs.length : Int) := by omega
      have : kk = xs.length := by omega
      subst this
      go_wp2
      go_ret
      exact ⟨rint (idxF_miss AF.out).symm, BW.out⟩
theorem contains_int {xs : List Int} {p : Int → Bool} (hr : Kd.C (Kd.int .i64) w A xs.length xs) (hm : xs.length ≤ 9223372036854775807) (hp : PredV w fv (fun W x v => Vint W x v ∧ x ∈ xs) p) :
    Calls Tryz.prog 114 #[.slice A xs.length c, fv] w fun e w' => e = .returned (.bool (xs.any p)) ∧ Below w.heap.size w w' := by
  have hi := idx_int (c := c) hr hm hp
  rw [← idxF_any]
  clear hr hp
  generalize idxF p xs = i at *
  go_enter Tryz.func114, Tryz.ntmps114
  go_wp2_with (go_at_call 124; refine hi.mono ?_; rintro e w' ⟨rfl, hb⟩)
  go_ret
  exact ⟨rfl, hb⟩
set_option maxRecDepth 100000 in
theorem all_int {xs : List Int} {p : Int → Bool} (hr : Kd.C (Kd.int .i64) w A xs.length xs) (hm : xs.length ≤ 9223372036854775807) (hp : PredV w fv (fun W x v => Vint W x v ∧ x ∈ xs) p) :
    Calls Tryz.prog 79 #[.slice A xs.length c, fv] w fun e w' => e = .returned (.bool (xs.all p)) ∧ Below w.heap.size w w' := by
  obtain ⟨gf, lf, rfl, _⟩ := id hp
  have hb0 : Below w.heap.size w (w.alloc (.cells #[.func (.func gf) #[] lf] 89)) := (Below.refl _ _).alloc (Nat.le_refl _) _
  have hP : PredV (w.alloc (.cells #[.func (.func gf) #[] lf] 89)) (.func (.func 115) #[] #[.pointer (some ⟨w.heap.size, 0, none⟩)]) (fun W x v => Vint W x v ∧ x ∈ xs) (fun x => !p x) := by
    refine ⟨_, _, rfl, fun _ _ => rfl, fun W x v hW hVM => ?_⟩
    obtain ⟨hV, hMem⟩ := hVM
    obtain ⟨g, lb, hfe, eg, hp⟩ := hp.below (hb0.trans (hW.mono hb0.size))
    rw [hfe] at hW
    have hbox : W.cell? ⟨w.heap.size, 0, none⟩ = some (.func (.func g) #[] lb) := (hW.cell (p := ⟨w.heap.size, 0, none⟩) (by simp)).trans (by simp)
    clear hfe
    have hcall := hp W x v (Below.refl _ _) ⟨hV, hMem⟩
    clear hW hp hb0 hr
    show Calls _ _ #[v, _] _ fun e w' => e = .returned (.bool (!p x)) ∧ _
    generalize p x = b at hcall ⊢
    go_enter Tryz.func115, Tryz.ntmps115
    go_wp2_with (go_at_fn g; refine hcall.mono ?_; rintro e w' ⟨rfl, hb'⟩)
    go_ret
    exact ⟨rfl, hb'⟩
  have hc := contains_int (c := c) (Kd.C_below hr hb0) hm hP
  clear hP hp hr
  rw [show xs.all p = !xs.any (fun x => !p x) by rw [List.not_any_eq_all_not]; simp]
  generalize xs.any (fun x => !p x) = b at *
  go_enter Tryz.func79, Tryz.ntmps79
  go_wp2_with (go_at_call 114; refine hc.mono ?_; rintro e w' ⟨rfl, hb⟩)
  go_ret
  exact ⟨rfl, below_new hb⟩
set_option maxHeartbeats 1000000 in
theorem idx_rl {xs : List Rl} {p : Rl → Bool} (hr : Kd.C kRl w A xs.length xs) (hm : xs.length ≤ 9223372036854775807) (hp : PredV w fv (fun W x v => Vrl W x v ∧ x ∈ xs) p) :
    Calls Tryz.prog 53 #[.slice A xs.length c, fv] w fun e w' => e = .returned (.int .i64 (idxF p xs)) ∧ Below w.heap.size w w' := by
  obtain ⟨g, lb, rfl, eg, hp⟩ := hp
  have HR := Aside0.mk hr
  clear hr
  go_enter Tryz.func53, Tryz.ntmps53
  go_wp2
  go_loopg [5, 8] xs.length (fun gg _ s8 wr => ∃ kk : Nat, kk ≤ xs.length ∧ xs.length - kk ≤ gg ∧ s8 = .int .i64 kk ∧ Aside0 (Below w.heap.size w wr) ∧ Aside0 (∀ j, j < kk → p (xs.getD j default) = false))
  case atStart => exact ⟨0, Nat.zero_le _, by omega, rfl, ⟨Below.refl _ w⟩, ⟨fun j hj => absurd hj (Nat.not_lt_zero _)⟩⟩
  case round =>
    obtain ⟨kk, hkk, hg, rfl, BW, AF⟩ := hrel
    by_cases hlt : kk < xs.length
    · have hltz : (kk : Int) < (xs.length : Int) := by omega
      obtain ⟨ad, A1, c1, rfl, l2, l3, l4, l5⟩ := at_rl (Kd.C_below HR.out BW.out) kk hlt
      have hcall := hp wr (xs.getD kk default) _ BW.out ⟨⟨A1, c1, rfl, l4, l5⟩, getD_mem hlt⟩
      clear hp
      obtain ⟨y, hy⟩ : ∃ y, xs.getD kk default = y := ⟨_, rfl⟩
      rw [hy] at l2 l3 hcall
      have HY := Aside0.mk hy
      clear hy
      cases hq : p y with
      | true =>
        have HQ : Aside0 (p (xs.getD kk default) = _) := ⟨(congrArg p HY.out).trans hq⟩
        rw [hq] at hcall
        clear hq
        go_wp2_with (go_at_fn g; refine hcall.mono ?_; rintro e w' ⟨rfl, hb'⟩)
        go_ret
        exact ⟨rint (idxF_hit hlt HQ.out AF.out).symm, BW.out.trans (hb'.mono BW.out.size)⟩
      | false =>
        have HQ : Aside0 (p (xs.getD kk default) = _) := ⟨(congrArg p HY.out).trans hq⟩
        rw [hq] at hcall
        clear hq
        go_wp2_with (go_at_fn g; refine hcall.mono ?_; rintro e w' ⟨rfl, hb'⟩)
        go_roundg (xs.length - (kk + 1))
        case measure => omega
        case rel =>
          refine ⟨kk + 1, by omega, by omega, by go_num, ⟨BW.out.trans (hb'.mono BW.out.size)⟩, ⟨fun j hj => ?_⟩⟩
          by_cases e : j = kk
          · subst e
            exact HQ.out
          · exact AF.out j (by omega)
    · have hltz : ¬ (kk : Int) < (xs.length : Int) := by omega
      have : kk = xs.length := by omega
      subst this
      go_wp2
      go_ret
      exact ⟨rint (idxF_miss AF.out).symm, BW.out⟩
theorem contains_rl {xs : List Rl} {p : Rl → Bool} (hr : Kd.C kRl w A xs.length xs) (hm : xs.length ≤ 9223372036854775807) (hp : PredV w fv (fun W x v => Vrl W x v ∧ x ∈ xs) p) :
    Calls Tryz.prog 72 #[.slice A xs.length c, fv] w fun e w' => e = .returned (.bool (xs.any p)) ∧ Below w.heap.size w w' := by
  have hi := idx_rl (c := c) hr hm hp
  rw [← idxF_any]
  clear hr hp
  generalize idxF p xs = i at *
  go_enter Tryz.func72, Tryz.ntmps72
  go_wp2_with (go_at_call 53; refine hi.mono ?_; rintro e w' ⟨rfl, hb⟩)
  go_ret
  exact ⟨rfl, hb⟩
set_option maxRecDepth 100000 in
theorem all_rl {xs : List Rl} {p : Rl → Bool} (hr : Kd.C kRl w A xs.length xs) (hm : xs.length ≤ 9223372036854775807) (hp : PredV w fv (fun W x v => Vrl W x v ∧ x ∈ xs) p) :
    Calls Tryz.prog 40 #[.slice A xs.length c, fv] w fun e w' => e = .returned (.bool (xs.all p)) ∧ Below w.heap.size w w' := by
  obtain ⟨gf, lf, rfl, _⟩ := id hp
  have hb0 : Below w.heap.size w (w.alloc (.cells #[.func (.func gf) #[] lf] 73)) := (Below.refl _ _).alloc (Nat.le_refl _) _
  have hP : PredV (w.alloc (.cells #[.func (.func gf) #[] lf] 73)) (.func (.func 73) #[] #[.pointer (some ⟨w.heap.size, 0, none⟩)]) (fun W x v => Vrl W x v ∧ x ∈ xs) (fun x => !p x) := by
    refine ⟨_, _, rfl, fun _ _ => rfl, fun W x v hW hVM => ?_⟩
    obtain ⟨hV, hMem⟩ := hVM
    obtain ⟨g, lb, hfe, eg, hp⟩ := hp.below (hb0.trans (hW.mono hb0.size))
    rw [hfe] at hW
    have hbox : W.cell? ⟨w.heap.size, 0, none⟩ = some (.func (.func g) #[] lb) := (hW.cell (p := ⟨w.heap.size, 0, none⟩) (by simp)).trans (by simp)
    clear hfe
    obtain ⟨Ar, cr, rfl, hl, hC⟩ := hV
    have hw1 := (Below.refl W.heap.size W).alloc (Nat.le_refl _) (.cells #[.int .i64 x.left, .slice Ar x.right.length cr] 40)
    have hcall := hp _ x _ hw1 ⟨⟨Ar, cr, rfl, hl, Kd.C_below hC hw1⟩, hMem⟩
    have hbox := (hw1.cell (p := ⟨w.heap.size, 0, none⟩) (by have := hW.size; simp at this; simp; omega)).trans hbox
    clear hC hw1
    clear hW hp hb0 hr
    show Calls _ _ #[.agg #[.int .i64 x.left, .slice Ar x.right.length cr], _] _ fun e w' => e = .returned (.bool (!p x)) ∧ _
    generalize p x = b at hcall ⊢
    go_enter Tryz.func73, Tryz.ntmps73
    go_wp2_with (go_at_fn g; refine hcall.mono ?_; rintro e w' ⟨rfl, hb'⟩)
    go_ret
    exact ⟨rfl, below_new hb'⟩
  have hc := contains_rl (c := c) (Kd.C_below hr hb0) hm hP
  clear hP hp hr
  rw [show xs.all p = !xs.any (fun x => !p x) by rw [List.not_any_eq_all_not]; simp]
  generalize xs.any (fun x => !p x) = b at *
  go_enter Tryz.func40, Tryz.ntmps40
  go_wp2_with (go_at_call 72; refine hc.mono ?_; rintro e w' ⟨rfl, hb⟩)
  go_ret
  exact ⟨rfl, below_new hb⟩
end
end Go.Proofs.YtliofoikejdjeaaGreat
/- Classes of bytes, by the program and by the document. -/
namespace Go.Proofs.YtliofoikejdjeaaGreat
open Go.RowKit Go.Proofs.YtliofoikejdjeaaGreatW.PrintWords
set_option linter.unusedVariables false
set_option linter.unusedSimpArgs false
theorem char_letter (c : UInt8) (w : World) : Calls Tryz.prog 120 #[.int .u8 c.toNat] w fun e w' => e = .returned (.int .i64 (ltr c.toNat)) ∧ w' = w := by
  have hc : (c.toNat : Int) ≤ 255 := by have := c.toNat_lt; omega
  have H := Aside0.mk (or32 c)
  go_enter Tryz.func120, Tryz.ntmps120
  go_wp2
  all_goals
    go_ret
    refine ⟨rint ?_, rfl⟩
    have h := H.out
    try simp only [beq_iff_eq, beq_eq_false_iff_ne, ne_eq] at *
    unfold ltr
    cases ha : alpha c.toNat
    · have h0 := mt h.1 (by simp [ha])
      simp only [Bool.false_eq_true, or_false]
      (repeat' split) <;> omega
    · have h0 := h.2 ha
      simp only [or_true, if_true]
      (repeat' split) <;> first | omega | (simp [alpha] at ha; omega)
theorem char_Class (c : UInt8) (w : World) : Calls Tryz.prog 90 #[.int .u8 c.toNat] w fun e w' => e = .returned (.int .i64 (cls c.toNat)) ∧ w' = w := by
  have hc : (c.toNat : Int) ≤ 255 := by have := c.toNat_lt; omega
  have hl := char_letter c w
  go_enter Tryz.func90, Tryz.ntmps90
  go_wp2_with (go_at_call 120; refine hl.mono ?_; rintro e w' ⟨rfl, rfl⟩)
  all_goals
    go_ret
    refine ⟨rint ?_, rfl⟩
    try simp only [beq_iff_eq, beq_eq_false_iff_ne, ne_eq] at *
    unfold cls
    (repeat' split) <;> first | rfl | (exfalso; omega)
set_option maxHeartbeats 4000000 in
theorem ref01_Class (c : UInt8) (w : World) : Calls Tryz.prog 106 #[.int .u8 c.toNat] w fun e w' => e = .returned (.int .i64 (cls c.toNat)) ∧ w' = w := by
  have hc : (c.toNat : Int) ≤ 255 := by have := c.toNat_lt; omega
  go_enter Tryz.func106, Tryz.ntmps106
  go_wp2
  all_goals
    go_ret
    refine ⟨rint ?_, rfl⟩
    try simp only [beq_iff_eq, beq_eq_false_iff_ne, ne_eq] at *
    unfold cls ltr alpha
    simp only [Bool.or_eq_true, decide_eq_true_eq]
    (repeat' split) <;> first | rfl | (exfalso; omega) | (exfalso; simp_all; done)
end Go.Proofs.YtliofoikejdjeaaGreat
/- char: classes of bytes, names; the document's likewise: both by one plain function. -/
namespace Go.Proofs.YtliofoikejdjeaaGreat
open Go.RowKit Go.Proofs.YtliofoikejdjeaaGreatW.PrintWords
set_option linter.unusedVariables false
set_option linter.unusedSimpArgs false
theorem char_ascii (s : ByteArray) (hs : s.size ≤ 140737488351232) (w : World) : Calls Tryz.prog 109 #[.string s] w fun e w' => e = .returned (.bool (decide (∀ (i : Nat) (h : i < s.size), (s[i]'h).toNat < 128))) ∧ w' = w := by
  go_enter Tryz.func109, Tryz.ntmps109
  go_wp2
  go_loop [3, 6] (fun _ i => ∃ k : Nat, k ≤ s.size ∧ i = .int .i64 k ∧ Aside0 (∀ (j : Nat) (h : j < s.size), j < k → (s[j]'h).toNat < 128)) (fun _ i => s.size - (intOf i).toNat)
  case atStart => exact ⟨0, Nat.zero_le _, rfl, ⟨fun j _ hj => absurd hj (Nat.not_lt_zero _)⟩⟩
  case round =>
    obtain ⟨k, hk, rfl, A⟩ := hrel
    by_cases hlt : k < s.size
    · by_cases h8 : (s[k]'hlt).toNat < 128
      · have HB : Aside0 _ := ⟨h8⟩
        have h8' : ¬ (128 : Int) ≤ ((s[k]'hlt).toNat : Int) := by omega
        clear h8
        go_wp2
        go_round
        case rel =>
          refine ⟨k + 1, by omega, by go_num, ⟨fun j h hj => ?_⟩⟩
          by_cases e : j = k
          · subst e
            exact HB.out
          · exact A.out j h (by omega)
        case measure => simp [intOf]; omega
      · have HB : Aside0 _ := ⟨h8⟩
        have h8' : (128 : Int) ≤ ((s[k]'hlt).toNat : Int) := by omega
        clear h8
        go_wp2
        go_ret
        refine ⟨rbool ?_, rfl⟩
        exact (decide_eq_false fun h => HB.out (h k hlt)).symm
    · go_wp2
      go_ret
      exact ⟨rbool (decide_eq_true fun i h => A.out i h (by omega)).symm, rfl⟩
end Go.Proofs.YtliofoikejdjeaaGreat
/- char.Name by way of each; the document's Name; gtok's bytes. -/
namespace Go.Proofs.YtliofoikejdjeaaGreat
open Go.RowKit Go.Proofs.YtliofoikejdjeaaGreatW.PrintWords
set_option linter.unusedVariables false
set_option maxRecDepth 100000
set_option linter.unusedSimpArgs false
/-- A function value of a place and a byte. -/
def PredIC (w : World) (fv : Value) (p : Nat → UInt8 → Bool) : Prop :=
  ∃ g lb, fv = .func (.func g) #[] lb ∧ (∀ args W, (callFunc g args).run Tryz.prog W = .ok (.enter g args) W) ∧
    ∀ W (i : Nat) (c : UInt8), i ≤ 140737488351232 → Below w.heap.size w W → Calls Tryz.prog g (#[.int .i64 i, .int .u8 c.toNat] ++ lb) W fun e w' => e = .returned (.bool (p i c)) ∧ Below W.heap.size W w'
def eachB (p : Nat → UInt8 → Bool) (s : ByteArray) : Bool := decide (∀ (i : Nat) (h : i < s.size), p i (s[i]'h) = true) && decide (0 < s.size)

set_option maxHeartbeats 1000000 in
theorem char_each (s : ByteArray) (hs : s.size ≤ 140737488351232) (ha : ∀ (i : Nat) (h : i < s.size), (s[i]'h).toNat < 128) (p : Nat → UInt8 → Bool) (fv : Value) (w : World) (hp : PredIC w fv p) :
    Calls Tryz.prog 110 #[.string s, fv] w fun e w' => e = .returned (.bool (eachB p s)) ∧ Below w.heap.size w w' := by
  obtain ⟨g, lb, rfl, eg, hp⟩ := hp
  go_enter Tryz.func110, Tryz.ntmps110
  go_wp2
  have HA := Aside0.mk ha
  clear ha
  obtain ⟨b, hb⟩ : ∃ b, b = w.heap.size := ⟨_, rfl⟩
  have HIT := Aside0.mk (World.iter_heap w s 0)
  have HB0 := Aside0.mk (below_alloc (Below.refl _ w) (.stringIter s 0))
  have hbs : b < (w.iter s 0).heap.size := by rw [hb]; simp [World.iter]
  rw [← hb] at HIT ⊢
  have HB := Aside0.mk hb
  clear hb
  change Aside0 (Below w.heap.size w (w.iter s 0)) at HB0
  generalize w.iter s 0 = W0 at *
  go_loopg [5] s.size (fun gg _ wr => ∃ k : Nat, k ≤ s.size ∧ s.size - k ≤ gg ∧ b < wr.heap.size ∧ Aside0 (wr.heap[b]? = some (.stringIter s k)) ∧ Aside0 (Below w.heap.size w wr) ∧ Aside0 (∀ (j : Nat) (h : j < s.size), j < k → p j (s[j]'h) = true))
  case atStart => exact ⟨0, Nat.zero_le _, by omega, hbs, HIT, HB0, ⟨fun j _ hj => absurd hj (Nat.not_lt_zero _)⟩⟩
  case round =>
    obtain ⟨k, hk, hg, hbl, IT, BW, AF⟩ := hrel
    clear HIT HB0 hbs
    by_cases hlt : k < s.size
    · have hn := fun ty => Lib.run_next_ascii_at (P := Tryz.prog) wr b s k ty IT.out hlt (HA.out k hlt)
      have IT1 := Aside0.mk (Lib.iterAt_heap wr b s k (k + 1) IT.out)
      have BW1 := Aside0.mk (Lib.below_iterAt BW.out (k := b) (by rw [HB.out]; exact Nat.le_refl _) s (k + 1))
      have hsz : b < (wr.iterAt b s (k + 1)).heap.size := by rw [Lib.iterAt_size]; exact hbl
      have hcall := hp (wr.iterAt b s (k + 1)) k (s[k]'hlt) (by omega) BW1.out
      clear hp IT
      have HN := Aside0.mk hn
      clear hn
      generalize wr.iterAt b s (k + 1) = w1 at *
      have hn := HN.out
      cases hq : p k (s[k]'hlt) with
      | true =>
        have HQ := Aside0.mk hq
        rw [hq] at hcall
        clear hq
        go_wp2_with (go_at_fn g; refine hcall.mono ?_; rintro e w' ⟨rfl, hb'⟩)
        go_roundg (s.size - (k + 1))
        case measure => omega
        case rel =>
          refine ⟨k + 1, by omega, by omega, Nat.lt_of_lt_of_le hsz hb'.size, ⟨(hb'.block b hsz).trans IT1.out⟩, ⟨BW1.out.trans (hb'.mono BW1.out.size)⟩, ⟨fun j h hj => ?_⟩⟩
          by_cases e : j = k
          · subst e
            exact HQ.out
          · exact AF.out j h (by omega)
      | false =>
        have HQ := Aside0.mk hq
        rw [hq] at hcall
        clear hq
        go_wp2_with (go_at_fn g; refine hcall.mono ?_; rintro e w' ⟨rfl, hb'⟩)
        go_ret
        refine ⟨rbool ?_, BW1.out.trans (hb'.mono BW1.out.size)⟩
        unfold eachB
        rw [decide_eq_false (fun h => by have := h k hlt; rw [HQ.out] at this; cases this)]
        rfl
    · have hn := fun ty => Lib.run_next_end_at (P := Tryz.prog) wr b s k ty IT.out hlt
      clear hp
      by_cases h0 : s.size = 0
      · have hs0 := toList_nil h0
        have H0 := Aside0.mk h0
        clear h0
        go_wp2
        go_ret
        refine ⟨rbool ?_, BW.out⟩
        simp [eachB, H0.out]
      · have hs0 := toList_ne h0
        have hs1 : (!s.toList.isEmpty) = true := by simpa using hs0
        have H0 := Aside0.mk h0
        clear h0
        go_wp2
        go_ret
        refine ⟨rbool ?_, BW.out⟩
        unfold eachB
        rw [decide_eq_true (fun i h => AF.out i h (by omega)), decide_eq_true (Nat.pos_of_ne_zero H0.out)]
        rfl
theorem name1 (W : World) (i : Nat) (hi : i ≤ 140737488351232) (c : UInt8) : Calls Tryz.prog 111 #[.int .i64 i, .int .u8 c.toNat] W fun e w' => e = .returned (.bool (decide (cls c.toNat = 4) || decide (cls c.toNat = 3) && decide (0 < i))) ∧ W = w' := by
  have hc := char_Class c W
  generalize cls c.toNat = k at *
  by_cases h4 : k = 4
  · subst h4
    go_enter Tryz.func111, Tryz.ntmps111
    go_wp2_with (go_at_call 90; refine hc.mono ?_; rintro e w' ⟨rfl, rfl⟩)
    go_ret
    exact ⟨by simp, rfl⟩
  · have b4 : (k == 4) = false := by simpa using h4
    have H4 := Aside0.mk h4
    clear h4
    by_cases h3 : k = 3
    · subst h3
      go_enter Tryz.func111, Tryz.ntmps111
      go_wp2_with (go_at_call 90; refine hc.mono ?_; rintro e w' ⟨rfl, rfl⟩)
      go_ret
      exact ⟨by simp, rfl⟩
    · have b3 : (k == 3) = false := by simpa using h3
      have H3 := Aside0.mk h3
      clear h3
      go_enter Tryz.func111, Tryz.ntmps111
      go_wp2_with (go_at_call 90; refine hc.mono ?_; rintro e w' ⟨rfl, rfl⟩)
      go_ret
      exact ⟨by simp [H4.out, H3.out], rfl⟩
theorem nameOk_each (s : ByteArray) (hs : s.size ≤ 140737488351232) : nameOk s = (decide (∀ (i : Nat) (h : i < s.size), (s[i]'h).toNat < 128) && eachB (fun i c => decide (cls c.toNat = 4) || decide (cls c.toNat = 3) && decide (0 < i)) s) := by
  rw [Bool.eq_iff_iff]
  simp only [nameOk, eachB, Bool.and_eq_true, decide_eq_true_eq, Bool.or_eq_true]
  constructor
  · rintro ⟨h0, h⟩
    refine ⟨fun i hi => ?_, h, h0⟩
    rcases Nat.lt_or_ge (s[i]'hi).toNat 128 with h1 | h1
    · exact h1
    · have := h i hi
      rw [cls_hi _ (by omega)] at this
      omega
  · rintro ⟨_, h, h0⟩
    exact ⟨h0, h⟩
theorem char_Name (s : ByteArray) (hs : s.size ≤ 140737488351232) (w : World) : Calls Tryz.prog 76 #[.string s] w fun e w' => e = .returned (.bool (nameOk s)) ∧ Below w.heap.size w w' := by
  have ha := char_ascii s hs w
  rw [nameOk_each s hs]
  by_cases h : ∀ (i : Nat) (h : i < s.size), (s[i]'h).toNat < 128
  · have he := fun W => char_each s hs h (fun i c => decide (cls c.toNat = 4) || decide (cls c.toNat = 3) && decide (0 < i)) (.func (.func 111) #[] #[]) W ⟨_, _, rfl, fun _ _ => rfl, fun W' i c hi hb => (name1 W' i hi c).mono fun e w' ⟨he, hw⟩ => ⟨he, hw ▸ Below.refl _ _⟩⟩
    rw [decide_eq_true h] at *
    have he := he w
    generalize eachB (fun i c => decide (cls c.toNat = 4) || decide (cls c.toNat = 3) && decide (0 < i)) s = b at *
    clear h
    go_enter Tryz.func76, Tryz.ntmps76
    go_wp2_with (first | (go_at_call 109; refine ha.mono ?_; rintro e w' ⟨rfl, rfl⟩) | (go_at_call 110; refine he.mono ?_; rintro e w' ⟨rfl, hb⟩))
    go_ret
    exact ⟨rfl, hb⟩
  · rw [decide_eq_false h] at *
    go_enter Tryz.func76, Tryz.ntmps76
    go_wp2_with (go_at_call 109; refine ha.mono ?_; rintro e w' ⟨rfl, rfl⟩)
    go_ret
    exact ⟨rfl, Below.refl _ _⟩
end Go.Proofs.YtliofoikejdjeaaGreat
/- gtok: spans, what is quoted. -/
namespace Go.Proofs.YtliofoikejdjeaaGreat
open Go.RowKit Go.Proofs.YtliofoikejdjeaaGreatW.PrintWords
set_option linter.unusedVariables false
set_option linter.unusedSimpArgs false
set_option maxHeartbeats 1000000 in
theorem gtok_span (s : ByteArray) (hs : s.size ≤ 140737488351232) (a : Nat) (ha : a ≤ s.size) (p : UInt8 → Bool) (fv : Value) (w : World) (hp : PredV w fv Vu8 p) :
    Calls Tryz.prog 87 #[.string s, .int .i64 a, fv] w fun e w' => e = .returned (.int .i64 (spanS p s a)) ∧ Below w.heap.size w w' := by
  obtain ⟨g, lb, rfl, eg, hp⟩ := hp
  go_enter Tryz.func87, Tryz.ntmps87
  go_wp2
  go_loopg [7] s.size (fun gg v7 wr => ∃ k : Nat, a + k ≤ s.size ∧ s.size - (a + k) ≤ gg ∧ v7 = .int .i64 k ∧ Aside0 (Below w.heap.size w wr) ∧ Aside0 (∀ (j : Nat) (h : a + j < s.size), j < k → p (s[a + j]'h) = true))
  case atStart => exact ⟨0, by omega, by omega, rfl, ⟨Below.refl _ _⟩, ⟨fun j _ hj => absurd hj (Nat.not_lt_zero _)⟩⟩
  case round =>
    obtain ⟨k, hk, hg, rfl, BW, AF⟩ := hrel
    by_cases hlt : a + k < s.size
    · have hltz : (a : Int) + (k : Int) < (s.size : Int) := by omega
      have hcall := hp wr (s[a + k]'hlt) _ BW.out rfl
      clear hp
      cases hq : p (s[a + k]'hlt) with
      | true =>
        have HQ := Aside0.mk hq
        rw [hq] at hcall
        clear hq
        go_wp2_with (go_at_fn g; refine hcall.mono ?_; rintro e w' ⟨rfl, hb'⟩)
        go_roundg (s.size - (a + (k + 1)))
        case measure => omega
        case rel =>
          refine ⟨k + 1, by omega, by omega, by go_num, ⟨BW.out.trans (hb'.mono BW.out.size)⟩, ⟨fun j h hj => ?_⟩⟩
          by_cases e : j = k
          · subst e
            exact HQ.out
          · exact AF.out j h (by omega)
      | false =>
        have HQ := Aside0.mk hq
        rw [hq] at hcall
        clear hq
        go_wp2_with (go_at_fn g; refine hcall.mono ?_; rintro e w' ⟨rfl, hb'⟩)
        go_ret
        exact ⟨rint (congrArg Int.ofNat (spanS_eq (by omega) AF.out (fun _ => HQ.out))).symm, BW.out.trans (hb'.mono BW.out.size)⟩
    · have hltz : ¬ (a : Int) + (k : Int) < (s.size : Int) := by omega
      clear hp
      go_wp2
      go_ret
      exact ⟨rint (congrArg Int.ofNat (spanS_eq (by omega) AF.out (fun h => absurd h hlt))).symm, BW.out⟩
theorem gtok_inside (c : UInt8) (w : World) : Calls Tryz.prog 112 #[.int .u8 c.toNat] w fun e w' => e = .returned (.bool (insideB c)) ∧ w' = w := by
  have hc : (c.toNat : Int) ≤ 255 := by have := c.toNat_lt; omega
  by_cases h1 : (32 : Int) < c.toNat
  · by_cases h2 : (c.toNat : Int) ≤ 126
    · go_enter Tryz.func112, Tryz.ntmps112
      go_wp2
      go_ret
      exact ⟨rbool (by rw [Bool.eq_iff_iff]; simp [insideB]; omega), rfl⟩
    · go_enter Tryz.func112, Tryz.ntmps112
      go_wp2
      go_ret
      exact ⟨rbool (by simp [insideB]; omega), rfl⟩
  · go_enter Tryz.func112, Tryz.ntmps112
    go_wp2
    go_ret
    exact ⟨rbool (by simp [insideB]; omega), rfl⟩
theorem ref05_inside (c : UInt8) (w : World) : Calls Tryz.prog 107 #[.int .u8 c.toNat] w fun e w' => e = .returned (.bool (insideB c)) ∧ w' = w := by
  have hc : (c.toNat : Int) ≤ 255 := by have := c.toNat_lt; omega
  by_cases h1 : (33 : Int) ≤ c.toNat
  · by_cases h2 : (c.toNat : Int) ≤ 126
    · go_enter Tryz.func107, Tryz.ntmps107
      go_wp2
      go_ret
      exact ⟨rbool (by rw [Bool.eq_iff_iff]; simp [insideB]; omega), rfl⟩
    · go_enter Tryz.func107, Tryz.ntmps107
      go_wp2
      go_ret
      exact ⟨rbool (by simp [insideB]; omega), rfl⟩
  · go_enter Tryz.func107, Tryz.ntmps107
    go_wp2
    go_ret
    exact ⟨rbool (by simp [insideB]; omega), rfl⟩
/-- An error of fault.New's make, or nil. -/
def ErrIs (w : World) (v : Value) (code at_ : Int) : Prop :=
  (code = 0 ∧ v = .nilIface) ∨ (code ≠ 0 ∧ ∃ b, v = .iface 86 (.pointer (some ⟨b, 0, none⟩)) ∧ w.heap[b]? = some (.cells #[.int .i64 code, .int .i64 at_] 88 (0, 0)))
theorem ErrIs.below {w w1 : World} {v : Value} {code at_ : Int} (h : ErrIs w v code at_) (hb : Below w.heap.size w w1) : ErrIs w1 v code at_ := by
  rcases h with h | ⟨h0, b, e, hc⟩
  · exact .inl h
  · exact .inr ⟨h0, b, e, blk_below hc hb⟩
theorem ErrIs.nil {w : World} {v : Value} {a : Int} (h : ErrIs w v 0 a) : v = .nilIface := by
  rcases h with h | h
  · exact h.2
  · exact absurd rfl h.1
theorem ErrIs.some_ {w : World} {v : Value} {c a : Int} (h : ErrIs w v c a) (hc : c ≠ 0) : ∃ b, v = .iface 86 (.pointer (some ⟨b, 0, none⟩)) := by
  rcases h with h | ⟨_, b, h, _⟩
  · exact absurd h.1 hc
  · exact ⟨b, h⟩
theorem fault_New (e at_ : Int) (w : World) (he : (e == 0) = false) : Calls Tryz.prog 28 #[.int .i64 e, .int .i64 at_] w fun ev w' => ∃ v, ev = .returned v ∧ ErrIs w' v e at_ ∧ Below w.heap.size w w' := by
  have H := Aside0.mk he
  go_enter Tryz.func28, Tryz.ntmps28
  go_wp2
  go_ret
  exact ⟨_, rfl, .inr ⟨by simpa using H.out, _, rfl, heap_alloc_new _ _⟩, below_alloc (Below.refl _ _) _⟩
set_option maxHeartbeats 1000000 in
theorem gtok_quoted (s : ByteArray) (hs : s.size ≤ 140737488351232) (a : Nat) (ha : a < s.size) (w : World) :
    Calls Tryz.prog 77 #[.string s, .int .i64 a] w fun e w' => ∃ v, e = .returned (.tuple #[.int .i64 (quotedS s a).1, v]) ∧ ErrIs w' v (quotedS s a).2.1 (quotedS s a).2.2 ∧ Below w.heap.size w w' := by
  have hsp := gtok_span s hs (a + 1) (by omega) insideB (.func (.func 112) #[] #[]) w ⟨_, _, rfl, fun _ _ => by kernel_rfl, fun W x v _ hv => by
    obtain rfl : v = .int .u8 x.toNat := hv
    exact (gtok_inside x W).mono fun e w' ⟨he, hw⟩ => ⟨he, hw ▸ Below.refl _ _⟩⟩
  have hle := spanS_le insideB s (a + 1) (by omega)
  rw [show (((a + 1 : Nat) : Int)) = (a : Int) + 1 from by omega] at hsp
  unfold quotedS
  generalize spanS insideB s (a + 1) = m at *
  by_cases h1 : s.size ≤ a + (1 + m)
  · simp only [if_pos h1]
    go_enter Tryz.func77, Tryz.ntmps77
    go_wp2_with (first | (go_at_call 87; refine hsp.mono ?_; rintro e w' ⟨rfl, hb⟩) | (go_at_call 28; refine (fault_New _ _ _ (by decide)).mono ?_; rintro e w1 ⟨v, rfl, hv, hb1⟩))
    go_ret2
    exact ⟨_, rfl, hv, hb.trans (hb1.mono hb.size)⟩
  · simp only [if_neg h1]
    have hlt : a + (1 + m) < s.size := by omega
    have hbn := byteN_at hlt
    by_cases h2 : byteN s (a + (1 + m)) ≠ 39 ∨ m = 0
    · simp only [if_pos h2]
      have HB := Aside0.mk hbn
      by_cases h3 : byteN s (a + (1 + m)) = 39
      · obtain rfl : m = 0 := h2.resolve_left (by simp [h3])
        have h4 : (((s[a + 1]'hlt).toNat : Int) != 39) = false := by rw [show (s[a + 1]'hlt).toNat = byteN s (a + 1) from hbn, show byteN s (a + 1) = 39 from h3]; rfl
        clear hbn h2 h3
        go_enter Tryz.func77, Tryz.ntmps77
        go_wp2_with (first | (go_at_call 87; refine hsp.mono ?_; rintro e w' ⟨rfl, hb⟩) | (go_at_call 28; refine (fault_New _ _ _ (by decide)).mono ?_; rintro e w1 ⟨v, rfl, hv, hb1⟩))
        go_ret2
        exact ⟨_, rfl, hv, hb.trans (hb1.mono hb.size)⟩
      · have h4 : (((s[a + (1 + m)]'hlt).toNat : Int) != 39) = true := by rw [hbn]; simp; omega
        clear hbn h2 h3
        go_enter Tryz.func77, Tryz.ntmps77
        go_wp2_with (first | (go_at_call 87; refine hsp.mono ?_; rintro e w' ⟨rfl, hb⟩) | (go_at_call 28; refine (fault_New _ _ _ (by decide)).mono ?_; rintro e w1 ⟨v, rfl, hv, hb1⟩))
        go_ret2
        exact ⟨_, rfl, hv, hb.trans (hb1.mono hb.size)⟩
    · simp only [if_neg h2]
      have h3 : byteN s (a + (1 + m)) = 39 := by omega
      have h5 : (1 + (m : Int) == 1) = false := by simp; omega
      have h4 : (((s[a + (1 + m)]'hlt).toNat : Int) != 39) = false := by rw [hbn, h3]; rfl
      clear hbn h2 h3
      by_cases h6 : 23 ≤ m
      · simp only [if_pos h6]
        go_enter Tryz.func77, Tryz.ntmps77
        go_wp2_with (first | (go_at_call 87; refine hsp.mono ?_; rintro e w' ⟨rfl, hb⟩) | (go_at_call 28; refine (fault_New _ _ _ (by decide)).mono ?_; rintro e w1 ⟨v, rfl, hv, hb1⟩))
        go_ret2
        exact ⟨_, rfl, hv, hb.trans (hb1.mono hb.size)⟩
      · simp only [if_neg h6]
        go_enter Tryz.func77, Tryz.ntmps77
        go_wp2_with (go_at_call 87; refine hsp.mono ?_; rintro e w' ⟨rfl, hb⟩)
        go_ret2
        exact ⟨_, rfl, .inl ⟨rfl, rfl⟩, hb⟩
end Go.Proofs.YtliofoikejdjeaaGreat
/- gtok's Quoted, the document's Quoted. -/
namespace Go.Proofs.YtliofoikejdjeaaGreat
open Go.RowKit Go.Proofs.YtliofoikejdjeaaGreatW.PrintWords
set_option linter.unusedVariables false
set_option maxRecDepth 100000
set_option linter.unusedSimpArgs false
end Go.Proofs.YtliofoikejdjeaaGreat
/- The document's quoted. -/
namespace Go.Proofs.YtliofoikejdjeaaGreat
open Go.RowKit Go.Proofs.YtliofoikejdjeaaGreatW.PrintWords
set_option linter.unusedVariables false
set_option linter.unusedSimpArgs false
set_option maxHeartbeats 4000000 in
theorem ref05_quoted (s : ByteArray) (hs : s.size ≤ 140737488351232) (a : Nat) (ha : a < s.size) (w : World) :
    Calls Tryz.prog 69 #[.string s, .int .i64 a] w fun e w' => e = .returned (.tuple #[.int .i64 (quotedS s a).1, .agg #[.int .i64 (quotedS s a).2.1, .int .i64 (quotedS s a).2.2]]) ∧ Below w.heap.size w w' := by
  have hle := spanS_le insideB s (a + 1) (by omega)
  have hcell : ∀ W : World, (W.alloc (.cells #[.int .i64 0, .int .i64 0] 101)).heap[W.heap.size]? = some (.cells #[.int .i64 0, .int .i64 0] 101 (0, 0)) := fun W => heap_alloc_new _ _
  go_enter Tryz.func69, Tryz.ntmps69
  go_wp2
  go_loop [6] (fun v => ∃ k : Nat, a + 1 + k ≤ s.size ∧ v = .int .i64 ((1 : Int) + k) ∧ Aside0 (∀ (j : Nat) (h : a + 1 + j < s.size), j < k → insideB (s[a + 1 + j]'h) = true)) (fun v => s.size + 1 - (intOf v).toNat)
  case atStart => exact ⟨0, by omega, rfl, ⟨fun j _ hj => absurd hj (Nat.not_lt_zero _)⟩⟩
  case round =>
    obtain ⟨k, hk, rfl, AF⟩ := hrel
    by_cases hlt : a + (1 + k) < s.size
    · have hlt' : a + 1 + k < s.size := by omega
      have hltz : (a : Int) + (1 + (k : Int)) < (s.size : Int) := by omega
      have hin := fun W => ref05_inside (s[a + (1 + k)]'hlt) W
      cases hq : insideB (s[a + (1 + k)]'hlt) with
      | true =>
        have HQ : Aside0 (insideB (s[a + 1 + k]'hlt') = true) := ⟨by rw [← hq]; simp only [Nat.add_assoc]⟩
        rw [hq] at hin
        clear hq
        go_wp2_with (go_at_call 107; refine (hin _).mono ?_; rintro e w' ⟨rfl, rfl⟩)
        go_round
        case rel =>
          refine ⟨k + 1, by omega, by go_num, ⟨fun j h hj => ?_⟩⟩
          by_cases e : j = k
          · subst e
            exact HQ.out
          · exact AF.out j h (by omega)
        case measure => simp [intOf]; omega
      | false =>
        have HS : Aside0 (spanS insideB s (a + 1) = k) := ⟨spanS_eq hk AF.out (fun h => by rw [← hq]; simp only [Nat.add_assoc])⟩
        rw [hq] at hin
        clear hq
        have hbn := byteN_at hlt
        by_cases h2 : byteN s (a + (1 + k)) ≠ 39 ∨ k = 0
        · have HF : Aside0 (quotedS s a = (0, 2, (a : Int) + (1 + k))) := ⟨by unfold quotedS; simp only [HS.out]; rw [if_neg (by omega), if_pos h2]⟩
          by_cases h3 : byteN s (a + (1 + k)) = 39
          · obtain rfl : k = 0 := h2.resolve_left (by simp [h3])
            have h4 : (((s[a + 1]'hlt).toNat : Int) != 39) = false := by rw [show (s[a + 1]'hlt).toNat = byteN s (a + 1) from hbn, show byteN s (a + 1) = 39 from h3]; rfl
            clear hbn h2 h3
            go_wp2_with (go_at_call 107; refine (hin _).mono ?_; rintro e w' ⟨rfl, rfl⟩)
            refine bodyPost_ret (v := .tuple #[.int .i64 0, .agg #[.int .i64 2, .int .i64 ((a : Int) + 1)]]) (by simp [results, Tryz.results69, go_sem]) rfl ⟨by rw [HF.out]; simp, ?_⟩
            exact below_alloc (Below.refl _ _) _
          · have h4 : (((s[a + (1 + k)]'hlt).toNat : Int) != 39) = true := by rw [hbn]; simp; omega
            clear hbn h2 h3
            go_wp2_with (go_at_call 107; refine (hin _).mono ?_; rintro e w' ⟨rfl, rfl⟩)
            refine bodyPost_ret (v := .tuple #[.int .i64 0, .agg #[.int .i64 2, .int .i64 ((a : Int) + (1 + k))]]) (by simp [results, Tryz.results69, go_sem]) rfl ⟨by rw [HF.out], ?_⟩
            exact below_alloc (Below.refl _ _) _
        · have h3 : byteN s (a + (1 + k)) = 39 := by omega
          have h5 : (1 + (k : Int) == 1) = false := by simp; omega
          have h4 : (((s[a + (1 + k)]'hlt).toNat : Int) != 39) = false := by rw [hbn, h3]; rfl
          by_cases h6 : 23 ≤ k
          · have HF : Aside0 (quotedS s a = (0, 5, (a : Int))) := ⟨by unfold quotedS; simp only [HS.out]; rw [if_neg (by omega), if_neg h2, if_pos h6]⟩
            clear hbn h2 h3
            go_wp2_with (go_at_call 107; refine (hin _).mono ?_; rintro e w' ⟨rfl, rfl⟩)
            refine bodyPost_ret (v := .tuple #[.int .i64 0, .agg #[.int .i64 5, .int .i64 (a : Int)]]) (by simp [results, Tryz.results69, go_sem]) rfl ⟨by rw [HF.out], ?_⟩
            exact below_alloc (Below.refl _ _) _
          · have HF : Aside0 (quotedS s a = (1 + (k : Int) + 1, 0, 0)) := ⟨by unfold quotedS; simp only [HS.out]; rw [if_neg (by omega), if_neg h2, if_neg h6]⟩
            clear hbn h2 h3
            go_wp2_with (go_at_call 107; refine (hin _).mono ?_; rintro e w' ⟨rfl, rfl⟩)
            refine bodyPost_ret (v := .tuple #[.int .i64 (1 + (k : Int) + 1), .agg #[.int .i64 0, .int .i64 0]]) (by simp [results, Tryz.results69, go_sem]) rfl ⟨by rw [HF.out], ?_⟩
            exact below_alloc (Below.refl _ _) _
    · have hltz : ¬ (a : Int) + (1 + (k : Int)) < (s.size : Int) := by omega
      have HS : Aside0 (spanS insideB s (a + 1) = k) := ⟨spanS_eq hk AF.out (fun h => absurd h (by omega))⟩
      have HF : Aside0 (quotedS s a = (0, 4, (s.size : Int))) := ⟨by unfold quotedS; simp only [HS.out]; rw [if_pos (by omega)]⟩
      go_wp2
      refine bodyPost_ret (v := .tuple #[.int .i64 0, .agg #[.int .i64 4, .int .i64 (s.size : Int)]]) (by simp [results, Tryz.results69, go_sem]) rfl ⟨by rw [HF.out], ?_⟩
      exact below_alloc (Below.refl _ _) _
end Go.Proofs.YtliofoikejdjeaaGreat
/- gtok.Quoted; the document's quoted, Quoted, Name; plain names. -/
namespace Go.Proofs.YtliofoikejdjeaaGreat
open Go.RowKit Go.Proofs.YtliofoikejdjeaaGreatW.PrintWords
set_option linter.unusedVariables false
set_option maxRecDepth 100000
set_option linter.unusedSimpArgs false
def isQuoted (s : ByteArray) : Bool := decide (0 < s.size) && decide (byteN s 0 = 39) && decide ((quotedS s 0).2.1 = 0) && decide ((quotedS s 0).1 = s.size)
set_option maxHeartbeats 1000000 in
theorem gtok_Quoted (s : ByteArray) (hs : s.size ≤ 140737488351232) (w : World) :
    Calls Tryz.prog 44 #[.string s] w fun e w' => e = .returned (.bool (isQuoted s)) ∧ Below w.heap.size w w' := by
  by_cases h0 : s.size = 0
  · have hs0 := toList_nil h0
    have H0 := Aside0.mk h0
    clear h0
    go_enter Tryz.func44, Tryz.ntmps44
    go_wp2
    go_ret
    exact ⟨rbool (by simp [isQuoted, H0.out]), Below.refl _ _⟩
  · have hp : 0 < s.size := Nat.pos_of_ne_zero h0
    have hs0 := toList_ne h0
    have hs1 : s.toList.isEmpty = false := by simpa using hs0
    have hbn := byteN_at hp
    by_cases hq : byteN s 0 = 39
    · have hb : (((s[0]'hp).toNat : Int) != 39) = false := by rw [hbn, hq]; rfl
      have hc := gtok_quoted s hs 0 hp w
      have HP := Aside0.mk (And.intro hp hq)
      have hiq : isQuoted s = (decide ((quotedS s 0).2.1 = 0) && decide ((quotedS s 0).1 = s.size)) := by simp [isQuoted, hp, hq]
      rw [hiq]
      generalize quotedS s 0 = q at *
      clear hbn hq hiq h0
      obtain ⟨n, c, at_⟩ := q
      simp only at hc ⊢
      by_cases hz : c = 0
      · subst hz
        go_enter Tryz.func44, Tryz.ntmps44
        go_wp2_with (go_at_call 77; refine hc.mono ?_; rintro e w1 ⟨v, rfl, hv, hb1⟩; obtain rfl := hv.nil; clear hv)
        go_ret
        exact ⟨rbool (by rw [Bool.eq_iff_iff]; simp), hb1⟩
      · go_enter Tryz.func44, Tryz.ntmps44
        have HZ := Aside0.mk hz
        clear hz
        go_wp2_with (go_at_call 77; refine hc.mono ?_; rintro e w1 ⟨v, rfl, hv, hb1⟩; obtain ⟨b, rfl⟩ := hv.some_ HZ.out; clear hv)
        go_ret
        exact ⟨rbool (by simp [HZ.out]), hb1⟩
    · have hb : (((s[0]'hp).toNat : Int) != 39) = true := by rw [hbn]; simp; omega
      have HP := Aside0.mk (And.intro hp hq)
      clear hbn hq h0
      go_enter Tryz.func44, Tryz.ntmps44
      go_wp2
      go_ret
      exact ⟨rbool (by simp [isQuoted, HP.out.2]), Below.refl _ _⟩

set_option maxHeartbeats 1000000 in
theorem ref05_Quoted (s : ByteArray) (hs : s.size ≤ 140737488351232) (w : World) :
    Calls Tryz.prog 34 #[.string s] w fun e w' => e = .returned (.bool (isQuoted s)) ∧ Below w.heap.size w w' := by
  by_cases h0 : s.size = 0
  · have hs0 := toList_nil h0
    have H0 := Aside0.mk h0
    clear h0
    go_enter Tryz.func34, Tryz.ntmps34
    go_wp2
    go_ret
    exact ⟨rbool (by simp [isQuoted, H0.out]), Below.refl _ _⟩
  · have hp : 0 < s.size := Nat.pos_of_ne_zero h0
    have hs0 := toList_ne h0
    have hs1 : s.toList.isEmpty = false := by simpa using hs0
    have hbn := byteN_at hp
    by_cases hq : byteN s 0 = 39
    · have hb : (((s[0]'hp).toNat : Int) != 39) = false := by rw [hbn, hq]; rfl
      have hc := ref05_quoted s hs 0 hp w
      have hiq : isQuoted s = (decide ((quotedS s 0).2.1 = 0) && decide ((quotedS s 0).1 = s.size)) := by simp [isQuoted, hp, hq]
      rw [hiq]
      generalize quotedS s 0 = q at *
      clear hbn hq hiq h0
      obtain ⟨n, c, at_⟩ := q
      simp only at hc ⊢
      by_cases hz : c = 0
      · subst hz
        go_enter Tryz.func34, Tryz.ntmps34
        go_wp2_with (go_at_call 69; refine hc.mono ?_; rintro e w1 ⟨rfl, hb1⟩)
        go_ret
        exact ⟨rbool (by rw [Bool.eq_iff_iff]; simp), hb1.alloc hb1.size _⟩
      · have hz1 : (c == 0) = false := by simpa using hz
        have HZ := Aside0.mk hz
        clear hz
        go_enter Tryz.func34, Tryz.ntmps34
        go_wp2_with (go_at_call 69; refine hc.mono ?_; rintro e w1 ⟨rfl, hb1⟩)
        go_ret
        exact ⟨rbool (by simp [HZ.out]), hb1.alloc hb1.size _⟩
    · have hb : (((s[0]'hp).toNat : Int) != 39) = true := by rw [hbn]; simp; omega
      have HP := Aside0.mk (And.intro hp hq)
      clear hbn hq h0
      go_enter Tryz.func34, Tryz.ntmps34
      go_wp2
      go_ret
      exact ⟨rbool (by simp [isQuoted, HP.out.2]), Below.refl _ _⟩
set_option maxHeartbeats 1000000 in
theorem ref01_Name (s : ByteArray) (hs : s.size ≤ 140737488351232) (w : World) : Calls Tryz.prog 68 #[.string s] w fun e w' => e = .returned (.bool (nameOk s)) ∧ w' = w := by
  go_enter Tryz.func68, Tryz.ntmps68
  go_wp2
  go_loop [3, 4] (fun i _ => ∃ k : Nat, k ≤ s.size ∧ i = .int .i64 k ∧ Aside0 (∀ (j : Nat) (h : j < s.size), j < k → cls (s[j]'h).toNat = 4 ∨ cls (s[j]'h).toNat = 3 ∧ 0 < j)) (fun i _ => s.size - (intOf i).toNat)
  case atStart => exact ⟨0, by omega, rfl, ⟨fun j _ hj => absurd hj (Nat.not_lt_zero _)⟩⟩
  case round =>
    obtain ⟨k, hk, rfl, AF⟩ := hrel
    by_cases hlt : k < s.size
    · have hc := ref01_Class (s[k]'hlt)
      obtain ⟨q, hq⟩ : ∃ q, cls (s[k]'hlt).toNat = q := ⟨_, rfl⟩
      rw [hq] at hc
      have HQ := Aside0.mk hq
      clear hq
      by_cases hok : q = 4 ∨ q = 3 ∧ 0 < k
      · have HOK := Aside0.mk hok
        have hend : Aside0 (∀ (j : Nat) (h : j < s.size), j < k + 1 → cls (s[j]'h).toNat = 4 ∨ cls (s[j]'h).toNat = 3 ∧ 0 < j) := ⟨fun j h hj => by
          by_cases e : j = k
          · subst e
            rw [HQ.out]
            exact HOK.out
          · exact AF.out j h (by omega)⟩
        by_cases h4 : q = 4
        · subst h4
          go_wp2_with (go_at_call 106; refine (hc _).mono ?_; rintro e w' ⟨rfl, rfl⟩)
          go_round
          case rel => exact ⟨k + 1, by omega, by go_num, hend⟩
          case measure => simp [intOf]; omega
        · obtain ⟨rfl, hk0⟩ := hok.resolve_left h4
          have hk1 : ((k : Int) == 0) = false := by simp; omega
          clear h4
          go_wp2_with (go_at_call 106; refine (hc _).mono ?_; rintro e w' ⟨rfl, rfl⟩)
          go_round
          case rel => exact ⟨k + 1, by omega, by go_num, hend⟩
          case measure => simp [intOf]; omega
      · have hF : Aside0 (nameOk s = false) := ⟨by
          unfold nameOk
          rw [Bool.and_eq_false_iff]
          refine .inr (decide_eq_false fun h => hok ?_)
          rw [← HQ.out]
          exact h k hlt⟩
        have h4 : (q != 4) = true := by simp; omega
        by_cases h3 : q = 3
        · subst h3
          obtain rfl : k = 0 := by omega
          clear hok h4
          go_wp2_with (go_at_call 106; refine (hc _).mono ?_; rintro e w' ⟨rfl, rfl⟩)
          go_ret
          exact ⟨rbool hF.out.symm, rfl⟩
        · have h3' : (q != 3) = true := by simp; omega
          clear hok h3
          go_wp2_with (go_at_call 106; refine (hc _).mono ?_; rintro e w' ⟨rfl, rfl⟩)
          go_ret
          exact ⟨rbool hF.out.symm, rfl⟩
    · go_wp2
      go_ret
      refine ⟨rbool ?_, rfl⟩
      unfold nameOk
      rw [decide_eq_true (p := ∀ (i : Nat) (h : i < s.size), _) (fun i h => AF.out i h (by omega))]
      simp
/-- A nonterminal's name. -/
def plainOk (s : ByteArray) : Bool := decide (s.size ≤ 24) && nameOk s
theorem gram_plain (s : ByteArray) (hs : s.size ≤ 140737488351232) (w : World) : Calls Tryz.prog 43 #[.string s] w fun e w' => e = .returned (.bool (plainOk s)) ∧ Below w.heap.size w w' := by
  have hn := char_Name s hs w
  by_cases h : (s.size : Int) ≤ 24
  · go_enter Tryz.func43, Tryz.ntmps43
    go_wp2_with (go_at_call 76; refine hn.mono ?_; rintro e w1 ⟨rfl, hb1⟩)
    go_ret
    exact ⟨rbool (by simp [plainOk]; omega), hb1⟩
  · clear hn
    go_enter Tryz.func43, Tryz.ntmps43
    go_wp2
    go_ret
    exact ⟨rbool (by simp [plainOk]; omega), Below.refl _ _⟩
theorem ref06_plain (s : ByteArray) (hs : s.size ≤ 140737488351232) (w : World) : Calls Tryz.prog 33 #[.string s] w fun e w' => e = .returned (.bool (plainOk s)) ∧ Below w.heap.size w w' := by
  have hn := ref01_Name s hs w
  rw [show plainOk s = (nameOk s && decide ((s.size : Int) ≤ 24)) by rw [plainOk, Bool.and_comm]; congr 1; simp; omega]
  generalize nameOk s = b at *
  cases b with
  | true =>
    go_enter Tryz.func33, Tryz.ntmps33
    go_wp2_with (go_at_call 68; refine hn.mono ?_; rintro e w1 ⟨rfl, rfl⟩)
    go_ret
    exact ⟨rbool (by simp), Below.refl _ _⟩
  | false =>
    go_enter Tryz.func33, Tryz.ntmps33
    go_wp2_with (go_at_call 68; refine hn.mono ?_; rintro e w1 ⟨rfl, rfl⟩)
    go_ret
    exact ⟨rbool (by simp), Below.refl _ _⟩
end Go.Proofs.YtliofoikejdjeaaGreat
