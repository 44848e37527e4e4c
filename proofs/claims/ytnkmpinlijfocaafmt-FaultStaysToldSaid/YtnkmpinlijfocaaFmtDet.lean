/- A region that draws its order, walked once: every operation, run in the region's LAST frame, hands that frame back, in whatever world the region's invariant allows; conditions: each slot is written once, and what an operation reads is written ahead of it ('detOk', by the kernel). -/
import Derived.Orders
import Derived.KernelRfl
namespace Go.Proofs.YtnkmpinlijfocaaFmt
open Go
set_option linter.unusedVariables false
set_option linter.unusedSimpArgs false
set_option linter.unnecessarySimpa false

def isSel : Op → Bool
  | .select .. => true
  | _ => false
def noDup : List Nat → Bool
  | [] => true
  | x :: xs => !xs.contains x && noDup xs
def detOk (ops : Array Oper) : Bool :=
  noDup (ops.toList.filterMap (·.dst)) &&
  ops.toList.all fun o => !isSel o.op && (o.looksAt ops).all fun t => (List.range ops.size).all fun j =>
    (ops[j]?.bind (·.dst)) != some t || o.after.any fun e => Region.binds .any e && e.on == j

/-- The frame behind all: each operation's value in its slot. -/
def putAll : List Oper → List Value → Act → Act
  | o :: os, v :: vs, a => putAll os vs (a.put o.dst v)
  | _, _, a => a
/-- One operation in the last frame. -/
def Det1 (P : Program) (ops : Array Oper) (c : Act) (Inv : World → Prop) (o : Oper) : Prop :=
  ∀ W, Inv W → if Region.wanted o (yielded ops c.tmps) then o.wp P c W (fun a' W' => a' = c ∧ Inv W') (fun _ _ _ => False) else c.put o.dst undef = c
def DetAll (P : Program) (ops : Array Oper) (c : Act) (Inv : World → Prop) : List Oper → Prop
  | [] => True
  | o :: os => Det1 P ops c Inv o ∧ DetAll P ops c Inv os

theorem detAll_mem {P : Program} {ops : Array Oper} {c : Act} {Inv : World → Prop} {l : List Oper} (h : DetAll P ops c Inv l) : ∀ o, o ∈ l → Det1 P ops c Inv o := by
  induction l with
  | nil => intro o hm; cases hm
  | cons x xs ih =>
    intro o hm
    obtain ⟨h1, h2⟩ := h
    cases hm with
    | head => exact h1
    | tail _ hm => exact ih h2 o hm

theorem putAll_defers : ∀ (l : List Oper) (vs : List Value) (a : Act), (putAll l vs a).defers = a.defers
  | [], _, _ => by simp [putAll]
  | _ :: _, [], _ => by simp [putAll]
  | o :: os, v :: vs, a => by
    rw [putAll, putAll_defers os vs]
    unfold Act.put
    cases o.dst <;> rfl
theorem put_size (a : Act) (d : Option Tmp) (v : Value) : (a.put d v).tmps.size = a.tmps.size := by
  unfold Act.put
  cases d <;> simp
theorem putAll_size : ∀ (l : List Oper) (vs : List Value) (a : Act), (putAll l vs a).tmps.size = a.tmps.size
  | [], _, _ => by simp [putAll]
  | _ :: _, [], _ => by simp [putAll]
  | o :: os, v :: vs, a => by rw [putAll, putAll_size os vs, put_size]
theorem put_other (a : Act) (d : Option Tmp) (v : Value) (t : Nat) (h : d ≠ some t) : (a.put d v).tmps[t]? = a.tmps[t]? := by
  unfold Act.put
  cases d with
  | none => rfl
  | some d => exact Array.getElem?_setIfInBounds_ne (fun e => h (by rw [e]))
theorem putAll_other (t : Nat) : ∀ (l : List Oper) (vs : List Value) (a : Act), (∀ o ∈ l, o.dst ≠ some t) → (putAll l vs a).tmps[t]? = a.tmps[t]?
  | [], _, _, _ => by simp [putAll]
  | _ :: _, [], _, _ => by simp [putAll]
  | o :: os, v :: vs, a, h => by
    rw [putAll, putAll_other t os vs _ fun o' ho => h o' (List.mem_cons_of_mem _ ho), put_other _ _ _ _ (h o (List.mem_cons_self ..))]

theorem noDup_idx : ∀ (l : List Oper), noDup (l.filterMap (·.dst)) = true → ∀ (i j : Nat) (oi oj : Oper) (d : Nat), l[i]? = some oi → l[j]? = some oj → oi.dst = some d → oj.dst = some d → i = j
  | [], _, i, _, _, _, _, h, _, _, _ => by simp at h
  | o :: os, hn, i, j, oi, oj, d, hi, hj, di, dj => by
    have hn' : noDup (os.filterMap (·.dst)) = true := by
      cases h : o.dst with
      | none => simpa [List.filterMap_cons, h] using hn
      | some e => simp [List.filterMap_cons, h, noDup] at hn; exact hn.2
    have hne : ∀ (k : Nat) (o' : Oper), os[k]? = some o' → o.dst = some d → o'.dst ≠ some d := by
      intro k o' hk h h'
      simp [List.filterMap_cons, h, noDup] at hn
      exact hn.1 o' (List.mem_of_getElem? hk) h'
    cases i with
    | zero =>
      cases j with
      | zero => rfl
      | succ j =>
        simp at hi hj
        subst hi
        exact absurd dj (hne j _ hj di)
    | succ i =>
      cases j with
      | zero =>
        simp at hi hj
        subst hj
        exact absurd di (hne i _ hi dj)
      | succ j =>
        simp at hi hj
        rw [noDup_idx os hn' i j oi oj d hi hj di dj]

/-- How the frame stands while the region runs: what is done has its last value, the rest its first. -/
structure Midway (ops : Array Oper) (c a0 a : Act) (listed : Array Bool) : Prop where
  size : a.tmps.size = c.tmps.size
  defers : a.defers = c.defers
  done : ∀ (j : Nat) (o : Oper) t, ops[j]? = some o → o.dst = some t → listed.getD j false = true → a.tmps[t]? = c.tmps[t]?
  rest : ∀ t, (∀ (j : Nat) (o : Oper), ops[j]? = some o → o.dst ≠ some t) → a.tmps[t]? = c.tmps[t]?

section
variable {P : Program} {ops : Array Oper} {Q : Exit → Act → World → Prop}

theorem det_reads (hck : detOk ops = true) {c a0 a : Act} {listed : Array Bool} (hm : Midway ops c a0 a listed) {i : Nat} {o : Oper} (hi : ops[i]? = some o)
    (hr : ∀ e ∈ o.after, Region.binds .any e = true → listed.getD e.on false = true) : ∀ t ∈ o.looksAt ops, a.tmps[t]? = c.tmps[t]? := by
  intro t ht
  by_cases hw : ∃ (j : Nat) (oj : Oper), ops[j]? = some oj ∧ oj.dst = some t
  · obtain ⟨j, oj, hj, hd⟩ := hw
    refine hm.done j oj t hj hd ?_
    have hck2 := (Bool.and_eq_true _ _ ▸ hck).2
    have ho := List.all_eq_true.1 hck2 o (by simpa using Array.mem_of_getElem? hi)
    have ho2 := List.all_eq_true.1 ((Bool.and_eq_true _ _ ▸ ho).2) t ht
    have hjl : j < ops.size := (Array.getElem?_eq_some_iff.1 hj).1
    have ho3 := List.all_eq_true.1 ho2 j (List.mem_range.2 hjl)
    simp only [hj, Option.bind_some, hd, bne_self_eq_false, Bool.false_or] at ho3
    obtain ⟨q, hq, hb⟩ := Array.any_eq_true.1 ho3
    obtain ⟨e, he, hb⟩ : ∃ e, e ∈ o.after ∧ (Region.binds .any e && e.on == j) = true := ⟨o.after[q], Array.getElem_mem hq, hb⟩
    simp only [Bool.and_eq_true, beq_iff_eq] at hb
    rw [← hb.2]
    exact hr e he hb.1
  · exact hm.rest t fun j oj hj hd => hw ⟨j, oj, hj, hd⟩

theorem eval_same {c a : Act} {x : Operand} (h : ∀ t, x = .tmp t → a.tmps[t]? = c.tmps[t]?) : a.eval x = c.eval x := by
  cases x with
  | tmp t => simp [Act.eval, h t rfl]
  | _ => rfl

theorem put_fix {c : Act} {d : Tmp} {v : Value} (h : c.put (some d) v = c) (hlt : d < c.tmps.size) : c.tmps[d]? = some v := by
  have h1 : (c.put (some d) v).tmps[d]? = c.tmps[d]? := by rw [h]
  rw [← h1]
  simp [Act.put, hlt]

theorem midway_put (hnd : noDup (ops.toList.filterMap (·.dst)) = true) {c a0 a : Act} {listed : Array Bool} (hm : Midway ops c a0 a listed) {i : Nat} {o : Oper} (hi : ops[i]? = some o) {v : Value}
    (hv : c.put o.dst v = c) : Midway ops c a0 (a.put o.dst v) (listed.setIfInBounds i true) := by
  refine ⟨by rw [put_size]; exact hm.size, by rw [← hm.defers]; unfold Act.put; cases o.dst <;> rfl, fun j oj t hj hd hl => ?_, fun t ht => ?_⟩
  · by_cases e : j = i
    · subst e
      obtain rfl : oj = o := Option.some.inj (hj.symm.trans hi)
      rw [hd] at hv ⊢
      by_cases hlt : t < c.tmps.size
      · rw [put_fix hv hlt]
        simp [Act.put, hm.size, hlt]
      · have h1 := put_size a (some t) v
        have h2 := hm.size
        rw [Array.getElem?_eq_none (Nat.le_trans (Nat.le_of_eq (h1.trans h2)) (Nat.le_of_not_lt hlt)), Array.getElem?_eq_none (Nat.le_of_not_lt hlt)]
    · have hne : o.dst ≠ some t := fun h => e (noDup_idx ops.toList hnd j i oj o t (by simpa using hj) (by simpa using hi) hd h)
      rw [put_other _ _ _ _ hne]
      refine hm.done j oj t hj hd ?_
      rwa [getD_set_ne false (fun h => e h.symm)] at hl
  · rw [put_other _ _ _ _ (ht i o hi)]
    exact hm.rest t ht

theorem det_wp {c a : Act} {o : Oper} {W : World} {Inv : World → Prop} {K : Act → World → Prop} (he : execOp a.eval o = execOp c.eval o)
    (h : o.wp P c W (fun a' W' => a' = c ∧ Inv W') (fun _ _ _ => False)) (hdf : a.defers = c.defers) (hK : ∀ v W', c.put o.dst v = c → Inv W' → K (a.put o.dst v) W') : o.wp P a W K Q := by
  unfold Oper.wp at *
  rw [he]
  generalize (execOp c.eval o).run P W = r at *
  cases r with
  | ok n w' =>
    cases n with
    | value v => exact hK v w' h.1 h.2
    | skip => exact hK _ w' h.1 h.2
    | defer d =>
      have h1 : ({ c with defers := d :: c.defers }.put o.dst undef).defers = c.defers := by rw [h.1]
      unfold Act.put at h1
      have h2 : (d :: c.defers) = c.defers := by cases hd : o.dst <;> simpa [hd] using h1
      have h3 := congrArg List.length h2
      simp at h3
    | enter f args =>
      refine Calls.mono h fun e w'' he => ?_
      cases e with
      | returned u => exact hK u w'' he.1 he.2
      | panicked c => exact he.elim
      | outgrown => obtain ⟨_, _, hh⟩ := he; exact hh.elim
    | row row args => exact Rows.mono h fun u w'' he => hK u w'' he.1 he.2
    | _ => exact h.elim
  | halt x w' => cases x <;> exact h.elim

theorem det_any (hck : detOk ops = true) {c a0 : Act} {Inv : World → Prop} (hops : ∀ o ∈ ops.toList, Det1 P ops c Inv o) (hQ : ∀ W, Inv W → Q .normal c W) :
    ∀ (fuel : Nat) (listed : Array Bool) (a : Act) (W : World), listed.size = ops.size → (∀ i, i < ops.size → listed.getD i false = true ∨ True) → Midway ops c a0 a listed → Inv W →
      (Region.ready .any ops listed = [] → ∀ j, j < ops.size → listed.getD j false = true) → (fuel + (listed.toList.filter id).length = ops.size) →
      (∀ l : Array Bool, l.size = ops.size → Region.ready .any ops l = [] → ∀ j, j < ops.size → l.getD j false = true) → wpAny P .any ops Q fuel listed a W := by
  have hnd := (Bool.and_eq_true _ _ ▸ hck).1
  have fin : ∀ (listed : Array Bool) (a : Act) (W : World), Midway ops c a0 a listed → Inv W → (∀ j, j < ops.size → listed.getD j false = true) → Q .normal a W := by
    intro listed a W hm hI hall
    have : a = c := by
      have ht : a.tmps = c.tmps := by
        apply Array.ext_getElem?
        intro t
        by_cases hw : ∃ (j : Nat) (oj : Oper), ops[j]? = some oj ∧ oj.dst = some t
        · obtain ⟨j, oj, hj, hd⟩ := hw
          exact hm.done j oj t hj hd (hall j (Array.getElem?_eq_some_iff.1 hj).1)
        · exact hm.rest t fun j oj hj hd => hw ⟨j, oj, hj, hd⟩
      obtain ⟨t1, d1⟩ := a
      obtain ⟨t2, d2⟩ := c
      simp only at ht
      have hd := hm.defers
      simp only at hd
      rw [ht, hd]
    rw [this]
    exact hQ W hI
  intro fuel
  induction fuel with
  | zero =>
    intro listed a W hs _ hm hI hr hf hend
    have hall : ∀ j, j < ops.size → listed.getD j false = true := by
      have hl : (listed.toList.filter id).length = listed.toList.length := by simp at hf ⊢; omega
      have hfl := List.length_filter_eq_length_iff.1 hl
      intro j hj
      have hj' : j < listed.size := by omega
      have := hfl (listed[j]'hj') (by simp)
      simpa [Array.getD, hj'] using this
    refine ⟨?_, fin listed a W hm hI hall⟩
    apply List.eq_nil_iff_forall_not_mem.2
    intro j hj
    obtain ⟨h0, o, ho, _⟩ := mem_ready.1 hj
    have hlt : j < ops.size := (Array.getElem?_eq_some_iff.1 ho).1
    have h1 := hall j hlt
    have hj' : j < listed.size := by omega
    simp [Array.getD, hj'] at h0 h1
    rw [h0] at h1
    cases h1
  | succ fuel ih =>
    intro listed a W hs _ hm hI hr hf hend
    refine ⟨fun h => fin listed a W hm hI (hr h), fun i hi => ?_⟩
    obtain ⟨h0, o, ho, hrd⟩ := mem_ready.1 hi
    have hlt : i < ops.size := (Array.getElem?_eq_some_iff.1 ho).1
    have hsame := det_reads hck hm ho hrd
    have hsel : ∀ cs b, o.op ≠ .select cs b := by
      intro cs b h
      have hck2 := (Bool.and_eq_true _ _ ▸ hck).2
      have hoo := List.all_eq_true.1 hck2 o (by simpa using Array.mem_of_getElem? ho)
      simp [h, isSel] at hoo
    have he : execOp a.eval o = execOp c.eval o := execOp_congr o hsel fun x hx => eval_same fun t ht => hsame t (by
      subst ht
      exact List.mem_append_left _ (List.mem_filterMap.2 ⟨.tmp t, by simpa using hx, rfl⟩))
    have hwn : Region.wanted o (yielded ops a.tmps) = Region.wanted o (yielded ops c.tmps) := by
      unfold Region.wanted
      cases hg : o.guard with
      | none => rfl
      | some gw =>
        obtain ⟨g, want⟩ := gw
        have : yielded ops a.tmps g = yielded ops c.tmps g := by
          unfold yielded
          cases ht : (ops[g]?).bind (·.dst) with
          | none => rfl
          | some t =>
            simp only [Option.bind_some]
            rw [hsame t (by simp [Oper.looksAt, hg, ht])]
        simp only [this]
    have hD := hops o (by simpa using Array.mem_of_getElem? ho) W hI
    have hnext : ∀ v W', c.put o.dst v = c → Inv W' → wpAny P .any ops Q fuel (listed.setIfInBounds i true) (a.put o.dst v) W' := by
      intro v W' hv hI'
      refine ih _ _ _ (by simpa using hs) (fun _ _ => .inr trivial) (midway_put hnd hm ho hv) hI' (hend _ (by simpa using hs)) ?_ hend
      have hi' : i < listed.size := by omega
      have hfalse : listed[i] = false := by simpa [Array.getD, hi'] using h0
      have : ((listed.setIfInBounds i true).toList.filter id).length = (listed.toList.filter id).length + 1 := by
        rw [Array.toList_setIfInBounds]
        have key : ∀ (l : List Bool) (k : Nat) (hk : k < l.length), l[k] = false → ((l.set k true).filter id).length = (l.filter id).length + 1 := by
          intro l
          induction l with
          | nil => intro k hk; simp at hk
          | cons b l ihl =>
            intro k hk hb
            cases k with
            | zero => simp at hb; subst hb; simp
            | succ k =>
              simp at hb hk
              have := ihl k hk hb
              cases b <;> simp [this]
        exact key listed.toList i (by simpa using hi') (by simpa using hfalse)
      omega
    unfold wpOp
    simp only [ho]
    rw [hwn]
    split
    · rename_i hw
      rw [if_pos hw] at hD
      exact .inl (det_wp he hD hm.defers hnext)
    · rename_i hw
      rw [if_neg hw] at hD
      exact hnext _ _ hD hI

/-- Whatever is not done, something of it can be done: the edges lead back. -/
def backOk (ops : Array Oper) : Bool :=
  (List.range ops.size).all fun i => ((ops[i]?).map fun o => o.after.all fun e => !Region.binds .any e || decide (e.on < i)).getD true
theorem back_ready (hb : backOk ops = true) (l : Array Bool) (hs : l.size = ops.size) (hr : Region.ready .any ops l = []) : ∀ j, j < ops.size → l.getD j false = true := by
  intro j
  induction j using Nat.strongRecOn with
  | _ j ih =>
    intro hj
    have hj' : j < l.size := by omega
    cases hd : l.getD j false with
    | true => rfl
    | false =>
      exfalso
      have ho : ops[j]? = some ops[j] := Array.getElem?_eq_getElem hj
      have hbj := List.all_eq_true.1 hb j (List.mem_range.2 hj)
      simp only [ho, Option.map_some, Option.getD_some] at hbj
      have : j ∈ Region.ready .any ops l := mem_ready.2 ⟨by simpa [Array.getD, hj'] using hd, ops[j], ho, fun e he hbn => by
        have h1 := Array.all_eq_true_iff_forall_mem.1 hbj e he
        simp [hbn] at h1
        exact ih e.on h1 (by omega)⟩
      rw [hr] at this
      cases this

theorem wp_region_det {id : Nat} {l : List Oper} {a0 c : Act} {w : World} (vs : List Value) (Inv : World → Prop) (hm : P.follows .mixedOrders = true) (hck : (detOk l.toArray && backOk l.toArray) = true)
    (hc : putAll l vs a0 = c) (hI : Inv { w with drawn := w.drawn + 1 }) (hops : DetAll P l.toArray c Inv l) (hQ : ∀ W, Inv W → Q .normal c W) : (Code.region id l.toArray true).wp P Q a0 w := by
  simp only [Bool.and_eq_true] at hck
  refine wp_region_any hm ?_
  refine det_any (a0 := a0) hck.1 (by simpa using detAll_mem hops) hQ _ _ _ _ (by simp) (fun _ _ => .inr trivial) ?_ hI (back_ready hck.2 _ (by simp)) (by simp) (back_ready hck.2)
  refine ⟨by rw [← hc, putAll_size], by rw [← hc, putAll_defers], fun j o t hj hd hl => ?_, fun t ht => ?_⟩
  · simp only [Array.getD_eq_getD_getElem?, Array.getElem?_replicate] at hl
    split at hl <;> simp at hl
  · rw [← hc, putAll_other t l vs a0 fun o ho => ?_]
    obtain ⟨j, hj⟩ := List.mem_iff_getElem?.1 ho
    exact ht j o (by simpa using hj)
end
end Go.Proofs.YtnkmpinlijfocaaFmt
