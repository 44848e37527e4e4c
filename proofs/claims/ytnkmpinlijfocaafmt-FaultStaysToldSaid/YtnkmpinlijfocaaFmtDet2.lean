/- A region that draws its order and ends in one assignment that waits for all else: XDet's law, the assignment apart: it may write a slot that the others read. -/
import Derived.Test.YtnkmpinlijfocaaFmtDet
namespace Go.Proofs.YtnkmpinlijfocaaFmt
open Go
set_option linter.unusedVariables false
set_option linter.unusedSimpArgs false
set_option linter.unnecessarySimpa false
def detOk2 (ops : Array Oper) : Bool :=
  noDup (ops.toList.dropLast.filterMap (·.dst)) &&
  ops.toList.dropLast.all (fun o => !isSel o.op && (o.looksAt ops).all fun t => (List.range (ops.size - 1)).all fun j =>
    (ops[j]?.bind (·.dst)) != some t || o.after.any fun e => Region.binds .any e && e.on == j) &&
  ((ops[ops.size - 1]?).map fun o => (List.range (ops.size - 1)).all fun j => o.after.any fun e => Region.binds .any e && e.on == j).getD false
structure Midway2 (ops : Array Oper) (c a : Act) (listed : Array Bool) : Prop where
  size : a.tmps.size = c.tmps.size
  defers : a.defers = c.defers
  done : ∀ (j : Nat) (o : Oper) t, j < ops.size - 1 → ops[j]? = some o → o.dst = some t → listed.getD j false = true → a.tmps[t]? = c.tmps[t]?
  rest : ∀ t, (∀ (j : Nat) (o : Oper), j < ops.size - 1 → ops[j]? = some o → o.dst ≠ some t) → a.tmps[t]? = c.tmps[t]?
section
variable {P : Program} {ops : Array Oper} {Q : Exit → Act → World → Prop}
theorem drop_get {i : Nat} {o : Oper} (hn : i < ops.size - 1) (hi : ops[i]? = some o) : ops.toList.dropLast[i]? = some o := by
  rw [List.getElem?_dropLast, if_pos (by simpa using hn)]
  simpa using hi
theorem det_reads2 (hck : detOk2 ops = true) {c a : Act} {listed : Array Bool} (hm : Midway2 ops c a listed) {i : Nat} {o : Oper} (hn : i < ops.size - 1) (hi : ops[i]? = some o)
    (hr : ∀ e ∈ o.after, Region.binds .any e = true → listed.getD e.on false = true) : ∀ t ∈ o.looksAt ops, a.tmps[t]? = c.tmps[t]? := by
  intro t ht
  by_cases hw : ∃ (j : Nat) (oj : Oper), j < ops.size - 1 ∧ ops[j]? = some oj ∧ oj.dst = some t
  · obtain ⟨j, oj, hjn, hj, hd⟩ := hw
    refine hm.done j oj t hjn hj hd ?_
    unfold detOk2 at hck
    simp only [Bool.and_eq_true] at hck
    have ho := List.all_eq_true.1 hck.1.2 o (List.mem_of_getElem? (drop_get hn hi))
    have ho2 := List.all_eq_true.1 ((Bool.and_eq_true _ _ ▸ ho).2) t ht
    have ho3 := List.all_eq_true.1 ho2 j (List.mem_range.2 hjn)
    simp only [hj, Option.bind_some, hd, bne_self_eq_false, Bool.false_or] at ho3
    obtain ⟨q, hq, hb⟩ := Array.any_eq_true.1 ho3
    obtain ⟨e, he, hb⟩ : ∃ e, e ∈ o.after ∧ (Region.binds .any e && e.on == j) = true := ⟨o.after[q], Array.getElem_mem hq, hb⟩
    simp only [Bool.and_eq_true, beq_iff_eq] at hb
    rw [← hb.2]
    exact hr e he hb.1
  · exact hm.rest t fun j oj hjn hj hd => hw ⟨j, oj, hjn, hj, hd⟩
theorem midway_put2 (hnd : noDup (ops.toList.dropLast.filterMap (·.dst)) = true) {c a : Act} {listed : Array Bool} (hm : Midway2 ops c a listed) {i : Nat} {o : Oper} (hn : i < ops.size - 1) (hi : ops[i]? = some o) {v : Value}
    (hv : c.put o.dst v = c) : Midway2 ops c (a.put o.dst v) (listed.setIfInBounds i true) := by
  refine ⟨by rw [put_size]; exact hm.size, by rw [← hm.defers]; unfold Act.put; cases o.dst <;> rfl, fun j oj t hjn hj hd hl => ?_, fun t ht => ?_⟩
  · by_cases e : j = i
    · subst e
      obtain rfl : oj = o := Option.some.inj (hj.symm.trans hi)
      rw [hd] at hv ⊢
      by_cases hlt : t < c.tmps.size
      · rw [put_fix hv hlt]
        simp [Act.put, hm.size, hlt]
      · have h1 := put_size a (some t) v
        have h2 := hm.size
        rw [Array.getElem?_eq_none (Nat.le_trans (Nat.le_of_eq (h1.trans h2)) (Nat.le_of_not_lt hlt)), Array.getElem?_eq_none (Nat.le_of_not_lt hlt)]
    · have hne : o.dst ≠ some t := fun h => e (noDup_idx ops.toList.dropLast hnd j i oj o t (drop_get hjn hj) (drop_get hn hi) hd h)
      rw [put_other _ _ _ _ hne]
      refine hm.done j oj t hjn hj hd ?_
      rwa [getD_set_ne false (fun h => e h.symm)] at hl
  · rw [put_other _ _ _ _ (ht i o hn hi)]
    exact hm.rest t ht
theorem det_any2 (hck : detOk2 ops = true) {d c : Act} {Inv : World → Prop} {ol : Oper} {x : Operand} (h0 : 0 < ops.size) (hol : ops[ops.size - 1]? = some ol) (hx : ol.op = .assign x) (hg : ol.guard = none) (hc : d.put ol.dst (d.eval x) = c)
    (hops : ∀ o ∈ ops.toList.dropLast, Det1 P ops d Inv o) (hQ : ∀ W, Inv W → Q .normal c W) (hw : ∀ tm, Region.wanted ol (yielded ops tm) = true)
    (hend : ∀ l : Array Bool, l.size = ops.size → Region.ready .any ops l = [] → ∀ j, j < ops.size → l.getD j false = true) :
    ∀ (fuel : Nat) (listed : Array Bool) (a : Act) (W : World), listed.size = ops.size → listed.getD (ops.size - 1) false = false → Midway2 ops d a listed → Inv W →
      (fuel + (listed.toList.filter id).length = ops.size) → wpAny P .any ops Q fuel listed a W := by
  have hck0 := hck
  unfold detOk2 at hck0
  simp only [Bool.and_eq_true] at hck0
  obtain ⟨⟨hnd, hlooks⟩, hwait⟩ := hck0
  rw [hol] at hwait
  simp only [Option.map_some, Option.getD_some] at hwait
  have fin : ∀ (listed : Array Bool) (a : Act), Midway2 ops d a listed → (∀ j, j < ops.size - 1 → listed.getD j false = true) → a = d := by
    intro listed a hm hall
    have ht : a.tmps = d.tmps := by
      apply Array.ext_getElem?
      intro t
      by_cases hw : ∃ (j : Nat) (oj : Oper), j < ops.size - 1 ∧ ops[j]? = some oj ∧ oj.dst = some t
      · obtain ⟨j, oj, hjn, hj, hd⟩ := hw
        exact hm.done j oj t hjn hj hd (hall j hjn)
      · exact hm.rest t fun j oj hjn hj hd => hw ⟨j, oj, hjn, hj, hd⟩
    obtain ⟨t1, d1⟩ := a
    obtain ⟨t2, d2⟩ := d
    simp only at ht
    have hd := hm.defers
    simp only at hd
    rw [ht, hd]
  have key : ∀ (l : List Bool) (k : Nat) (hk : k < l.length), l[k] = false → ((l.set k true).filter id).length = (l.filter id).length + 1 := by
    intro l
    induction l with
    | nil => intro k hk; simp at hk
    | cons b l ihl =>
      intro k hk hb
      cases k with
      | zero => simp at hb; subst hb; simp
      | succ k =>
        simp at hb hk
        have := ihl k hk hb
        cases b <;> simp [this]
  intro fuel
  induction fuel with
  | zero =>
    intro listed a W hs hl hm hI hf
    exfalso
    have h1 : (listed.toList.filter id).length = listed.toList.length := by simp at hf ⊢; omega
    have hfl := List.length_filter_eq_length_iff.1 h1
    have hj' : ops.size - 1 < listed.size := by omega
    have := hfl (listed[ops.size - 1]'hj') (by simp)
    simp [Array.getD, hj'] at hl this
    rw [hl] at this
    cases this
  | succ fuel ih =>
    intro listed a W hs hl hm hI hf
    refine ⟨fun h => ?_, fun i hi => ?_⟩
    · have := hend listed hs h (ops.size - 1) (by omega)
      rw [hl] at this
      cases this
    obtain ⟨h00, o, ho, hrd⟩ := mem_ready.1 hi
    have hlt : i < ops.size := (Array.getElem?_eq_some_iff.1 ho).1
    have hi' : i < listed.size := by omega
    have hfalse : listed[i] = false := by simpa [Array.getD, hi'] using h00
    have hcount : ((listed.setIfInBounds i true).toList.filter id).length = (listed.toList.filter id).length + 1 := by
      rw [Array.toList_setIfInBounds]
      exact key listed.toList i (by simpa using hi') (by simpa using hfalse)
    by_cases hin : i = ops.size - 1
    · subst hin
      obtain rfl : o = ol := Option.some.inj (ho.symm.trans hol)
      have hall : ∀ j, j < ops.size - 1 → listed.getD j false = true := by
        intro j hj
        have h3 := List.all_eq_true.1 hwait j (List.mem_range.2 hj)
        obtain ⟨q, hq, hb⟩ := Array.any_eq_true.1 h3
        simp only [Bool.and_eq_true, beq_iff_eq] at hb
        rw [← hb.2]
        exact hrd _ (Array.getElem_mem hq) hb.1
      obtain rfl := fin listed a hm hall
      unfold wpOp
      simp only [ho]
      rw [hw, if_pos rfl]
      refine .inl ?_
      unfold Oper.wp
      rw [show execOp a.eval o = pure (.value (a.eval x)) from by unfold execOp; rw [hx]]
      show wpAny P .any ops Q fuel (listed.setIfInBounds (ops.size - 1) true) (a.put o.dst (a.eval x)) W
      rw [hc]
      have hdone : ∀ j, j < ops.size → (listed.setIfInBounds (ops.size - 1) true).getD j false = true := by
        intro j hj
        by_cases e : j = ops.size - 1
        · subst e
          simp [Array.getD, hs, hj]
        · rw [getD_set_ne false (fun h => e h.symm)]
          exact hall j (by omega)
      have hno : Region.ready .any ops (listed.setIfInBounds (ops.size - 1) true) = [] := by
        apply List.eq_nil_iff_forall_not_mem.2
        intro j hj
        obtain ⟨q0, oj, hoj, _⟩ := mem_ready.1 hj
        have hjl : j < ops.size := (Array.getElem?_eq_some_iff.1 hoj).1
        have h1 := hdone j hjl
        have hj' : j < (listed.setIfInBounds (ops.size - 1) true).size := by simp; omega
        simp only [Array.getD, hj', dite_true] at q0 h1
        rw [h1] at q0
        simp at q0
      cases fuel with
      | zero => exact ⟨hno, hQ W hI⟩
      | succ fuel => exact ⟨fun _ => hQ W hI, fun k hk => by rw [hno] at hk; cases hk⟩
    · have hn : i < ops.size - 1 := by omega
      have hsame := det_reads2 hck hm hn ho hrd
      have hmem : o ∈ ops.toList.dropLast := List.mem_of_getElem? (drop_get hn ho)
      have hsel : ∀ cs b, o.op ≠ .select cs b := by
        intro cs b h
        have hoo := List.all_eq_true.1 hlooks o hmem
        simp [h, isSel] at hoo
      have he : execOp a.eval o = execOp d.eval o := execOp_congr o hsel fun y hy => eval_same fun t ht => hsame t (by
        subst ht
        exact List.mem_append_left _ (List.mem_filterMap.2 ⟨.tmp t, by simpa using hy, rfl⟩))
      have hwn : Region.wanted o (yielded ops a.tmps) = Region.wanted o (yielded ops d.tmps) := by
        unfold Region.wanted
        cases hgg : o.guard with
        | none => rfl
        | some gw =>
          obtain ⟨g, want⟩ := gw
          have : yielded ops a.tmps g = yielded ops d.tmps g := by
            unfold yielded
            cases ht : (ops[g]?).bind (·.dst) with
            | none => rfl
            | some t =>
              simp only [Option.bind_some]
              rw [hsame t (by simp [Oper.looksAt, hgg, ht])]
          simp only [this]
      have hD := hops o hmem W hI
      have hnext : ∀ v W', d.put o.dst v = d → Inv W' → wpAny P .any ops Q fuel (listed.setIfInBounds i true) (a.put o.dst v) W' := by
        intro v W' hv hI'
        refine ih _ _ _ (by simpa using hs) ?_ (midway_put2 hnd hm hn ho hv) hI' (by omega)
        rw [getD_set_ne false (fun h => hin h)]
        exact hl
      unfold wpOp
      simp only [ho]
      rw [hwn]
      split
      · rename_i hw
        rw [if_pos hw] at hD
        exact .inl (det_wp he hD hm.defers hnext)
      · rename_i hw
        rw [if_neg hw] at hD
        exact hnext _ _ hD hI
theorem wp_region_det2 {id : Nat} {l : List Oper} {a0 d c : Act} {w : World} {ol : Oper} {x : Operand} (vs : List Value) (Inv : World → Prop) (hm : P.follows .mixedOrders = true) (hck : (detOk2 l.toArray && backOk l.toArray) = true)
    (hol : l.getLast? = some ol) (hx : ol.op = .assign x) (hg : ol.guard = none) (hd : putAll l.dropLast vs a0 = d) (hc : d.put ol.dst (d.eval x) = c)
    (hI : Inv { w with drawn := w.drawn + 1 }) (hops : DetAll P l.toArray d Inv l.dropLast) (hQ : ∀ W, Inv W → Q .normal c W) : (Code.region id l.toArray true).wp P Q a0 w := by
  simp only [Bool.and_eq_true] at hck
  refine wp_region_any hm ?_
  have hne : l ≠ [] := by intro e; rw [e] at hol; simp at hol
  have hlen : 0 < l.length := List.length_pos_iff.2 hne
  refine det_any2 (d := d) (c := c) hck.1 (by simpa using hlen) (by rw [List.getLast?_eq_getElem?] at hol; simpa using hol) hx hg hc (by simpa using detAll_mem hops) hQ (fun tm => by simp [Region.wanted, hg]) (back_ready hck.2) _ _ _ _ (by simp) ?_ ?_ hI (by simp)
  · simp only [Array.getD_eq_getD_getElem?, Array.getElem?_replicate]
    split <;> rfl
  · refine ⟨by rw [← hd, putAll_size], by rw [← hd, putAll_defers], fun j o t hjn hj hdd hl => ?_, fun t ht => ?_⟩
    · simp only [Array.getD_eq_getD_getElem?, Array.getElem?_replicate] at hl
      split at hl <;> simp at hl
    · rw [← hd, putAll_other t l.dropLast vs a0 fun o ho => ?_]
      obtain ⟨j, hj⟩ := List.mem_iff_getElem?.1 ho
      rw [List.getElem?_dropLast] at hj
      split at hj
      · rename_i hjn
        exact ht j o (by simpa using hjn) (by simpa using hj)
      · cases hj
end
end Go.Proofs.YtnkmpinlijfocaaFmt
