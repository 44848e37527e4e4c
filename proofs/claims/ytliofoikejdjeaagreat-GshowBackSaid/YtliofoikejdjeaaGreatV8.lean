/- Texts laid one behind the other: Q6, B1, B2. -/
import Derived.Test.YtliofoikejdjeaaGreatV7
import Derived.Test.YtliofoikejdjeaaGreatWTab
/- A shown grammar's form, built: the grammar (plain), the end: what is shown is read as it was. -/
namespace Go.Proofs.YtliofoikejdjeaaGreat
open Go.RowKit Go.Proofs.YtliofoikejdjeaaGreatW.PrintWords
set_option linter.unusedVariables false
set_option linter.unusedSimpArgs false
section
variable {g : Gm} {x : Hd} {rs : List Ru}
theorem flat_mem {rs : List Ru} {y : ByteArray × List (Int × ByteArray)} (h : y ∈ flatR rs) : ∃ r ∈ rs, r.left.s = y.1 := by
  unfold flatR at h
  obtain ⟨r, hr, hy⟩ := List.mem_flatMap.1 h
  obtain ⟨s, _, e⟩ := List.mem_map.1 hy
  exact ⟨r, hr, by rw [← e]⟩
/-- A nonterminal has a rule. -/
theorem lefts_pos (hf : g.Fine) (h : Formed g x rs) {i : Nat} (hi : i < g.nons.length) : leftsN rs (g.nameOf ((g.terms.length : Int) + 1 + (i : Int))) ≠ 0 := by
  obtain ⟨k, hk, e⟩ := hf.has i hi
  have hm : rowG g k ∈ flatR rs := by
    rw [h.flat]
    exact List.mem_map.2 ⟨k, List.mem_range.2 hk, rfl⟩
  obtain ⟨r, hr, hrl⟩ := flat_mem hm
  have hl : r.left.s = g.nameOf ((g.terms.length : Int) + 1 + (i : Int)) := by rw [hrl, ← e]; rfl
  unfold leftsN
  intro h0
  have := List.countP_eq_zero.1 h0 r hr
  exact this (decide_eq_true hl)
theorem sig_s (l : List Tk) : (l.map sig).map (·.2) = l.map (·.s) := by rw [List.map_map]; rfl
theorem ks_s (l : List ByteArray) : (l.map ks).map (·.2) = l := by rw [List.map_map]; exact List.map_id' l
/-- The tokens of a right side. -/
theorem side_syms (hf : g.Fine) (h : Formed g x rs) {k : Nat} (hk : k < g.rules.length) {s : Sd} (hs : sdS s = (g.rns k).map ks) : s.l.map (·.s) = g.rns k ∧ s.l.length ≤ 8 ∧ ∀ t ∈ s.l, SymOk g rs t := by
  have h1 : s.l.map (·.s) = g.rns k := by
    rw [← sig_s]
    show (sdS s).map (·.2) = _
    rw [hs, ks_s]
  refine ⟨h1, ?_, fun t ht => ?_⟩
  · have h2 := congrArg List.length h1
    unfold Gm.rns at h2
    rw [List.length_map, List.length_map] at h2
    rw [h2]
    exact hf.short k hk
  · have hm : sig t ∈ (g.rns k).map ks := by
      rw [← hs]
      exact List.mem_map_of_mem ht
    obtain ⟨y, hy, e⟩ := List.mem_map.1 hm
    unfold Gm.rns at hy
    obtain ⟨v, hv, rfl⟩ := List.mem_map.1 hy
    have hv2 := hf.right k hk v hv
    have et : t.s = g.nameOf v := by have := congrArg Prod.snd e; exact this.symm
    have ek : t.k = kindS (g.nameOf v) := by have := congrArg Prod.fst e; exact this.symm
    by_cases hle : v ≤ g.terms.length
    · exact ⟨.inl (by rw [et]; exact (hf.memT hv2).2 hle)⟩
    · obtain ⟨i, hi, rfl⟩ : ∃ i : Nat, i < g.nons.length ∧ v = (g.terms.length : Int) + 1 + (i : Int) := by
        have := hv2.2
        unfold Gm.top at this
        exact ⟨(v - g.terms.length - 1).toNat, by omega, by omega⟩
      refine ⟨.inr ⟨?_, ?_⟩⟩
      · rw [ek, plain_kind (hf.nons _ (by rw [non_at i hi]; exact getD_mem hi))]
        decide
      · rw [et]
        exact lefts_pos hf h hi
theorem sideQ_ok (hf : g.Fine) (h : Formed g x rs) {k : Nat} (hk : k < g.rules.length) {s : Sd} (hs : sdS s = (g.rns k).map ks) (ns : List ByteArray) :
    sideB rs (g.nameOf (g.leftOf k)) s ⟨g.terms, ns, rowsN g k⟩ = .ok ⟨g.terms, ns, rowsN g (k + 1)⟩ := by
  obtain ⟨h1, h2, h3⟩ := side_syms hf h hk hs
  have hlen : (rowsN g k).length = k := by unfold rowsN; rw [List.length_map, List.length_range]
  have hr := hf.r
  unfold sideB
  rw [if_neg (by show ¬ 300 ≤ (rowsN g k).length; omega)]
  show (match symbolsB rs s.l 0 g.terms with | .error e => _ | .ok ts => _) = _
  rw [symbols_ok s.l 0 (by omega) h3]
  dsimp only
  rw [h1]
  have hany : (rowsN g k).any (fun y => decide (g.nameOf (g.leftOf k) :: g.rns k = y)) = false := by
    rw [List.any_eq_false]
    intro y hy
    unfold rowsN at hy
    obtain ⟨j, hj, rfl⟩ := List.mem_map.1 hy
    have := row_ne hf hk (List.mem_range.1 hj)
    unfold rowN at this ⊢
    simpa using this
  rw [hany, if_neg (by decide), rowsN_succ]
  rfl
theorem sidesQ_ok (hf : g.Fine) (h : Formed g x rs) (left : ByteArray) (ns : List ByteArray) : ∀ (sd : List Sd) (k : Nat), k + sd.length ≤ g.rules.length →
    sd.map (fun s => (left, sdS s)) = (List.range sd.length).map (fun i => rowG g (k + i)) → sidesB rs left sd ⟨g.terms, ns, rowsN g k⟩ = .ok ⟨g.terms, ns, rowsN g (k + sd.length)⟩
  | [], k, _, _ => rfl
  | s :: sd, k, hk, e => by
    simp only [List.length_cons] at hk e ⊢
    rw [List.map_cons, List.range_succ_eq_map, List.map_cons, List.map_map] at e
    injection e with e1 e2
    have e3 : left = g.nameOf (g.leftOf k) := by have := congrArg Prod.fst e1; exact this
    have e4 : sdS s = (g.rns k).map ks := by have := congrArg Prod.snd e1; exact this
    rw [sidesB, e3, sideQ_ok hf h (by omega) e4 ns]
    dsimp only
    rw [← e3, sidesQ_ok hf h left ns sd (k + 1) (by omega) (by
      rw [e2]
      apply List.map_congr_left
      intro i _
      show rowG g (k + (i + 1)) = rowG g (k + 1 + i)
      rw [show k + (i + 1) = k + 1 + i from by omega])]
    rw [show k + 1 + sd.length = k + (sd.length + 1) from by omega]
theorem Cn.more {k c i : Nat} (hi : i < c) : ∀ (j : Nat), Cn g k c → (∀ q, q < j → g.leftOf (k + q) = (g.terms.length : Int) + 1 + (i : Int)) → Cn g (k + j) c
  | 0, h, _ => h
  | j + 1, h, hl => by
    have := Cn.more hi j h (fun q hq => hl q (by omega))
    exact Cn.old this (hl j (by omega)) hi
theorem take_snocB {xs : List ByteArray} {c : Nat} (h : c < xs.length) : xs.take c ++ [xs.getD c default] = xs.take (c + 1) := by
  rw [List.take_add_one, List.getD_eq_getElem?_getD, List.getElem?_eq_getElem h]
  rfl
theorem rulesQ_ok (hf : g.Fine) (ho : g.ordered = true) (h : Formed g x rs) : ∀ (l : List Ru) (k m c : Nat), (∀ r ∈ l, r.sides ≠ []) → k + m = g.rules.length → flatR l = (List.range m).map (fun i => rowG g (k + i)) → Cn g k c →
    ∃ c', Cn g g.rules.length c' ∧ rulesB rs g.terms.length l ⟨g.terms, g.nons.take c, rowsN g k⟩ = .ok ⟨g.terms, g.nons.take c', rowsN g g.rules.length⟩
  | [], k, m, c, _, hk, e, hc => by
    have : m = 0 := by
      have := congrArg List.length e
      simpa [flatR] using this.symm
    subst this
    rw [Nat.add_zero] at hk
    subst hk
    exact ⟨c, hc, rfl⟩
  | r :: l, k, m, c, hfull, hk, e, hc => by
    have hsp : flatR (r :: l) = r.sides.map (fun s => (r.left.s, sdS s)) ++ flatR l := by unfold flatR; rw [List.flatMap_cons]
    rw [hsp] at e
    have hlen : r.sides.length + (flatR l).length = m := by
      have := congrArg List.length e
      simpa using this
    obtain ⟨q, hq⟩ : ∃ q, r.sides.length = q + 1 := by
      have := hfull r (List.mem_cons_self ..)
      cases hs : r.sides with
      | nil => exact absurd hs this
      | cons a b => exact ⟨b.length, rfl⟩
    rw [← range_split m r.sides.length k g (by omega)] at e
    obtain ⟨e1, e2⟩ := List.append_inj e (by simp)
    have hrow : ∀ i, i < r.sides.length → r.left.s = g.nameOf (g.leftOf (k + i)) := by
      intro i hi
      have h1 : (r.sides.map (fun s => (r.left.s, sdS s)))[i]? = ((List.range r.sides.length).map (fun i => rowG g (k + i)))[i]? := by rw [e1]
      rw [List.getElem?_map, List.getElem?_map, List.getElem?_eq_getElem hi, List.getElem?_range hi] at h1
      simp only [Option.map_some, Option.some.injEq] at h1
      exact congrArg Prod.fst h1
    have hk0 : k < g.rules.length := by omega
    obtain ⟨i, hi, hl⟩ := left_nat hf hk0
    have hleft : ∀ p, p < r.sides.length → g.leftOf (k + p) = (g.terms.length : Int) + 1 + (i : Int) := by
      intro p hp
      have h1 := hrow p hp
      have h2 := hrow 0 (by omega)
      rw [Nat.add_zero] at h2
      rw [← hl]
      exact hf.inj (left_sym hf (by omega)) (left_sym hf hk0) (h1.symm.trans h2)
    have hname : r.left.s = g.nameOf ((g.terms.length : Int) + 1 + (i : Int)) := by
      have := hrow 0 (by omega)
      rw [Nat.add_zero, hl] at this
      exact this
    have hnt : r.left.s ∉ g.terms := by
      rw [hname, hf.memT (by unfold Gm.top; omega)]
      omega
    have go : ∃ c', Cn g (k + r.sides.length) c' ∧ leftB r.left g.terms.length g.terms (g.nons.take c) = .ok (g.nons.take c') := by
      unfold leftB
      rw [if_neg (fun hx => hnt ((place_mem _ _).1 hx.1))]
      by_cases hic : i < c
      · refine ⟨c, Cn.more hic _ hc hleft, ?_⟩
        rw [if_pos ((place_mem _ _).2 (by rw [hname]; exact (hf.memN hi hc.1).2 hic))]
      · obtain ⟨rfl, hc2⟩ := Cn.new hf ho hc hk0 hl hi hic
        refine ⟨i + 1, ?_, ?_⟩
        · have := Cn.more (Nat.lt_succ_self i) q hc2 (fun p hp => by
            have := hleft (p + 1) (by omega)
            rw [show k + (p + 1) = k + 1 + p from by omega] at this
            exact this)
          rw [show k + 1 + q = k + r.sides.length from by omega] at this
          exact this
        · have hno : r.left.s ∉ g.nons.take i := by
            rw [hname, hf.memN hi hc.1]
            exact Nat.lt_irrefl _
          have hn := hf.n
          rw [if_neg (by rw [place_out hno]; decide), if_neg (by rw [List.length_take]; omega), hname, non_at i hi, take_snocB hi]
    obtain ⟨c', hc', hlb⟩ := go
    obtain ⟨c2, hc2, hfin⟩ := rulesQ_ok hf ho h l (k + r.sides.length) (m - r.sides.length) c' (fun r' hr' => hfull r' (List.mem_cons_of_mem _ hr')) (by omega) e2 hc'
    refine ⟨c2, hc2, ?_⟩
    rw [rulesB]
    show (match leftB r.left g.terms.length g.terms (g.nons.take c) with | .error e => _ | .ok ns => _) = _
    rw [hlb]
    dsimp only
    rw [sidesQ_ok hf h r.left.s (g.nons.take c') r.sides k (by omega) e1]
    exact hfin
/-! the heads -/
theorem declareQ_ok (hst : startB rs x = .ok ()) : ∀ (l : List Tk) (p : Bool) (ts : List ByteArray), (ts ++ l.map (·.s)).Nodup → (ts ++ l.map (·.s)).length ≤ 120 → declareB rs x l p ts = .ok (ts ++ l.map (·.s))
  | [], p, ts, _, _ => by
    rw [declareB, List.map_nil, List.append_nil]
    cases p with
    | true => rw [if_pos rfl, hst]
    | false => rw [if_neg (by decide)]
  | t :: l, p, ts, hn, hl => by
    have e : ts ++ (t :: l).map (·.s) = (ts ++ [t.s]) ++ l.map (·.s) := by simp
    rw [e] at hn hl ⊢
    have hno : t.s ∉ ts := by
      have h1 := (List.nodup_append.1 hn).1
      have h2 := (List.nodup_append.1 h1).2.2
      intro hm
      exact h2 _ hm _ (List.mem_singleton.2 rfl) rfl
    have hlt : ¬ 120 ≤ ts.length := by
      simp only [List.length_append, List.length_cons, List.length_nil] at hl
      omega
    rw [declareB]
    have hs : (if (p && decide (x.marks.headD 0 < t.at_)) = true then startB rs x else .ok ()) = .ok () := by
      split
      · exact hst
      · rfl
    simp only [hs]
    rw [if_neg (by rw [place_out hno]; decide)]
    unfold termB
    rw [if_neg hlt]
    exact declareQ_ok hst l _ (ts ++ [t.s]) hn hl
theorem buildQ_ok (hf : g.Fine) (ho : g.ordered = true) (h : Formed g x rs) : buildB x rs = .ok g := by
  obtain ⟨i, hi, hs⟩ : ∃ i : Nat, i < g.nons.length ∧ g.start = (g.terms.length : Int) + 1 + (i : Int) := by
    have := hf.start
    unfold Gm.top at this
    exact ⟨(g.start - g.terms.length - 1).toNat, by omega, by omega⟩
  obtain ⟨st, hst⟩ : ∃ st, x.starts = [st] := by
    have := congrArg List.length h.sta
    simp only [List.length_map, List.length_cons, List.length_nil] at this
    cases e : x.starts with
    | nil => rw [e] at this; cases this
    | cons a b =>
      rw [e] at this
      simp only [List.length_cons] at this
      exact ⟨a, by rw [List.eq_nil_of_length_eq_zero (by omega : b.length = 0)]⟩
  have hsn : st.s = g.nameOf g.start := by
    have := h.sta
    rw [hst] at this
    injection this
  have hstart : startB rs x = .ok () := by
    unfold startB
    rw [hst]
    show (if leftsN rs st.s = 0 then _ else _) = _
    rw [hsn, hs, if_neg (lefts_pos hf h hi)]
  have hdec : x.declared.map (·.s) = g.terms := by
    rw [← sig_s, h.dec, ks_s]
  have hheads : headsB rs x = .ok g.terms := by
    unfold headsB
    rw [declareQ_ok hstart x.declared _ [] (by rw [List.nil_append, hdec]; exact hf.termsNd) (by rw [List.nil_append, hdec]; exact hf.t), List.nil_append, hdec]
    dsimp only
    have : secondB x = 8193 := by unfold secondB; rw [h.marks, if_pos (by decide)]
    rw [this, if_neg (by decide)]
  unfold buildB
  rw [hheads]
  dsimp only
  obtain ⟨c, hc, hr⟩ := rulesQ_ok hf ho h rs 0 g.rules.length 0 h.full (by omega) (by
    rw [h.flat]
    apply List.map_congr_left
    intro k _
    rw [Nat.zero_add]) Cn.zero
  have hcn := Cn.full hf hc
  subst hcn
  have hr0 : rulesB rs g.terms.length rs ⟨g.terms, [], []⟩ = .ok ⟨g.terms, g.nons, rowsN g g.rules.length⟩ := by
    have := hr
    rw [List.take_length, List.take_zero] at this
    exact this
  rw [hr0]
  dsimp only
  congr 1
  unfold gramB
  have hrules : (rowsN g g.rules.length).map (ruleB g.terms g.nons) = g.rules := by
    unfold rowsN
    rw [List.map_map]
    apply List.ext_getElem?
    intro k
    by_cases hk : k < g.rules.length
    · rw [List.getElem?_map, List.getElem?_range hk, List.getElem?_eq_getElem hk]
      have e : g.rules.getD k default = g.rules[k] := by rw [List.getD_eq_getElem?_getD, List.getElem?_eq_getElem hk]; rfl
      show some (ruleB g.terms g.nons (rowN g k)) = some g.rules[k]
      rw [← e]
      congr 1
      unfold ruleB rowN Gm.rns
      show (⟨findB g.terms g.nons (g.nameOf (g.leftOf k)), ((g.rules.getD k default).right.map g.nameOf).map (findB g.terms g.nons)⟩ : Rl) = _
      rw [hf.findT (left_sym hf hk), List.map_map]
      have e2 : (g.rules.getD k default).right.map (findB g.terms g.nons ∘ g.nameOf) = (g.rules.getD k default).right := by
        conv => rhs; rw [← List.map_id (g.rules.getD k default).right]
        apply List.map_congr_left
        intro s hs
        exact hf.findT (hf.right k hk s hs)
      rw [e2]
      rfl
    · rw [List.getElem?_eq_none (by rw [List.length_map, List.length_range]; omega), List.getElem?_eq_none (by omega)]
  have hfs : findB g.terms g.nons st.s = g.start := by
    rw [hsn]
    exact hf.findT ⟨by have := hf.start; omega, hf.start.2⟩
  rw [hst]
  show (⟨g.terms, g.nons, (rowsN g g.rules.length).map (ruleB g.terms g.nons), findB g.terms g.nons st.s⟩ : Gm) = g
  rw [hrules, hfs]
/-- What is shown is read as it was. -/
theorem parse_show (hc : g.check = 0) (ho : g.ordered = true) (hl : g.showB.size ≤ 8192) : parseS g.showB = .ok g := by
  have hf := fine_of hc
  have hr : 0 < g.rules.length := by
    obtain ⟨h1, h2⟩ := hf.start
    unfold Gm.top at h2
    obtain ⟨k, hk, _⟩ := hf.has 0 (by omega)
    omega
  have hN : g.Named := ⟨fun k hk y hy => by
      unfold Gm.rns at hy
      obtain ⟨s, hs, rfl⟩ := List.mem_map.1 hy
      obtain ⟨i, hi, rfl⟩ := sym_nat (hf.right k hk s hs)
      rw [names_at i hi]
      have hm : g.names.getD i default ∈ g.names := getD_mem hi
      unfold Gm.names at hm ⊢
      rcases List.mem_append.1 hm with hm | hm
      · exact hf.terms _ hm
      · exact plain_term (hf.nons _ hm), fun k hk => by
      obtain ⟨i, hi, e⟩ := left_nat hf hk
      rw [e, non_at i hi]
      exact hf.nons _ (getD_mem hi)⟩
  have hs : plainOk (g.nameOf g.start) = true := by
    obtain ⟨i, hi, e⟩ : ∃ i : Nat, i < g.nons.length ∧ g.start = (g.terms.length : Int) + 1 + (i : Int) := by
      have := hf.start
      unfold Gm.top at this
      exact ⟨(g.start - g.terms.length - 1).toNat, by omega, by omega⟩
    rw [e, non_at i hi]
    exact hf.nons _ (getD_mem hi)
  obtain ⟨l, h1, h2⟩ := show_toks hN hf.terms hs hr
  obtain ⟨x, rs, h3, h4⟩ := show_form h2 (toks_end_of h1) hr
  have hall : allS g.showB = (l, 0, 0) := by
    unfold allS
    rw [if_neg (by omega), h1 _ (by omega)]
  unfold parseS
  rw [hall]
  simp only [ne_eq, not_true_eq_false, if_false]
  rw [h3]
  exact buildQ_ok hf ho h4
end
end Go.Proofs.YtliofoikejdjeaaGreat
/- gread's builder: its state. -/
namespace Go.Proofs.YtliofoikejdjeaaGreat
open Go.RowKit Go.Proofs.YtliofoikejdjeaaGreatW.PrintWords Go.Proofs.YtliofoikejdjeaaGreatW.PrintLast
set_option linter.unusedVariables false
set_option linter.unusedSimpArgs false
/-- What was read, as it lies in memory. -/
structure RdR (W : World) (b m : Nat) (x : Hd) (rs : List Ru) : Prop where
  cells : ∃ v0 A1 c1 A2 c2 A3 c3 A4 c4, W.heap[b]? = some (.cells #[v0, .slice A1 x.declared.length c1, .slice A2 x.marks.length c2, .slice A3 x.starts.length c3, .slice A4 rs.length c4, .map (some m)] 62 (0, 0)) ∧ Kd.C kTk W A1 x.declared.length x.declared ∧ Kd.C (Kd.int .i64) W A2 x.marks.length x.marks ∧ Kd.C kTk W A3 x.starts.length x.starts ∧ Kd.C kRu W A4 rs.length rs
  map : ∃ n f c, MapSI W m n f c ∧ ∀ u, (f u).getD 0 = leftsN rs u
theorem RdR.below {W W' : World} {b m : Nat} {x : Hd} {rs : List Ru} (h : RdR W b m x rs) (hb : Below W.heap.size W W') : RdR W' b m x rs := by
  obtain ⟨v0, A1, c1, A2, c2, A3, c3, A4, c4, hk, h1, h2, h3, h4⟩ := h.cells
  obtain ⟨n, f, c, hm, hf⟩ := h.map
  exact ⟨⟨v0, A1, c1, A2, c2, A3, c3, A4, c4, blk_below hk hb, Kd.C_below h1 hb, Kd.C_below h2 hb, Kd.C_below h3 hb, Kd.C_below h4 hb⟩, n, f, c, hm.below hb, hf⟩
theorem RS.read {W0 w : World} {b : Nat} {l : List Tk} {v1 v2 v3 v4 : Value} {m : Nat} {x : Hd} {rs : List Ru} (h : RS W0 w b l v1 v2 v3 v4 m x.declared x.marks x.starts rs) : RdR w b m x rs := by
  obtain ⟨n, f, c, hs, hf, hn⟩ := h.hs
  obtain ⟨ad, c0, hk, _⟩ := hs.rl.cells
  obtain ⟨A1, c1, e1, _, h1⟩ := Kd.R_reads hs.r1
  obtain ⟨A2, c2, e2, _, h2⟩ := Kd.R_reads hs.r2
  obtain ⟨A3, c3, e3, _, h3⟩ := Kd.R_reads hs.r3
  obtain ⟨A4, c4, e4, _, h4⟩ := Kd.R_reads h.r4
  subst e1 e2 e3 e4
  exact ⟨⟨_, A1, c1, A2, c2, A3, c3, A4, c4, hk, h1, h2, h3, h4⟩, n, f, c, hs.mp, hf⟩
def kStrs : Kd (List ByteArray) := Kd.slice 9 Kd.string
/-- The builder's state. -/
structure BS (W1 w : World) (b m : Nat) (x : Hd) (rs : List Ru) (B mt mn : Nat) (vT vN vS : Value) (u : Bu) (tm nm : List ByteArray) : Prop where
  rd : RdR W1 b m x rs
  below : Below W1.heap.size W1 w
  hB : W1.heap.size ≤ B
  blk : w.heap[B]? = some (.cells #[.pointer (some ⟨b, 0, none⟩), .map (some mt), .map (some mn), vT, vN, .slice none 0 0, .int .i64 0, vS] 66 (0, 0))
  ts : Kd.R Kd.string 9 w W1.heap.size (fun k => some k ≠ vN.ownBlock) vT u.ts
  ns : Kd.R Kd.string 9 w W1.heap.size (fun k => some k ≠ vT.ownBlock) vN u.ns
  rs_ : Kd.R kStrs 22 w W1.heap.size (fun k => some k ≠ vN.ownBlock ∧ some k ≠ vT.ownBlock) vS u.rs
  mt_ : ∃ n f c, MapSI w mt n f c ∧ (∀ s, (f s).getD 0 = placeS tm s + 1) ∧ n ≤ tm.length
  mn_ : ∃ n f c, MapSI w mn n f c ∧ (∀ s, (f s).getD 0 = placeS nm s + 1) ∧ n ≤ nm.length
  hmt : W1.heap.size ≤ mt
  hmn : W1.heap.size ≤ mn
  hne : mt ≠ mn
section
variable {W1 w w1 : World} {b m : Nat} {x : Hd} {rs : List Ru} {B mt mn : Nat} {vT vN vS : Value} {u : Bu} {tm nm : List ByteArray}
theorem BS.later (h : BS W1 w b m x rs B mt mn vT vN vS u tm nm) (hb : Below w.heap.size w w1) : BS W1 w1 b m x rs B mt mn vT vN vS u tm nm := by
  obtain ⟨n1, f1, c1, h1, h1'⟩ := h.mt_
  obtain ⟨n2, f2, c2, h2, h2'⟩ := h.mn_
  exact ⟨h.rd, h.below.trans (hb.mono h.below.size), h.hB, blk_below h.blk hb, Kd.R_below h.ts hb, Kd.R_below h.ns hb, Kd.R_below h.rs_ hb, ⟨n1, f1, c1, h1.below hb, h1'⟩, ⟨n2, f2, c2, h2.below hb, h2'⟩, h.hmt, h.hmn, h.hne⟩
theorem BS.mtB (h : BS W1 w b m x rs B mt mn vT vN vS u tm nm) : mt ≠ B := by
  obtain ⟨n1, f1, c1, h1, _⟩ := h.mt_
  exact h1.ne h.blk
theorem BS.mnB (h : BS W1 w b m x rs B mt mn vT vN vS u tm nm) : mn ≠ B := by
  obtain ⟨n1, f1, c1, h1, _⟩ := h.mn_
  exact h1.ne h.blk
theorem BS.lookT (h : BS W1 w b m x rs B mt mn vT vN vS u tm nm) (s : ByteArray) (hs : s.size ≤ 10000) : (Instr.lookup 59 (.map (some mt)) (.string s) false).run Tryz.prog w = .ok (.int .i64 (placeS tm s + 1)) w := by
  obtain ⟨n1, f1, c1, h1, h2, _⟩ := h.mt_
  rw [← h2 s]
  exact msi_look h1 s (by omega) _ Tryz.underlying59
theorem BS.lookN (h : BS W1 w b m x rs B mt mn vT vN vS u tm nm) (s : ByteArray) (hs : s.size ≤ 10000) : (Instr.lookup 59 (.map (some mn)) (.string s) false).run Tryz.prog w = .ok (.int .i64 (placeS nm s + 1)) w := by
  obtain ⟨n1, f1, c1, h1, h2, _⟩ := h.mn_
  rw [← h2 s]
  exact msi_look h1 s (by omega) _ Tryz.underlying59
theorem BS.lookL (h : BS W1 w b m x rs B mt mn vT vN vS u tm nm) (s : ByteArray) (hs : s.size ≤ 10000) : (Instr.lookup 59 (.map (some m)) (.string s) false).run Tryz.prog w = .ok (.int .i64 (leftsN rs s)) w := by
  obtain ⟨n1, f1, c1, h1, h2⟩ := (h.rd.below h.below).map
  rw [← h2 s]
  exact msi_look h1 s (by omega) _ Tryz.underlying59
theorem BS.cells (h : BS W1 w b m x rs B mt mn vT vN vS u tm nm) : w.cell? ⟨B, 0, none⟩ = some (.pointer (some ⟨b, 0, none⟩)) ∧ w.cell? ⟨B, 1, none⟩ = some (.map (some mt)) ∧ w.cell? ⟨B, 2, none⟩ = some (.map (some mn)) ∧ w.cell? ⟨B, 3, none⟩ = some vT ∧ w.cell? ⟨B, 4, none⟩ = some vN ∧ w.cell? ⟨B, 7, none⟩ = some vS :=
  ⟨(blk_cell h.blk 0).trans rfl, (blk_cell h.blk 1).trans rfl, (blk_cell h.blk 2).trans rfl, (blk_cell h.blk 3).trans rfl, (blk_cell h.blk 4).trans rfl, (blk_cell h.blk 7).trans rfl⟩
/-- What a method of the builder's writes: its block, a map, a row. -/
structure Fr (B mt : Nat) (v v' : Value) (w w' : World) : Prop where
  os : w'.os = w.os
  tape : w'.tape = w.tape
  output : w'.output = w.output
  size : w.heap.size ≤ w'.heap.size
  block : ∀ k, k < w.heap.size → k ≠ B → k ≠ mt → some k ≠ v.ownBlock → w'.heap[k]? = w.heap[k]?
  hat : v'.ownBlock = v.ownBlock ∨ ∃ k, v'.ownBlock = some k ∧ w.heap.size ≤ k
theorem Fr.refl (B mt : Nat) (v : Value) (w : World) : Fr B mt v v w w := ⟨rfl, rfl, rfl, Nat.le_refl _, fun _ _ _ _ _ => rfl, .inl rfl⟩
theorem Fr.later {v : Value} (h : Below w.heap.size w w1) : Fr B mt v v w w1 := ⟨h.os, h.tape, h.output, h.size, fun k hk _ _ _ => h.block k hk, .inl rfl⟩
theorem Fr.trans {v v1 v2 : Value} {w2 : World} (h : Fr B mt v v1 w w1) (k : Fr B mt v1 v2 w1 w2) : Fr B mt v v2 w w2 := by
  refine ⟨k.os.trans h.os, k.tape.trans h.tape, k.output.trans h.output, Nat.le_trans h.size k.size, fun i hi hB hm hv => ?_, ?_⟩
  · refine (k.block i (Nat.lt_of_lt_of_le hi h.size) hB hm ?_).trans (h.block i hi hB hm hv)
    rcases h.hat with e | ⟨j, e, hj⟩
    · rw [e]; exact hv
    · rw [e]
      intro he
      have := Option.some.inj he
      omega
  · rcases k.hat with e | ⟨j, e, hj⟩
    · rcases h.hat with e' | ⟨j, e', hj⟩
      · exact .inl (e.trans e')
      · exact .inr ⟨j, e.trans e', hj⟩
    · exact .inr ⟨j, e, Nat.le_trans h.size hj⟩
/-- A row of the caller's own stays. -/
theorem Fr.row {α : Type} {d : Kd α} {e base : Nat} {ok : Nat → Prop} {v v' r : Value} {xs : List α} (fr : Fr B mt v v' w w1) {cs : Array Value} (hblk : w.heap[B]? = some (.cells cs 66 (0, 0))) {n c : Nat} {f : ByteArray → Option Int} (hm : MapSI w mt n f c) (ht : ∀ q, q ∈ e :: d.E → q ≠ 66) (h : d.R e w base (fun k => ok k ∧ some k ≠ v.ownBlock) r xs) : d.R e w1 base (fun k => ok k ∧ some k ≠ v'.ownBlock) r xs := by
  have h2 := Kd.R_step (w1 := w1) (Kd.R_bound h) (fun k hk hlt => by
    obtain ⟨⟨_, hv⟩, _, _, q, hq, cells, hc⟩ := hk
    refine fr.block k hlt (fun e => ?_) (fun e => ?_) hv
    · subst e
      rw [hc] at hblk
      injection hblk with hblk
      injection hblk with _ hblk
      exact ht q hq hblk
    · subst e
      exact hm.ne hc rfl)
  refine Kd.R_mono h2 (fun k hk => ⟨hk.1.1, ?_⟩)
  rcases fr.hat with e | ⟨j, e, hj⟩
  · rw [e]; exact hk.1.2
  · rw [e]
    intro he
    have := Option.some.inj he
    have := hk.2.2.1
    omega
end
section
variable {W1 w w1 : World} {b m : Nat} {x : Hd} {rs : List Ru} {B mt mn : Nat} {vT vN vS : Value} {u : Bu} {tm nm : List ByteArray}
theorem BS.putT (h : BS W1 w b m x rs B mt mn vT vN vS u tm nm) {v' : Value} {ts' : List ByteArray} (ho : Kd.R Kd.string 9 w1 W1.heap.size (fun k => some k ≠ vN.ownBlock) v' ts') (hg : w.grownBy w1 vT.ownBlock) (hat : v'.ownBlock = vT.ownBlock ∨ ∃ k, v'.ownBlock = some k ∧ w.heap.size ≤ k) :
    w1.heap[B]? = some (.cells #[.pointer (some ⟨b, 0, none⟩), .map (some mt), .map (some mn), vT, vN, .slice none 0 0, .int .i64 0, vS] 66 (0, 0)) ∧ BS W1 (w1.setCell ⟨B, 3, none⟩ v') b m x rs B mt mn v' vN vS { u with ts := ts' } tm nm := by
  have hk := blk_grown h.blk hg (Kd.R_ne h.ts h.blk (by decide))
  obtain ⟨n1, f1, c1, h1, h1'⟩ := h.mt_
  obtain ⟨n2, f2, c2, h2, h2'⟩ := h.mn_
  refine ⟨hk, h.rd, (Below.grown h.below hg h.below.size (fun k hk => Kd.R_base h.ts k hk)).setCell (p := ⟨B, 3, none⟩) h.hB v', h.hB, blk_set hk 3 v', Kd.R_set ho hk (by decide) 3 v', ?_, ?_, ⟨n1, f1, c1, (h1.own h.ts hg).same (Below.heap_setCell w1 ⟨B, 3, none⟩ v' mt h.mtB), h1'⟩, ⟨n2, f2, c2, (h2.own h.ts hg).same (Below.heap_setCell w1 ⟨B, 3, none⟩ v' mn h.mnB), h2'⟩, h.hmt, h.hmn, h.hne⟩
  · exact Kd.R_set (Kd.R_mono (Kd.R_after (ok := fun _ => True) (Kd.R_mono h.ns (fun k hk => ⟨trivial, hk⟩)) hg hat) (fun k hk => hk.2)) hk (by decide) 3 v'
  · exact Kd.R_set (Kd.R_after (ok := fun k => some k ≠ vN.ownBlock) h.rs_ hg hat) hk (by decide) 3 v'
theorem BS.putN (h : BS W1 w b m x rs B mt mn vT vN vS u tm nm) {v' : Value} {ns' : List ByteArray} (ho : Kd.R Kd.string 9 w1 W1.heap.size (fun k => some k ≠ vT.ownBlock) v' ns') (hg : w.grownBy w1 vN.ownBlock) (hat : v'.ownBlock = vN.ownBlock ∨ ∃ k, v'.ownBlock = some k ∧ w.heap.size ≤ k) :
    w1.heap[B]? = some (.cells #[.pointer (some ⟨b, 0, none⟩), .map (some mt), .map (some mn), vT, vN, .slice none 0 0, .int .i64 0, vS] 66 (0, 0)) ∧ BS W1 (w1.setCell ⟨B, 4, none⟩ v') b m x rs B mt mn vT v' vS { u with ns := ns' } tm nm := by
  have hk := blk_grown h.blk hg (Kd.R_ne h.ns h.blk (by decide))
  obtain ⟨n1, f1, c1, h1, h1'⟩ := h.mt_
  obtain ⟨n2, f2, c2, h2, h2'⟩ := h.mn_
  refine ⟨hk, h.rd, (Below.grown h.below hg h.below.size (fun k hk => Kd.R_base h.ns k hk)).setCell (p := ⟨B, 4, none⟩) h.hB v', h.hB, blk_set hk 4 v', ?_, Kd.R_set ho hk (by decide) 4 v', ?_, ⟨n1, f1, c1, (h1.own h.ns hg).same (Below.heap_setCell w1 ⟨B, 4, none⟩ v' mt h.mtB), h1'⟩, ⟨n2, f2, c2, (h2.own h.ns hg).same (Below.heap_setCell w1 ⟨B, 4, none⟩ v' mn h.mnB), h2'⟩, h.hmt, h.hmn, h.hne⟩
  · exact Kd.R_set (Kd.R_mono (Kd.R_after (ok := fun _ => True) (Kd.R_mono h.ts (fun k hk => ⟨trivial, hk⟩)) hg hat) (fun k hk => hk.2)) hk (by decide) 4 v'
  · exact Kd.R_set (Kd.R_mono (Kd.R_after (ok := fun k => some k ≠ vT.ownBlock) (Kd.R_mono h.rs_ (fun k hk => ⟨hk.2, hk.1⟩)) hg hat) (fun k hk => ⟨hk.2, hk.1⟩)) hk (by decide) 4 v'
theorem BS.putS (h : BS W1 w b m x rs B mt mn vT vN vS u tm nm) {v' : Value} {rs' : List (List ByteArray)} (ho : Kd.R kStrs 22 w1 W1.heap.size (fun k => some k ≠ vN.ownBlock ∧ some k ≠ vT.ownBlock) v' rs') (hg : w.grownBy w1 vS.ownBlock) :
    w1.heap[B]? = some (.cells #[.pointer (some ⟨b, 0, none⟩), .map (some mt), .map (some mn), vT, vN, .slice none 0 0, .int .i64 0, vS] 66 (0, 0)) ∧ BS W1 (w1.setCell ⟨B, 7, none⟩ v') b m x rs B mt mn vT vN v' { u with rs := rs' } tm nm := by
  have hk := blk_grown h.blk hg (Kd.R_ne h.rs_ h.blk (by decide))
  obtain ⟨n1, f1, c1, h1, h1'⟩ := h.mt_
  obtain ⟨n2, f2, c2, h2, h2'⟩ := h.mn_
  refine ⟨hk, h.rd, (Below.grown h.below hg h.below.size (fun k hk => Kd.R_base h.rs_ k hk)).setCell (p := ⟨B, 7, none⟩) h.hB v', h.hB, blk_set hk 7 v', ?_, ?_, Kd.R_set ho hk (by decide) 7 v', ⟨n1, f1, c1, (h1.own h.rs_ hg).same (Below.heap_setCell w1 ⟨B, 7, none⟩ v' mt h.mtB), h1'⟩, ⟨n2, f2, c2, (h2.own h.rs_ hg).same (Below.heap_setCell w1 ⟨B, 7, none⟩ v' mn h.mnB), h2'⟩, h.hmt, h.hmn, h.hne⟩
  · exact Kd.R_set (Kd.R_over h.ts h.rs_ (by decide) hg) hk (by decide) 7 v'
  · exact Kd.R_set (Kd.R_over h.ns h.rs_ (by decide) hg) hk (by decide) 7 v'
theorem BS.mapT (h : BS W1 w b m x rs B mt mn vT vN vS u tm nm) {n' c' : Nat} {f' : ByteArray → Option Int} {tm' : List ByteArray} (hm : MapSI w1 mt n' f' c') (hf : ∀ s, (f' s).getD 0 = placeS tm' s + 1) (hn : n' ≤ tm'.length) (hg : w.grownBy w1 (some mt)) : BS W1 w1 b m x rs B mt mn vT vN vS u tm' nm := by
  obtain ⟨n1, f1, c1, h1, h1'⟩ := h.mt_
  obtain ⟨n2, f2, c2, h2, h2'⟩ := h.mn_
  obtain ⟨es, clock, he⟩ := h1.map_
  exact ⟨h.rd, Below.grown h.below hg h.below.size (fun k hk => by cases hk; exact h.hmt), h.hB, blk_grown h.blk hg (fun e => h.mtB (Option.some.inj e).symm), R_map h.ts he hg, R_map h.ns he hg, R_map h.rs_ he hg, ⟨n', f', c', hm, hf, hn⟩, ⟨n2, f2, c2, h2.grown hg (fun e => h.hne (Option.some.inj e).symm), h2'⟩, h.hmt, h.hmn, h.hne⟩
theorem BS.mapN (h : BS W1 w b m x rs B mt mn vT vN vS u tm nm) {n' c' : Nat} {f' : ByteArray → Option Int} {nm' : List ByteArray} (hm : MapSI w1 mn n' f' c') (hf : ∀ s, (f' s).getD 0 = placeS nm' s + 1) (hn : n' ≤ nm'.length) (hg : w.grownBy w1 (some mn)) : BS W1 w1 b m x rs B mt mn vT vN vS u tm nm' := by
  obtain ⟨n1, f1, c1, h1, h1'⟩ := h.mt_
  obtain ⟨n2, f2, c2, h2, h2'⟩ := h.mn_
  obtain ⟨es, clock, he⟩ := h2.map_
  exact ⟨h.rd, Below.grown h.below hg h.below.size (fun k hk => by cases hk; exact h.hmn), h.hB, blk_grown h.blk hg (fun e => h.mnB (Option.some.inj e).symm), R_map h.ts he hg, R_map h.ns he hg, R_map h.rs_ he hg, ⟨n1, f1, c1, h1.grown hg (fun e => h.hne (Option.some.inj e)), h1'⟩, ⟨n', f', c', hm, hf, hn⟩, h.hmt, h.hmn, h.hne⟩
theorem Fr.put {v v' v1 : Value} {w2 : World} {i : Nat} (h : Fr B mt v v w w1) (hg : w1.grownBy w2 v.ownBlock) (hat : v'.ownBlock = v.ownBlock ∨ ∃ k, v'.ownBlock = some k ∧ w1.heap.size ≤ k) : Fr B mt v v' w (w2.setCell ⟨B, i, none⟩ v1) :=
  ⟨hg.os.trans h.os, hg.tape.trans h.tape, hg.output.trans h.output, by simpa using Nat.le_trans h.size hg.size, fun k hk hB hm hv => (Below.heap_setCell w2 ⟨B, i, none⟩ v1 k hB).trans ((hg.block k (Nat.lt_of_lt_of_le hk h.size) hv).trans (h.block k hk hB hm hv)), hat.imp_right fun ⟨k, e, hk⟩ => ⟨k, e, Nat.le_trans h.size hk⟩⟩
theorem Fr.map {v v' : Value} {w2 : World} (h : Fr B mt v v' w w1) (hg : w1.grownBy w2 (some mt)) : Fr B mt v v' w w2 :=
  ⟨hg.os.trans h.os, hg.tape.trans h.tape, hg.output.trans h.output, Nat.le_trans h.size hg.size, fun k hk hB hm hv => (hg.block k (Nat.lt_of_lt_of_le hk h.size) (fun e => hm (Option.some.inj e))).trans (h.block k hk hB hm hv), h.hat⟩
end
theorem place_snoc (xs : List ByteArray) (s t : ByteArray) (hs : placeS xs s = -1) : placeS (xs ++ [s]) t + 1 = if t = s then ((xs.length + 1 : Nat) : Int) else placeS xs t + 1 := by
  unfold placeS idxF at *
  rw [List.findIdx?_append]
  by_cases e : t = s
  · subst e
    rw [if_pos rfl]
    cases h : xs.findIdx? (fun x => decide (x = t)) with
    | some i => rw [h] at hs; exact absurd hs (by simp only; omega)
    | none => simp
  · rw [if_neg e]
    have hn : List.findIdx? (fun x => decide (x = t)) [s] = none := by simp [List.findIdx?_cons, Ne.symm e]
    rw [hn]
    cases xs.findIdx? (fun x => decide (x = t)) <;> simp
end Go.Proofs.YtliofoikejdjeaaGreat
/- gread's builder: one terminal more. -/
namespace Go.Proofs.YtliofoikejdjeaaGreat
open Go.RowKit Go.Proofs.YtliofoikejdjeaaGreatW.PrintWords Go.Proofs.YtliofoikejdjeaaGreatW.PrintLast
set_option linter.unusedVariables false
set_option linter.unusedSimpArgs false
def btaT : Bool × List (List Nat × List Nat) := (true, [([], []), ([], []), ([1], [1]), ([2], [2]), ([3], [3]), ([4], [4]), ([], []), ([6], [6]), ([7], [7]), ([5, 8], [5, 8]), ([0, 0, 1, 2, 3, 4, 5, 6, 7, 8, 9], [0]), ([10, 0, 1, 2, 3, 4, 5, 6, 7, 8, 9], [10]), ([11, 0, 1, 2, 3, 4, 5, 6, 7, 8, 9], [11]), ([12, 9, 9, 0, 1, 2, 3, 4, 5, 6, 7, 8, 9], [9, 12])])
def btaB : List Nat := [0, 0, 2, 6, 14, 30, 0, 64, 192, 510, 1023, 2047, 4095, 8191]
theorem btaTab : rtab .any (opsOf Tryz.f122 3) = btaT := by kernel_rfl
theorem btaBits : waitsOk btaT.2 btaB = true := by kernel_rfl
def btmT : Bool × List (List Nat × List Nat) := (true, [([], []), ([0], [0]), ([1], [1]), ([2], [2]), ([], []), ([4], [4]), ([], []), ([6], [6]), ([7], [7]), ([8], [8]), ([9], [9]), ([10], [10]), ([3, 5, 11, 0, 1, 2, 3, 4, 5, 6, 7, 8, 9, 10, 11], [3, 5, 11])])
def btmB : List Nat := [0, 1, 3, 7, 0, 16, 0, 64, 192, 448, 960, 1984, 4095]
theorem btmTab : rtab .any (opsOf Tryz.f122 4) = btmT := by kernel_rfl
theorem btmBits : waitsOk btmT.2 btmB = true := by kernel_rfl
def TermEnd (W1 w : World) (b m : Nat) (x : Hd) (rs : List Ru) (B mt mn : Nat) (vT vN vS : Value) (u : Bu) (R : Except Ft (List ByteArray)) (e : Ending) (w' : World) : Prop :=
  match R with
  | .error f => Panics f e ∧ ∃ vT' u', BS W1 w' b m x rs B mt mn vT' vN vS u' u'.ts u'.ns ∧ Fr B mt vT vT' w w'
  | .ok ts' => e = .returned (.tuple #[]) ∧ ∃ vT', BS W1 w' b m x rs B mt mn vT' vN vS { u with ts := ts' } ts' u.ns ∧ Fr B mt vT vT' w w'
theorem blk_new (w : World) (o : Obj) : (w.alloc o).heap[w.heap.size]? = some o := Array.getElem?_push_size
set_option maxHeartbeats 4000000 in
set_option maxRecDepth 100000 in
theorem b_term_full {W1 w : World} {b m : Nat} {x : Hd} {rs : List Ru} {B mt mn : Nat} {vT vN vS : Value} {u : Bu} (h : BS W1 w b m x rs B mt mn vT vN vS u u.ts u.ns) (t : Tk) (hsz : t.s.size ≤ 10000) (hl : 120 ≤ u.ts.length) (hu : u.ts.length ≤ 100000) :
    Calls Tryz.prog 122 #[.pointer (some ⟨B, 0, none⟩), tkV t] w (TermEnd W1 w b m x rs B mt mn vT vN vS u (termB t u.ts)) := by
  have HR : Aside0 (termB t u.ts = .error (7, t.at_)) := ⟨by unfold termB; rw [if_pos hl]⟩
  have hgB0 : w.heap.size ≠ B := by have := blk_lt h.blk; omega
  have HGB := Aside0.mk hgB0
  have HB := Aside0.mk (h.later (below_alloc (Below.refl _ _) (.cells #[.int .i64 t.k, .string t.s, .int .i64 t.at_] 85 (0, 0))))
  have BK := Aside0.mk (blk_new w (.cells #[.int .i64 t.k, .string t.s, .int .i64 t.at_] 85 (0, 0)))
  have HF := Aside0.mk (Fr.later (B := B) (mt := mt) (v := vT) (below_alloc (Below.refl w.heap.size w) (.cells #[.int .i64 t.k, .string t.s, .int .i64 t.at_] 85 (0, 0))))
  obtain ⟨Av, cv, ev⟩ := Kd.R_slice h.ts
  have c0 := (blk_cell HB.out.blk 3).trans rfl
  have c1 := (blk_cell BK.out 2).trans rfl
  rw [ev] at c0
  have hl2 : (120 : Int) ≤ (u.ts.length : Int) := by omega
  clear h ev hsz
  unfold tkV
  go_enter Tryz.func122, Tryz.ntmps122
  go_wp2_with (go_at_call 99; ((with_reducible refine (gread_fail _ _ _).mono ?_); rintro e w' ⟨⟨older, rfl, ho⟩, rfl⟩))
  refine ⟨rfl, ?_⟩
  rw [HR.out]
  exact ⟨⟨older, rfl, ho⟩, _, _, HB.out, HF.out⟩
set_option maxHeartbeats 8000000 in
set_option maxRecDepth 100000 in
theorem b_term_new {W1 w : World} {b m : Nat} {x : Hd} {rs : List Ru} {B mt mn : Nat} {vT vN vS : Value} {u : Bu} (h : BS W1 w b m x rs B mt mn vT vN vS u u.ts u.ns) (t : Tk) (hsz : t.s.size ≤ 10000) (hl : u.ts.length < 120) (hp : placeS u.ts t.s = -1) :
    Calls Tryz.prog 122 #[.pointer (some ⟨B, 0, none⟩), tkV t] w (TermEnd W1 w b m x rs B mt mn vT vN vS u (termB t u.ts)) := by
  have HR : Aside0 (termB t u.ts = .ok (u.ts ++ [t.s])) := ⟨by unfold termB; rw [if_neg (by omega)]⟩
  have hgB0 : w.heap.size ≠ B := by have := blk_lt h.blk; omega
  have HGB := Aside0.mk hgB0
  have HB := Aside0.mk (h.later (below_alloc (Below.refl _ _) (.cells #[.int .i64 t.k, .string t.s, .int .i64 t.at_] 85 (0, 0))))
  have BK := Aside0.mk (blk_new w (.cells #[.int .i64 t.k, .string t.s, .int .i64 t.at_] 85 (0, 0)))
  have HF := Aside0.mk (Fr.later (B := B) (mt := mt) (v := vT) (below_alloc (Below.refl w.heap.size w) (.cells #[.int .i64 t.k, .string t.s, .int .i64 t.at_] 85 (0, 0))))
  have HL : Aside0 (u.ts.length < 120) := ⟨hl⟩
  have HPP := Aside0.mk hp
  have HSZ : Aside0 (t.s.size ≤ 140737488351232) := ⟨by omega⟩
  obtain ⟨Av, cv, ev⟩ := Kd.R_slice h.ts
  have c0 := (blk_cell HB.out.blk 3).trans rfl
  rw [ev] at c0
  have hl2 : ¬ (120 : Int) ≤ (u.ts.length : Int) := by omega
  clear h hsz hp hl hgB0
  unfold tkV
  go_enter Tryz.func122, Tryz.ntmps122
  go_wp2
  obtain ⟨g, hgg⟩ : ∃ g, w.heap.size = g := ⟨_, rfl⟩
  clear c0 hl2 ev
  rw [hgg] at BK HGB
  have hgB := HGB.out
  have n1_ := Aside0.mk (HB.out.later (below_drew (Below.refl _ _)))
  have n2_ := Aside0.mk (blk_drew BK.out)
  have n3_ := Aside0.mk (HF.out.trans (Fr.later (below_drew (Below.refl _ _))))
  clear HB BK HF
  have HB := n1_
  have BK := n2_
  have HF := n3_
  clear n1_ n2_ n3_
  refine start_ (n := 14) (S := fun w' => w'.cell? ⟨B, 3, none⟩ = some vT ∧ w'.cell? ⟨g, 1, none⟩ = some (.string t.s)) (ds := [13]) #[false, false, false, false, false, false, false, false, false, false, false, false, false, false] (by kernel_rfl) rfl rfl ⟨HB.out.cells.2.2.2.1, (blk_cell BK.out 1).trans rfl⟩ (fun hHeld => ?_)
  refine with_tabW btaTab btaBits (fun HT_ HW_ => ?_)
  generalize World.drew _ = w5 at HB BK HF hHeld ⊢
  refine pure_ (i := 0) (N := (some 14)) (v := ?_) (a' := ?_) #[true, false, false, false, false, false, false, false, false, false, false, false, false, false] rfl rfl (any_of HT_.out (by kernel_rfl)) (fun _ _ _ h => h) (Or.inl ⟨by rfl, ?_⟩) ?_ ?_
  rotate_left
  · intro w'
    go_simp
    with_reducible rfl
  rotate_left
  · simp only [Act.put, List.setIfInBounds_toArray, List.set_cons_zero, List.set_cons_succ, i64_w, i32_w]
    rfl
  refine pure_ (i := 1) (N := (some 15)) (v := ?_) (a' := ?_) #[true, true, false, false, false, false, false, false, false, false, false, false, false, false] rfl rfl (any_of HT_.out (by kernel_rfl)) (fun _ _ _ h => h) (Or.inl ⟨by rfl, ?_⟩) ?_ ?_
  rotate_left
  · intro w'
    go_simp
    with_reducible rfl
  rotate_left
  · simp only [Act.put, List.setIfInBounds_toArray, List.set_cons_zero, List.set_cons_succ, i64_w, i32_w]
    rfl
  refine pure_ (i := 2) (N := (some 16)) (v := ?_) (a' := ?_) #[true, true, true, false, false, false, false, false, false, false, false, false, false, false] rfl rfl (any_of HT_.out (by kernel_rfl)) (fun _ _ _ h => h) (Or.inl ⟨by rfl, ?_⟩) ?_ ?_
  rotate_left
  · intro w'
    go_simp
    with_reducible rfl
  rotate_left
  · simp only [Act.put, List.setIfInBounds_toArray, List.set_cons_zero, List.set_cons_succ, i64_w, i32_w]
    rfl
  refine pure_ (i := 3) (N := (some 17)) (v := ?_) (a' := ?_) #[true, true, true, true, false, false, false, false, false, false, false, false, false, false] rfl rfl (any_of HT_.out (by kernel_rfl)) (fun _ _ _ h => h) (Or.inl ⟨by rfl, ?_⟩) ?_ ?_
  rotate_left
  · intro w'
    go_simp
    with_reducible rfl
  rotate_left
  · simp only [Act.put, List.setIfInBounds_toArray, List.set_cons_zero, List.set_cons_succ, i64_w, i32_w]
    rfl
  refine pure_ (i := 4) (N := (some 18)) (v := ?_) (a' := ?_) #[true, true, true, true, true, false, false, false, false, false, false, false, false, false] rfl rfl (any_of HT_.out (by kernel_rfl)) (fun _ _ _ h => h) (Or.inl ⟨by rfl, ?_⟩) ?_ ?_
  rotate_left
  · intro w'
    go_simp
    with_reducible rfl
  rotate_left
  · simp only [Act.put, List.setIfInBounds_toArray, List.set_cons_zero, List.set_cons_succ, i64_w, i32_w]
    rfl
  refine take_ (i := 5) (N := (some 19)) (v := ?_) (a' := ?_) #[true, true, true, true, true, true, false, false, false, false, false, false, false, false] rfl rfl (take_ofW HT_.out HW_.out (by kernel_rfl)) (fun _ _ _ h => h) (Or.inl ⟨by rfl, ?_⟩) hHeld ?_ ?_
  rotate_left
  · rintro w' ⟨s0, s1⟩
    go_simp
    with_reducible rfl
  rotate_left
  · simp only [Act.put, List.setIfInBounds_toArray, List.set_cons_zero, List.set_cons_succ, i64_w, i32_w]
    rfl
  refine pure_ (i := 6) (N := (some 20)) (v := ?_) (a' := ?_) #[true, true, true, true, true, true, true, false, false, false, false, false, false, false] rfl rfl (any_of HT_.out (by kernel_rfl)) (fun _ _ _ h => h) (Or.inl ⟨by rfl, ?_⟩) ?_ ?_
  rotate_left
  · intro w'
    go_simp
    with_reducible rfl
  rotate_left
  · simp only [Act.put, List.setIfInBounds_toArray, List.set_cons_zero, List.set_cons_succ, i64_w, i32_w]
    rfl
  refine take_ (i := 7) (N := (some 21)) (v := ?_) (a' := ?_) #[true, true, true, true, true, true, true, true, false, false, false, false, false, false] rfl rfl (take_ofW HT_.out HW_.out (by kernel_rfl)) (fun _ _ _ h => h) (Or.inl ⟨by rfl, ?_⟩) hHeld ?_ ?_
  rotate_left
  · rintro w' ⟨s0, s1⟩
    go_simp
    with_reducible rfl
  rotate_left
  · simp only [Act.put, List.setIfInBounds_toArray, List.set_cons_zero, List.set_cons_succ, i64_w, i32_w]
    rfl
  refine one_ (i := 8) (N := (some 22)) #[true, true, true, true, true, true, true, true, true, false, false, false, false, false] rfl rfl (one_of HT_.out (by kernel_rfl)) (by decide) (fun K hK => ?_)
  refine Kd.R_lit_step Kd.string (w0 := w5) w5.heap.size 9 ?hg (N := 22) ?hd (xs := [t.s]) (inner := [.string t.s]) (ok := fun _ => True) (okp := fun _ => True) ?hr ?hp (fun _ hk => hk) trivial (Below.refl _ _) (Nat.le_refl _) (by simp) ?_; (case hd => rfl); (case hg => rfl); (case hr => first | (go_simp; done) | (go_simp; rfl)); (case hp => exact (Reps.snoc (Reps.none _ _) rfl rfl))
  intro vL w7 ho hb hg hnew
  obtain ⟨A8, c8, e8, l8, C8⟩ := Kd.R_reads ho
  subst e8
  have HX := Aside0.mk C8
  have hgn := grown_none hg
  have n1_ := Aside0.mk (HB.out.later hgn)
  have n2_ := Aside0.mk (blk_below BK.out hgn)
  have n3_ := Aside0.mk (HF.out.trans (Fr.later hgn))
  clear HB BK HF ho hb hg hnew C8 l8 hgn
  have HB := n1_
  have BK := n2_
  have HF := n3_
  clear n1_ n2_ n3_
  refine hK.out _ _ ⟨HB.out.cells.2.2.2.1, (blk_cell BK.out 1).trans rfl⟩ (fun hHeld => ?_)
  clear hK K
  refine norm_ (a' := ?_) ?_ ?_
  rotate_left
  · show Act.put _ (some 22) _ = _
    simp only [Act.put, List.setIfInBounds_toArray, List.set_cons_zero, List.set_cons_succ, i64_w, i32_w]
    rfl
  refine one_ (i := 9) (N := (some 23)) #[true, true, true, true, true, true, true, true, true, true, false, false, false, false] rfl rfl (one_of HT_.out (by kernel_rfl)) (by decide) (fun K hK => ?_)
  refine Kd.R_append_rows_step Kd.string (w0 := w7) W1.heap.size (by rfl) (.tmp 19) (.tmp 22) 22 9 (.string ⟨#[]⟩) 16 rfl Tryz.underlying22 info9 rfl (by decide) (by omega) vT u.ts [t.s] _ _ _ (fun k => some k ≠ vN.ownBlock) (fun _ => False) rfl rfl HB.out.ts HX.out (fun _ _ h => h) (fun _ h => h.elim) (fun k hk he => by have := Kd.R_lt HB.out.ns k he.symm; omega) (Below.refl _ _) HB.out.below.size ?aL ?_
  case aL => have := HL.out; simp only [List.length_cons, List.length_nil]; omega
  intro vX w8 ho hb hg hat
  have n1_ := Aside0.mk (HB.out.putT ho hg hat)
  have n2_ := Aside0.mk (blk_grown BK.out hg (Kd.R_ne HB.out.ts BK.out (by decide)))
  have HF2 : Aside0 (∀ i v1, Fr B mt vT vX w (w8.setCell ⟨B, i, none⟩ v1)) := ⟨fun i v1 => HF.out.put hg hat⟩
  have HSL := Aside0.mk (Kd.R_slice ho)
  clear HB BK HF HX ho hb hg hat
  have HP := n1_
  have BK := n2_
  clear n1_ n2_
  refine hK.out _ _ ⟨(blk_cell HP.out.1 3).trans rfl, (blk_cell BK.out 1).trans rfl⟩ (fun hHeld => ?_)
  clear hK K
  refine norm_ (a' := ?_) ?_ ?_
  rotate_left
  · show Act.put _ (some 23) _ = _
    simp only [Act.put, List.setIfInBounds_toArray, List.set_cons_zero, List.set_cons_succ, i64_w, i32_w]
    rfl
  refine pure_ (i := 10) (N := (some 24)) (v := ?_) (a' := ?_) #[true, true, true, true, true, true, true, true, true, true, true, false, false, false] rfl rfl (any_of HT_.out (by kernel_rfl)) (fun _ _ _ h => h) (Or.inl ⟨by rfl, ?_⟩) ?_ ?_
  rotate_left
  · intro w'
    go_simp
    with_reducible rfl
  rotate_left
  · simp only [Act.put, List.setIfInBounds_toArray, List.set_cons_zero, List.set_cons_succ, i64_w, i32_w]
    rfl
  refine pure_ (i := 11) (N := (some 25)) (v := ?_) (a' := ?_) #[true, true, true, true, true, true, true, true, true, true, true, true, false, false] rfl rfl (any_of HT_.out (by kernel_rfl)) (fun _ _ _ h => h) (Or.inl ⟨by rfl, ?_⟩) ?_ ?_
  rotate_left
  · intro w'
    go_simp
    with_reducible rfl
  rotate_left
  · simp only [Act.put, List.setIfInBounds_toArray, List.set_cons_zero, List.set_cons_succ, i64_w, i32_w]
    rfl
  refine pure_ (i := 12) (N := (some 26)) (v := ?_) (a' := ?_) #[true, true, true, true, true, true, true, true, true, true, true, true, true, false] rfl rfl (any_of HT_.out (by kernel_rfl)) (fun _ _ _ h => h) (Or.inl ⟨by rfl, ?_⟩) ?_ ?_
  rotate_left
  · intro w'
    go_simp
    with_reducible rfl
  rotate_left
  · simp only [Act.put, List.setIfInBounds_toArray, List.set_cons_zero, List.set_cons_succ, i64_w, i32_w]
    rfl
  refine last_ (i := 13) (N := none) #[true, true, true, true, true, true, true, true, true, true, true, true, true, true] rfl rfl (one_of HT_.out (by kernel_rfl)) (by decide) (fun K hK => ?_)
  have f0 := (blk_cell HP.out.1 3).trans rfl
  have f1 := blk_frozen HP.out.1 3
  refine skip_ (by rfl) rfl (w1 := w8.setCell ⟨B, 3, none⟩ vX) ?hrun ?_; (case hrun => obtain ⟨An, cn, en⟩ : ∃ An cn, vX = .slice An (u.ts ++ [t.s]).length cn := HSL.out; subst en; first | (go_simp; done) | (go_simp; rfl))
  have HB := Aside0.mk HP.out.2
  have HF := Aside0.mk (HF2.out 3 vX)
  have n1_ := Aside0.mk (blk_far (p := ⟨B, 3, none⟩) BK.out hgB vX)
  clear f0 f1 HP HF2 BK
  have BK := n1_
  clear n1_
  refine hK.out _ _ ?_
  clear hK K
  refine done_ (done_of HT_.out (by kernel_rfl)) ?_
  go_wp2
  have n1_ := Aside0.mk (HB.out.later (below_drew (Below.refl _ _)))
  have n2_ := Aside0.mk (blk_drew BK.out)
  have n3_ := Aside0.mk (HF.out.trans (v1 := vX) (v2 := vX) (Fr.later (below_drew (Below.refl _ _))))
  clear HB BK HF
  have HB := n1_
  have BK := n2_
  have HF := n3_
  clear n1_ n2_ n3_
  obtain ⟨An, cn, en⟩ : ∃ An cn, vX = .slice An (u.ts ++ [t.s]).length cn := HSL.out
  clear HSL
  obtain ⟨N, hN⟩ : ∃ N, (u.ts ++ [t.s]).length = N := ⟨_, rfl⟩
  have hN2 : N = u.ts.length + 1 := by rw [← hN, List.length_append]; rfl
  have HNW : Aside0 ((Lit.int .i64 (N : Int)).wf = true) := ⟨by
    have e1 : IntKind.i64.min = -9223372036854775808 := rfl
    have e2 : IntKind.i64.max = 9223372036854775807 := rfl
    have := HL.out
    simp [Lit.wf, e1, e2]
    omega⟩
  have HPL : Aside0 (∀ ff : ByteArray → Option Int, (∀ s, (ff s).getD 0 = placeS u.ts s + 1) → ∀ s, ((fun u => if u = t.s then some (N : Int) else ff u) s).getD 0 = placeS (u.ts ++ [t.s]) s + 1) := ⟨fun ff hff s => by
    rw [place_snoc _ _ _ HPP.out]
    by_cases e : s = t.s
    · simp only [if_pos e, Option.getD_some, hN2]
    · simp only [if_neg e]
      exact hff s⟩
  rw [hN] at en
  have HEN := Aside0.mk en
  clear hN2 en
  refine start_ (n := 13) (S := fun w' => w'.cell? ⟨B, 1, none⟩ = some (.map (some mt)) ∧ w'.cell? ⟨g, 1, none⟩ = some (.string t.s) ∧ w'.cell? ⟨B, 3, none⟩ = some (.slice An N cn)) (ds := [12]) #[false, false, false, false, false, false, false, false, false, false, false, false, false] (by kernel_rfl) rfl rfl ⟨HB.out.cells.2.1, (blk_cell BK.out 1).trans rfl, (HB.out.cells.2.2.2.1).trans (congrArg some HEN.out)⟩ (fun hHeld => ?_)
  refine with_tabW btmTab btmBits (fun HT_ HW_ => ?_)
  generalize World.drew _ = w5 at HB BK HF hHeld ⊢
  refine pure_ (i := 0) (N := (some 27)) (v := ?_) (a' := ?_) #[true, false, false, false, false, false, false, false, false, false, false, false, false] rfl rfl (any_of HT_.out (by kernel_rfl)) (fun _ _ _ h => h) (Or.inl ⟨by rfl, ?_⟩) ?_ ?_
  rotate_left
  · intro w'
    go_simp
    with_reducible rfl
  rotate_left
  · simp only [Act.put, List.setIfInBounds_toArray, List.set_cons_zero, List.set_cons_succ, i64_w, i32_w]
    rfl
  refine pure_ (i := 1) (N := (some 28)) (v := ?_) (a' := ?_) #[true, true, false, false, false, false, false, false, false, false, false, false, false] rfl rfl (any_of HT_.out (by kernel_rfl)) (fun _ _ _ h => h) (Or.inl ⟨by rfl, ?_⟩) ?_ ?_
  rotate_left
  · intro w'
    go_simp
    with_reducible rfl
  rotate_left
  · simp only [Act.put, List.setIfInBounds_toArray, List.set_cons_zero, List.set_cons_succ, i64_w, i32_w]
    rfl
  refine pure_ (i := 2) (N := (some 29)) (v := ?_) (a' := ?_) #[true, true, true, false, false, false, false, false, false, false, false, false, false] rfl rfl (any_of HT_.out (by kernel_rfl)) (fun _ _ _ h => h) (Or.inl ⟨by rfl, ?_⟩) ?_ ?_
  rotate_left
  · intro w'
    go_simp
    with_reducible rfl
  rotate_left
  · simp only [Act.put, List.setIfInBounds_toArray, List.set_cons_zero, List.set_cons_succ, i64_w, i32_w]
    rfl
  refine take_ (i := 3) (N := (some 30)) (v := ?_) (a' := ?_) #[true, true, true, true, false, false, false, false, false, false, false, false, false] rfl rfl (take_ofW HT_.out HW_.out (by kernel_rfl)) (fun _ _ _ h => h) (Or.inl ⟨by rfl, ?_⟩) hHeld ?_ ?_
  rotate_left
  · rintro w' ⟨s0, s1, s2⟩
    go_simp
    with_reducible rfl
  rotate_left
  · simp only [Act.put, List.setIfInBounds_toArray, List.set_cons_zero, List.set_cons_succ, i64_w, i32_w]
    rfl
  refine pure_ (i := 4) (N := (some 31)) (v := ?_) (a' := ?_) #[true, true, true, true, true, false, false, false, false, false, false, false, false] rfl rfl (any_of HT_.out (by kernel_rfl)) (fun _ _ _ h => h) (Or.inl ⟨by rfl, ?_⟩) ?_ ?_
  rotate_left
  · intro w'
    go_simp
    with_reducible rfl
  rotate_left
  · simp only [Act.put, List.setIfInBounds_toArray, List.set_cons_zero, List.set_cons_succ, i64_w, i32_w]
    rfl
  refine take_ (i := 5) (N := (some 32)) (v := ?_) (a' := ?_) #[true, true, true, true, true, true, false, false, false, false, false, false, false] rfl rfl (take_ofW HT_.out HW_.out (by kernel_rfl)) (fun _ _ _ h => h) (Or.inl ⟨by rfl, ?_⟩) hHeld ?_ ?_
  rotate_left
  · rintro w' ⟨s0, s1, s2⟩
    go_simp
    with_reducible rfl
  rotate_left
  · simp only [Act.put, List.setIfInBounds_toArray, List.set_cons_zero, List.set_cons_succ, i64_w, i32_w]
    rfl
  refine pure_ (i := 6) (N := (some 33)) (v := ?_) (a' := ?_) #[true, true, true, true, true, true, true, false, false, false, false, false, false] rfl rfl (any_of HT_.out (by kernel_rfl)) (fun _ _ _ h => h) (Or.inl ⟨by rfl, ?_⟩) ?_ ?_
  rotate_left
  · intro w'
    go_simp
    with_reducible rfl
  rotate_left
  · simp only [Act.put, List.setIfInBounds_toArray, List.set_cons_zero, List.set_cons_succ, i64_w, i32_w]
    rfl
  refine pure_ (i := 7) (N := (some 34)) (v := ?_) (a' := ?_) #[true, true, true, true, true, true, true, true, false, false, false, false, false] rfl rfl (any_of HT_.out (by kernel_rfl)) (fun _ _ _ h => h) (Or.inl ⟨by rfl, ?_⟩) ?_ ?_
  rotate_left
  · intro w'
    go_simp
    with_reducible rfl
  rotate_left
  · simp only [Act.put, List.setIfInBounds_toArray, List.set_cons_zero, List.set_cons_succ, i64_w, i32_w]
    rfl
  refine pure_ (i := 8) (N := (some 35)) (v := ?_) (a' := ?_) #[true, true, true, true, true, true, true, true, true, false, false, false, false] rfl rfl (any_of HT_.out (by kernel_rfl)) (fun _ _ _ h => h) (Or.inl ⟨by rfl, ?_⟩) ?_ ?_
  rotate_left
  · intro w'
    go_simp
    with_reducible rfl
  rotate_left
  · simp only [Act.put, List.setIfInBounds_toArray, List.set_cons_zero, List.set_cons_succ, i64_w, i32_w]
    rfl
  refine pure_ (i := 9) (N := (some 36)) (v := ?_) (a' := ?_) #[true, true, true, true, true, true, true, true, true, true, false, false, false] rfl rfl (any_of HT_.out (by kernel_rfl)) (fun _ _ _ h => h) (Or.inl ⟨by rfl, ?_⟩) ?_ ?_
  rotate_left
  · intro w'
    go_simp
    with_reducible rfl
  rotate_left
  · simp only [Act.put, List.setIfInBounds_toArray, List.set_cons_zero, List.set_cons_succ, i64_w, i32_w]
    rfl
  refine take_ (i := 10) (N := (some 37)) (v := ?_) (a' := ?_) #[true, true, true, true, true, true, true, true, true, true, true, false, false] rfl rfl (take_ofW HT_.out HW_.out (by kernel_rfl)) (fun _ _ _ h => h) (Or.inl ⟨by rfl, ?_⟩) hHeld ?_ ?_
  rotate_left
  · rintro w' ⟨s0, s1, s2⟩
    go_simp
    with_reducible rfl
  rotate_left
  · simp only [Act.put, List.setIfInBounds_toArray, List.set_cons_zero, List.set_cons_succ, i64_w, i32_w]
    rfl
  refine pure_ (i := 11) (N := (some 38)) (v := ?_) (a' := ?_) #[true, true, true, true, true, true, true, true, true, true, true, true, false] rfl rfl (any_of HT_.out (by kernel_rfl)) (fun _ _ _ h => h) (Or.inl ⟨by rfl, ?_⟩) ?_ ?_
  rotate_left
  · intro w'
    go_simp
    with_reducible rfl
  rotate_left
  · simp only [Act.put, List.setIfInBounds_toArray, List.set_cons_zero, List.set_cons_succ, i64_w, i32_w]
    rfl
  refine last_ (i := 12) (N := none) #[true, true, true, true, true, true, true, true, true, true, true, true, true] rfl rfl (one_of HT_.out (by kernel_rfl)) (by decide) (fun K hK => ?_)
  obtain ⟨nn, ff, cc, hmp, hff, hnn⟩ := HB.out.mt_
  obtain ⟨w6, hrun_, hm6, hg6⟩ := msi_upd hmp (by have := HL.out; omega) t.s HSZ.out (N : Int) HNW.out 59 Tryz.underlying59
  refine skip_ (by rfl) rfl (w1 := w6) ?hrun ?_; (case hrun => first | (go_simp; done) | (go_simp; rfl))
  have n1_ := Aside0.mk (HB.out.mapT hm6 (HPL.out ff hff) (tm' := u.ts ++ [t.s]) (by rw [List.length_append]; exact Nat.succ_le_succ hnn) hg6)
  have n3_ := Aside0.mk (HF.out.map hg6)
  clear HB HF BK hmp hff hnn hm6 hg6 hrun_
  have HB := n1_
  have HF := n3_
  clear n1_ n3_
  refine hK.out _ _ ?_
  clear hK K
  refine done_ (done_of HT_.out (by kernel_rfl)) ?_
  go_wp2
  (first | go_end0 | refine bodyPost_ret (results_none rfl _ _ _) rfl ?_)
  rw [HR.out]
  exact ⟨rfl, _, HB.out, HF.out⟩
theorem b_term {W1 w : World} {b m : Nat} {x : Hd} {rs : List Ru} {B mt mn : Nat} {vT vN vS : Value} {u : Bu} (h : BS W1 w b m x rs B mt mn vT vN vS u u.ts u.ns) (t : Tk) (hsz : t.s.size ≤ 10000) (hu : u.ts.length ≤ 100000) (hp : placeS u.ts t.s = -1) :
    Calls Tryz.prog 122 #[.pointer (some ⟨B, 0, none⟩), tkV t] w (TermEnd W1 w b m x rs B mt mn vT vN vS u (termB t u.ts)) := by
  by_cases hl : 120 ≤ u.ts.length
  · exact b_term_full h t hsz hl hu
  · exact b_term_new h t hsz (by omega) hp
end Go.Proofs.YtliofoikejdjeaaGreat
