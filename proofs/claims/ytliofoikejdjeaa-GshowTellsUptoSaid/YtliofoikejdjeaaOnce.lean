/- slices.Grow of nil, slices.Concat of two, gram.once. -/
import Derived.Test.YtliofoikejdjeaaMap
import Derived.Test.YtliofoikejdjeaaWZeros
import Derived.Test.YtliofoikejdjeaaGram5
namespace Go.Proofs.Ytliofoikejdjeaa
open Go.RowKit Go.Proofs.YtliofoikejdjeaaW.PrintWords
set_option linter.unusedVariables false
set_option linter.unusedSimpArgs false
set_option maxHeartbeats 1000000 in
theorem grow_nil (n : Nat) (hn : n ≤ 8796093022207) (w : World) : Calls Try.prog 77 #[.slice none 0 0, .int .i64 n] w fun e w' => ∃ v, e = .returned v ∧ Kd.R Kd.string 9 w' w.heap.size (fun _ => True) v [] ∧ Below w.heap.size w w' := by
  by_cases h0 : n = 0
  · subst h0
    go_enter Try.func77, Try.ntmps77
    go_wp2
    go_ret
    exact ⟨_, rfl, Kd.R_nil _ _ _ _ _, Below.refl _ _⟩
  · have hp : (0 : Int) < n := by omega
    clear h0
    go_enter Try.func77, Try.ntmps77
    go_wp2_with (first | (at_builtin; refine Kd.R_append_zeros Kd.string (w0 := w) w.heap.size rfl (.tmp 20) (.tmp 21) 22 3 9 (.string ⟨#[]⟩) 16 rfl Try.underlying22 Try.underlying3 info9 rfl (by decide) (by omega) (.slice none 0 0) [] (⟨#[]⟩ : ByteArray) (n : Int) (fun _ => True) rfl rfl rfl (fun _ _ => trivial) (Kd.R_nil _ _ _ _ _) (by omega) (Below.refl _ _) (Nat.le_refl _) (by simp; omega) ?_; intro v1 w1 ho hb hg hat; (obtain ⟨A1, cap1, rfl, hle1, _⟩ := Kd.R_reads ho); have HT := Aside0.mk (Kd.R_take (m := 0) ho (Nat.zero_le _)); have HB := Aside0.mk hb; clear ho hb hg hat hle1))
    go_ret
    exact ⟨_, rfl, HT.out, HB.out⟩
set_option maxHeartbeats 2000000 in
theorem concat2 {w : World} {b : Nat} {A0 A1 : Option Addr} {c0 c1 : Nat} {xs ys : List ByteArray} (hb : w.heap[b]? = some (.cells #[.slice A0 xs.length c0, .slice A1 ys.length c1] 22 (0, 0))) (hx : Kd.C Kd.string w A0 xs.length xs) (hy : Kd.C Kd.string w A1 ys.length ys) (mx : xs.length ≤ 2199023255552) (my : ys.length ≤ 2199023255552) :
    Calls Try.prog 55 #[.slice (some ⟨b, 0, none⟩) 2 2] w fun e w' => ∃ v, e = .returned v ∧ Kd.R Kd.string 9 w' w.heap.size (fun _ => True) v (xs ++ ys) ∧ Below w.heap.size w w' := by
  have f0 : w.cell? ⟨b, 0, none⟩ = _ := blk_cell hb 0
  have f1 : w.cell? ⟨b, 1, none⟩ = _ := blk_cell hb 1
  have HX := Aside0.mk hx
  have HY := Aside0.mk hy
  have hlt := blk_lt hb
  clear hb hx hy
  have hgr := grow_nil (xs.length + ys.length) (by omega) w
  rw [show ((xs.length + ys.length : Nat) : Int) = (xs.length : Int) + ys.length from by omega] at hgr
  go_enter Try.func55, Try.ntmps55
  go_wp2
  refine wp_loop_rounds 3 ?_
  rw [rounds_succ]
  go_wp2
  rw [rounds_succ]
  go_wp2
  rw [rounds_succ]
  go_wp2_with (go_at_call 77; refine hgr.mono ?_; rintro e w1 ⟨v, rfl, ho1, hb1⟩)
  have g0 := (hb1.cell (p := ⟨b, 0, none⟩) hlt).trans f0
  have g1 := (hb1.cell (p := ⟨b, 1, none⟩) hlt).trans f1
  have HO1 := Aside0.mk ho1
  have HB1 := Aside0.mk hb1
  clear ho1 hb1 hgr f0 f1
  refine wp_loop_rounds 3 ?_
  rw [rounds_succ]
  go_wp2_with (first | (at_builtin; refine Kd.R_append_rows Kd.string (w0 := w) w.heap.size rfl (.tmp 31) (.tmp 32) 22 9 (.string ⟨#[]⟩) 16 rfl Try.underlying22 info9 rfl (by decide) (by omega) v [] xs A0 xs.length c0 (fun _ => True) (fun _ => False) rfl rfl HO1.out (Kd.C_below HX.out HB1.out) (fun _ _ h => h) (fun _ h => h.elim) (fun _ _ => trivial) HB1.out HB1.out.size (by simp; omega) ?_; intro v2 w2 ho2 hb2 hg2 hat2))
  have g0' := (hb2.cell (p := ⟨b, 0, none⟩) hlt).trans ((HB1.out.cell (p := ⟨b, 0, none⟩) hlt).symm.trans g0)
  have g1' := (hb2.cell (p := ⟨b, 1, none⟩) hlt).trans ((HB1.out.cell (p := ⟨b, 1, none⟩) hlt).symm.trans g1)
  have HO2 := Aside0.mk ho2
  have HB2 := Aside0.mk hb2
  clear ho2 hb2 hg2 hat2 g0 g1
  rw [rounds_succ]
  go_wp2_with (first | (at_builtin; refine Kd.R_append_rows Kd.string (w0 := w) w.heap.size rfl (.tmp 31) (.tmp 32) 22 9 (.string ⟨#[]⟩) 16 rfl Try.underlying22 info9 rfl (by decide) (by omega) v2 ([] ++ xs) ys A1 ys.length c1 (fun _ => True) (fun _ => False) rfl rfl HO2.out (Kd.C_below HY.out HB2.out) (fun _ _ h => h) (fun _ h => h.elim) (fun _ _ => trivial) HB2.out HB2.out.size (by simp; omega) ?_; intro v3 w3 ho3 hb3 hg3 hat3))
  rw [rounds_succ]
  have HO3 := Aside0.mk ho3
  have HB3 := Aside0.mk hb3
  clear ho3 hb3 hg3 hat3 g0' g1'
  go_wp2
  go_ret
  exact ⟨_, rfl, HO3.out, HB3.out⟩
def Gm.names (g : Gm) : List ByteArray := g.terms ++ g.nons
/-- What the map of names says behind k of them. -/
structure Met (l : List ByteArray) (k c : Nat) (f : ByteArray → Option Int) : Prop where
  mem : ∀ s, (f s).isSome = true ↔ s ∈ l.take k
  val : ∀ s q, f s = some q → 0 ≤ q ∧ q ≤ k
  le : c ≤ k
  dup : c = k ↔ (l.take k).Nodup
theorem Met.start (l : List ByteArray) : Met l 0 0 (fun _ => none) := ⟨fun s => by simp, fun s q h => by simp at h, Nat.le_refl _, by simp⟩
theorem Met.step {l : List ByteArray} {k c : Nat} {f : ByteArray → Option Int} (h : Met l k c f) (hk : k < l.length) :
    Met l (k + 1) (if (f (l.getD k default)).isSome then c else c + 1) (fun u => if u = l.getD k default then some ((f (l.getD k default)).getD 0 + 1) else f u) := by
  have hl : l.getD k default = l[k] := by rw [List.getD_eq_getElem?_getD, List.getElem?_eq_getElem hk]; rfl
  have ht : l.take (k + 1) = l.take k ++ [l[k]] := List.take_succ_eq_append_getElem hk
  rw [hl]
  refine ⟨fun s => ?_, fun s q hq => ?_, ?_, ?_⟩
  · by_cases e : s = l[k]
    · rw [ht, List.mem_append, List.mem_singleton, if_pos e]
      exact ⟨fun _ => .inr e, fun _ => rfl⟩
    · rw [ht, List.mem_append, List.mem_singleton, if_neg e, h.mem s]
      exact ⟨fun h => .inl h, fun h => h.resolve_right e⟩
  · by_cases e : s = l[k]
    · simp [e] at hq
      cases hf : f l[k] with
      | none => simp [hf] at hq; omega
      | some v => have := h.val _ _ hf; simp [hf] at hq; omega
    · simp [e] at hq
      have := h.val _ _ hq
      omega
  · have := h.le
    split <;> omega
  · rw [ht, List.nodup_append]
    by_cases e : (f l[k]).isSome = true
    · have hm := (h.mem _).1 e
      have := h.le
      rw [if_pos e]
      constructor
      · intro hc; omega
      · rintro ⟨_, _, hd⟩
        exact absurd rfl (hd _ hm _ (by simp))
    · have hm := mt (h.mem _).2 e
      rw [if_neg e]
      constructor
      · intro hc
        refine ⟨h.dup.1 (by omega), by simp, fun a ha b hb => ?_⟩
        rw [List.mem_singleton] at hb
        subst hb
        intro e2
        subst e2
        exact hm ha
      · rintro ⟨hn, _, _⟩
        have := h.dup.2 hn
        omega
set_option maxHeartbeats 2000000 in
theorem gram_once {w : World} {A0 A1 A2 : Option Addr} {c0 c1 c2 : Nat} {g : Gm} (h : GmAt w A0 A1 A2 c0 c1 c2 g) (m0 : g.terms.length ≤ 2199023255552) (m1 : g.nons.length ≤ 2199023255552) (hsz : ∀ s ∈ g.names, s.size ≤ 140737488351232) :
    Calls Try.prog 27 #[.agg (gv A0 A1 A2 c0 c1 c2 g)] w fun e w' => e = .returned (.bool (decide g.names.Nodup)) ∧ Below w.heap.size w w' := by
  have H := Aside0.mk h
  have HSZ := Aside0.mk hsz
  clear h hsz
  have hmm := @run_makeMap Try.prog
  unfold gv
  go_enter Try.func27, Try.ntmps27
  go_wp2_with fail
  have hb0 := below_alloc (below_alloc (below_alloc (Below.refl _ w) (.cells #[.slice A0 g.terms.length c0, .slice A1 g.nons.length c1, .slice A2 g.rules.length c2, .int .i64 g.start] 25)) (.map #[] 0)) (.cells #[.slice A0 g.terms.length c0, .slice A1 g.nons.length c1] 22)
  have hk0 := blk_alloc (blk_alloc (blk_new w (.cells #[.slice A0 g.terms.length c0, .slice A1 g.nons.length c1, .slice A2 g.rules.length c2, .int .i64 g.start] 25)) (.map #[] 0)) (.cells #[.slice A0 g.terms.length c0, .slice A1 g.nons.length c1] 22)
  have hms := (MapSI.made (w.alloc (.cells #[.slice A0 g.terms.length c0, .slice A1 g.nons.length c1, .slice A2 g.rules.length c2, .int .i64 g.start] 25))).below (below_alloc (Below.refl _ _) (.cells #[.slice A0 g.terms.length c0, .slice A1 g.nons.length c1] 22))
  have hbs := blk_new ((w.alloc (.cells #[.slice A0 g.terms.length c0, .slice A1 g.nons.length c1, .slice A2 g.rules.length c2, .int .i64 g.start] 25)).alloc (.map #[] 0)) (.cells #[.slice A0 g.terms.length c0, .slice A1 g.nons.length c1] 22)
  simp only [World.size_alloc] at hms hbs
  generalize ((w.alloc (.cells #[.slice A0 g.terms.length c0, .slice A1 g.nons.length c1, .slice A2 g.rules.length c2, .int .i64 g.start] 25)).alloc (.map #[] 0)).alloc (.cells #[.slice A0 g.terms.length c0, .slice A1 g.nons.length c1] 22) = W0 at *
  refine (concat2 hbs (Kd.C_below H.out.terms hb0) (Kd.C_below H.out.nons hb0) m0 m1).mono ?_
  rintro e w1 ⟨v, rfl, ho1, hb1⟩
  obtain ⟨A, cap, rfl, hle, hC⟩ := Kd.R_reads ho1
  have HB1 := Aside0.mk (hb0.trans (hb1.mono hb0.size))
  have HK1 := Aside0.mk (blk_below hk0 hb1)
  have HM1 := Aside0.mk (hms.below hb1)
  have HC := Aside0.mk hC
  have hmm1 := blk_lt hbs
  have hlt1 := hb1.size
  clear ho1 hb0 hk0 hms hbs hC hle hmm
  have hN : g.terms ++ g.nons = g.names := rfl
  rw [hN] at HC ⊢
  have hNl : g.names.length = g.terms.length + g.nons.length := by unfold Gm.names; rw [List.length_append]
  go_wp2_with fail
  go_loopw [5, 14] (fun _ i wr => ∃ (k c : Nat) (f : ByteArray → Option Int), k ≤ g.names.length ∧ i = .int .i64 k ∧ Aside0 (Below w.heap.size w wr) ∧ Aside0 (wr.heap[w.heap.size]? = some (.cells #[.slice A0 g.terms.length c0, .slice A1 g.nons.length c1, .slice A2 g.rules.length c2, .int .i64 g.start] 25 (0, 0))) ∧ Aside0 (MapSI wr (w.heap.size + 1) k f c) ∧ Aside0 (Met g.names k c f) ∧ Aside0 (Kd.C Kd.string wr A g.names.length g.names)) (fun _ i _ => g.names.length - (intOf i).toNat)
  case atStart => exact ⟨0, 0, _, Nat.zero_le _, rfl, HB1, HK1, HM1, ⟨Met.start _⟩, HC⟩
  case round =>
    clear HB1 HK1 HM1 HC
    obtain ⟨k, c, f, hk, rfl, HB, HK, HM, HT, HC⟩ := hrel
    by_cases hkl : k < g.names.length
    · have hkz : (k : Int) < (g.terms.length : Int) + g.nons.length := by omega
      obtain ⟨ad, rfl, l2⟩ := at_str HC.out k hkl
      have hss := HSZ.out (g.names.getD k default) (by rw [List.getD_eq_getElem?_getD, List.getElem?_eq_getElem hkl]; exact List.getElem_mem hkl)
      have HST := Aside0.mk (HT.out.step hkl)
      have hv1 : 0 ≤ (f (g.names.getD k default)).getD 0 ∧ (f (g.names.getD k default)).getD 0 ≤ k := by
        cases hf : f (g.names.getD k default) with
        | none => exact ⟨Int.le_refl _, by show (0 : Int) ≤ k; omega⟩
        | some q => exact HT.out.val _ _ hf
      obtain ⟨y, hy⟩ : ∃ y, g.names.getD k default = y := ⟨_, rfl⟩
      rw [hy] at l2 hss HST hv1
      clear hy
      obtain ⟨q, hq⟩ : ∃ q, (f y).getD 0 = q := ⟨_, rfl⟩
      have HQ := Aside0.mk hq
      rw [hq] at hv1
      clear hq
      obtain ⟨hv1, hv2⟩ := hv1
      obtain ⟨es, clock, hmap⟩ := HM.out.map_
      have HMAP := Aside0.mk hmap
      clear hmap
      go_wp2_with (first | (at_lookup; refine msi_lookup rfl _ _ 62 rfl Try.underlying62 rfl HM.out y rfl hss ?_; rw [HQ.out]) | (refine msi_update rfl (.tmp 18) (.tmp 19) (.tmp 21) 62 rfl Try.underlying62 rfl HM.out (by omega) y rfl hss (q + 1) rfl (WalkArith.wf_i64 (by omega)) ?_; intro w2 hm2 hg2))
      go_roundw
      case rel =>
        refine ⟨k + 1, _, _, by omega, by go_num, ⟨HB.out.grown hg2 (by have := HB.out.size; omega) (by intro b hb; injection hb with hb; omega)⟩, ⟨blk_grown HK.out hg2 (by intro e; injection e with e; omega)⟩, ⟨hm2⟩, ?_, ⟨C_str_map HMAP.out hg2 HC.out⟩⟩
        rw [← HQ.out]
        exact HST
      case measure => simp [intOf]; omega
    · have hkz : ¬ (k : Int) < (g.terms.length : Int) + g.nons.length := by omega
      have hkl2 : k = g.names.length := by omega
      have ht := gram_Top (H.out.below HB.out)
      have f0 : wr.cell? ⟨w.heap.size, 0, none⟩ = _ := blk_cell HK.out 0
      have f1 : wr.cell? ⟨w.heap.size, 1, none⟩ = _ := blk_cell HK.out 1
      have f2 : wr.cell? ⟨w.heap.size, 2, none⟩ = _ := blk_cell HK.out 2
      have f3 : wr.cell? ⟨w.heap.size, 3, none⟩ = _ := blk_cell HK.out 3
      unfold gv at ht
      have HKL := Aside0.mk hkl2
      clear hkl2 hkl
      go_wp2_with (first | (at_len; refine msi_len rfl _ 62 rfl Try.underlying62 rfl HM.out ?_) | (go_at_call 33; refine ht.mono ?_; rintro e w2 ⟨rfl, hb2⟩))
      go_ret
      refine ⟨rbool ?_, HB.out.trans (hb2.mono HB.out.size)⟩
      have hd := HT.out.dup
      rw [HKL.out, List.take_length] at hd
      rw [Bool.eq_iff_iff]
      simp only [beq_iff_eq, decide_eq_true_eq]
      rw [← hd]
      unfold Gm.top
      omega
end Go.Proofs.Ytliofoikejdjeaa
