/- GshowBack holds: for every grammar the law answers true; the grammar reads as it did. No condition of the row's own. -/
import Derived.Test.YtliofoikejdjeaaGreatV12
import Derived.Test.YtliofoikejdjeaaGreatWTab
import Derived.RegionTactic
import Derived.Test.YtliofoikejdjeaaGreatV2
import Derived.Test.YtliofoikejdjeaaGreatV3
import Derived.Test.YtliofoikejdjeaaGreatV4
import Derived.Test.YtliofoikejdjeaaGreatV8
import Derived.Test.YtliofoikejdjeaaGreatRows
import Derived.WalkKit
import Derived.ProofKit
import Derived.OpenShut
import Derived.JoinedCond
import Derived.JoinedOf
import Derived.Below
import Derived.Carry
import Derived.Handed
import Derived.HandedShaped
import Derived.LaidLaws
import Derived.LaidHandle
import Derived.Shelf.Vars
import Derived.SizedLaws
import Derived.SliceStrings
import Derived.Lib.SmallJoins
import Derived.Deep.SlicePairs
import Derived.LaidMore
/- gread.Parse: the walk. -/
namespace Go.Proofs.YtliofoikejdjeaaGreat
open Go.RowKit Go.Proofs.YtliofoikejdjeaaGreatW.PrintWords Go.Proofs.YtliofoikejdjeaaGreatW.PrintLast
set_option linter.unusedVariables false
set_option linter.unusedSimpArgs false

def ParseEnd (w : World) (R : Except Ft Gm) (e : Ending) (w' : World) : Prop :=
  Below w.heap.size w w' ∧ match R with
  | .error f => ∃ v, e = .returned (.tuple #[.agg #[.slice none 0 0, .slice none 0 0, .slice none 0 0, .int .i64 0], v]) ∧ ErrIs w' v f.1 f.2
  | .ok g => ∃ A0 A1 A2 c0 c1 c2, e = .returned (.tuple #[.agg (gv A0 A1 A2 c0 c1 c2 g), .nilIface]) ∧ ∀ w'', (∀ k, w.heap.size ≤ k → k < w'.heap.size → w''.heap[k]? = w'.heap[k]?) → GmAt w'' A0 A1 A2 c0 c1 c2 g
theorem ErrIs.set_ {w : World} {v : Value} {c p : Int} (h : ErrIs w v c p) {g : Nat} {cs : Array Value} {t : TypeId} (hk : w.heap[g]? = some (.cells cs t (0, 0))) (ht : t ≠ 88) (i : Nat) (x : Value) : ErrIs (w.setCell ⟨g, i, none⟩ x) v c p := by
  rcases h with h | ⟨h0, b, e, hc⟩
  · exact .inl h
  · refine .inr ⟨h0, b, e, blk_far (p := ⟨g, i, none⟩) hc (fun e => ?_) x⟩
    subst e
    rw [hk] at hc
    injection hc with hc
    injection hc with _ hc
    exact ht hc
/-- The reader's state ahead of all. -/
theorem HS.start {W0 : World} {l : List Tk} {A : Option Addr} {c : Nat} (hC : Kd.C kTk W0 A l.length l) (hc : l.length ≤ c) (hp : 0 < l.length) :
    HS W0 ((W0.alloc (.map #[] 0)).alloc (.cells #[.slice A l.length c, .slice none 0 0, .slice none 0 0, .slice none 0 0, .slice none 0 0, .map (some W0.heap.size)] 62 (0, 0))) (W0.heap.size + 1) l (.slice none 0 0) (.slice none 0 0) (.slice none 0 0) (.slice none 0 0) W0.heap.size 0 (fun _ => none) 0 [] [] [] := by
  have hb := below_alloc (below_alloc (Below.refl W0.heap.size W0) (.map #[] 0)) (.cells #[.slice A l.length c, .slice none 0 0, .slice none 0 0, .slice none 0 0, .slice none 0 0, .map (some W0.heap.size)] 62 (0, 0))
  have hn := blk_new (W0.alloc (.map #[] 0)) (.cells #[.slice A l.length c, .slice none 0 0, .slice none 0 0, .slice none 0 0, .slice none 0 0, .map (some W0.heap.size)] 62 (0, 0))
  rw [show (W0.alloc (.map #[] 0)).heap.size = W0.heap.size + 1 from by simp] at hn
  obtain ⟨ad, ea, _⟩ := hC.2.2 hp
  subst ea
  exact ⟨⟨hb, Nat.le_succ _, ⟨ad, c, hn, hc, hC⟩, hp⟩, Kd.R_nil _ _ _ _ _, Kd.R_nil _ _ _ _ _, Kd.R_nil _ _ _ _ _, (MapSI.made W0).below (below_alloc (Below.refl _ _) _), Nat.le_refl _⟩
/-- The builder's state ahead of all. -/
theorem BS.start {W1 : World} {b m : Nat} {x : Hd} {rs : List Ru} (h : RdR W1 b m x rs) :
    BS W1 (((W1.alloc (.map #[] 0)).alloc (.map #[] 0)).alloc (.cells #[.pointer (some ⟨b, 0, none⟩), .map (some W1.heap.size), .map (some (W1.heap.size + 1)), .slice none 0 0, .slice none 0 0, .slice none 0 0, .int .i64 0, .slice none 0 0] 66 (0, 0))) b m x rs (W1.heap.size + 1 + 1) W1.heap.size (W1.heap.size + 1) (.slice none 0 0) (.slice none 0 0) (.slice none 0 0) ⟨[], [], []⟩ [] [] := by
  have hn := blk_new ((W1.alloc (.map #[] 0)).alloc (.map #[] 0)) (.cells #[.pointer (some ⟨b, 0, none⟩), .map (some W1.heap.size), .map (some (W1.heap.size + 1)), .slice none 0 0, .slice none 0 0, .slice none 0 0, .int .i64 0, .slice none 0 0] 66 (0, 0))
  rw [show ((W1.alloc (.map #[] 0)).alloc (.map #[] 0)).heap.size = W1.heap.size + 1 + 1 from by simp] at hn
  have h2 := MapSI.made (W1.alloc (.map #[] 0))
  rw [show (W1.alloc (.map #[] 0)).heap.size = W1.heap.size + 1 from by simp] at h2
  exact ⟨h, below_alloc (below_alloc (below_alloc (Below.refl _ _) _) _) _, by omega, hn, Kd.R_nil _ _ _ _ _, Kd.R_nil _ _ _ _ _, Kd.R_nil _ _ _ _ _,
    ⟨0, _, 0, ((MapSI.made W1).below (below_alloc (Below.refl _ _) _)).below (below_alloc (Below.refl _ _) _), fun s => rfl, Nat.le_refl _⟩,
    ⟨0, _, 0, h2.below (below_alloc (Below.refl _ _) _), fun s => rfl, Nat.le_refl _⟩, Nat.le_refl _, Nat.le_succ _, by omega⟩
theorem P1End.below {w w4 w' : World} {e p : Int} (h : P1End w4 w.heap.size (w.heap.size + 1) e p w') (hb : Below w.heap.size w w4) : Below w.heap.size w w' := by
  obtain ⟨v', _, _, _, hsz, hbl, h1, h2, h3⟩ := h
  exact ⟨h1.trans hb.os, h2.trans hb.tape, h3.trans hb.output, Nat.le_trans hb.size hsz, fun k hk => (hbl k (Nat.lt_of_lt_of_le hk hb.size) (by omega) (by omega)).trans (hb.block k hk)⟩
theorem parse_all {s : ByteArray} (h : (allS s).2.1 ≠ 0) : parseS s = .error (allS s).2 := by unfold parseS; rw [if_pos h]
theorem parse_form {s : ByteArray} (h : (allS s).2.1 = 0) : parseS s = match formS (allS s).1 with | .error e => .error e | .ok (x, rs) => buildB x rs := by
  unfold parseS
  rw [if_neg (by simp [h])]
  cases formS (allS s).1 <;> rfl
set_option maxHeartbeats 8000000 in
set_option maxRecDepth 100000 in
theorem gread_Parse (s : ByteArray) (hs : s.size ≤ 140737488351232) {w : World} (hm : MxAt w) :
    Calls Tryz.prog 10 #[.string s] w (ParseEnd w (parseS s)) := by
  have hmf : ∀ (fn : Fn) (first cap : Array Value) (w : World), (Instr.makeFunc fn first cap).run Tryz.prog w = .ok (.func fn first cap) w := fun _ _ _ _ => rfl
  have hb2 := below_alloc (below_alloc (Below.refl w.heap.size w) (.cells #[.slice none 0 0, .slice none 0 0, .slice none 0 0, .int .i64 0] 25 (0, 0))) (.cells #[.nilIface] 33 (0, 0))
  have hk0 := blk_alloc (blk_new w (.cells #[.slice none 0 0, .slice none 0 0, .slice none 0 0, .int .i64 0] 25 (0, 0))) (.cells #[.nilIface] 33 (0, 0))
  have hk1 := blk_new (w.alloc (.cells #[.slice none 0 0, .slice none 0 0, .slice none 0 0, .int .i64 0] 25 (0, 0))) (.cells #[.nilIface] 33 (0, 0))
  rw [show (w.alloc (.cells #[.slice none 0 0, .slice none 0 0, .slice none 0 0, .int .i64 0] 25 (0, 0))).heap.size = w.heap.size + 1 from by simp] at hk1
  have HALL := Aside0.mk (gtok_All s hs (hm.below hb2))
  have HB0 := Aside0.mk hb2
  have HNE : Aside0 ((w.heap.size + 1) ≠ w.heap.size) := ⟨by omega⟩
  have HG0 : Aside0 (w.heap.size ≤ w.heap.size) := ⟨by omega⟩
  have HG1 : Aside0 (w.heap.size ≤ (w.heap.size + 1)) := ⟨by omega⟩
  have HK0 := Aside0.mk hk0
  have HK1 := Aside0.mk hk1
  clear hm hb2 hk0 hk1
  by_cases hc : (allS s).2.1 = 0
  · obtain ⟨l, hl⟩ : ∃ l, (allS s).1 = l := ⟨_, rfl⟩
    have hpf := parse_form hc
    obtain ⟨t1, t2, t3⟩ := all_fine hc
    rw [hl] at HALL hpf t1 t2 t3
    have HPF := Aside0.mk hpf
    have HT1 := Aside0.mk t1
    have HT2 := Aside0.mk (fun t (h : t ∈ l) => Nat.le_trans (t2 t h) (by decide : 8192 ≤ 10000))
    have HT3 := Aside0.mk (Nat.le_trans t3 (by decide : 8193 ≤ 10000))
    have HT4 := Aside0.mk t3
    have HLP : Aside0 (0 < l.length) := ⟨by obtain ⟨l0, t, e, _⟩ := t1; rw [e]; simp⟩
    rw [hc] at HALL
    clear hc hl hpf t1 t2 t3
    go_enter_defers Tryz.func10, Tryz.ntmps10
    go_upto_region 4 with (go_at_call 26; ((with_reducible refine HALL.out.mono ?_); rintro e w2 ⟨vs, v, rfl, hv, ho, hb⟩; have H0 := Aside0.mk (blk_below HK0.out hb); have H1 := Aside0.mk (blk_below HK1.out hb); have HB := Aside0.mk (HB0.out.trans (hb.mono HB0.out.size)); have k1 := (blk_cell H1.out 0).trans rfl; have y1 := blk_frozen H1.out 0; obtain rfl := hv.nil; have HO := Aside0.mk (Kd.R_set ho H1.out (by decide) 0 .nilIface); obtain ⟨A, c, eA, lA, CA⟩ := Kd.R_reads HO.out; subst eA; have HCA := Aside0.mk CA; have HLA := Aside0.mk lA; clear hv ho hb CA lA HO))
    have n0_ := Aside0.mk (blk_far (p := ⟨(w.heap.size + 1), 0, none⟩) H0.out (Ne.symm HNE.out) .nilIface)
    have n1_ := Aside0.mk (blk_set H1.out 0 .nilIface)
    have n2_ := Aside0.mk (HB.out.setCell (p := ⟨(w.heap.size + 1), 0, none⟩) HG1.out .nilIface)
    generalize World.setCell w2 _ _ = w3 at n0_ n1_ n2_ HCA ⊢
    clear H0 H1 HB k1 y1
    have H0 := n0_
    have H1 := n1_
    have HB := n2_
    clear n0_ n1_ n2_ HALL HK0 HK1 HB0
    have HST := Aside0.mk (HS.start HCA.out HLA.out HLP.out)
    have HFO := Aside0.mk (rd_form HST.out HT1.out HT2.out HT3.out)
    have hmk := @run_makeMap Tryz.prog
    obtain ⟨R, hR⟩ : ∃ R, formS l = R := ⟨_, rfl⟩
    rw [hR] at HFO HPF
    have HR := Aside0.mk hR
    clear hR
    cases R with
    | error f =>
      have HPV : Aside0 (parseS s = .error f) := ⟨HPF.out⟩
      go_wp2_with (go_at_call 29; ((with_reducible refine HFO.out.mono ?_); rintro e w4 ⟨⟨older, rfl, ho⟩, hb⟩))
      refine leaves_cons (f := 27) (args := #[.pointer (some ⟨w.heap.size, 0, none⟩), .pointer (some ⟨(w.heap.size + 1), 0, none⟩)]) (by simp) (by simp [go_sem]) ?_
      refine (parse1_panic (blk_below H0.out hb) (blk_below H1.out hb) (e := f.1) (p := f.2) (form_err HR.out) older).mono ?_
      rintro e u'' w'' ⟨rfl, rfl, hp⟩
      have hBW := P1End.below hp (HB.out.trans (hb.mono HB.out.size))
      obtain ⟨v', q0, q1, hv, _⟩ := hp
      show Leaves _ _ _ _ [] (settle _) _
      rw [show settle (.panicking ({ v := .iface 56 (.agg #[.int .i64 f.1, .int .i64 f.2]), recovered := true } :: older)) = .returning from by simp [settle, ho]]
      refine ⟨_, results_ci (fn := Tryz.f10) rfl _ _ w.heap.size (w.heap.size + 1) 25 _ (0, 0) _ _ _ rfl q0 Tryz.underlying25 rfl (by kernel_rfl) rfl ((blk_cell q1 0).trans rfl) Tryz.underlying33 rfl, ?_⟩
      rw [HPV.out]
      exact ⟨hBW, _, rfl, hv⟩
    | ok p =>
      obtain ⟨x, rs⟩ := p
      have HFF := Aside0.mk (form_fine HR.out HT1.out)
      have HPV : Aside0 (parseS s = buildB x rs) := ⟨HPF.out⟩
      go_upto_region 7 with (go_at_call 29; ((with_reducible refine HFO.out.mono ?_); rintro e w4 ⟨rfl, l', v1, v2, v3, v4, hrs⟩; have HRD := Aside0.mk hrs.read; have HB4 := Aside0.mk hrs.rl.below; clear hrs))
      have n0_ := Aside0.mk (blk_below H0.out HB4.out)
      have n1_ := Aside0.mk (blk_below H1.out HB4.out)
      have n2_ := Aside0.mk (HB.out.trans (HB4.out.mono HB.out.size))
      clear H0 H1 HB HST HFO HCA HLA HB4
      have H0 := n0_
      have H1 := n1_
      have HB := n2_
      clear n0_ n1_ n2_
      have HBU := Aside0.mk (b_build (BS.start HRD.out) (by have := HFF.out.dlen; have := HT3.out; omega) (fun z hz => HT2.out z (HFF.out.dec z hz)) (fun z hz => HT2.out z (HFF.out.sta z hz)) (fun hn e => hn (List.eq_nil_of_length_eq_zero (by rw [HFF.out.par, e]; rfl))) (by have := HFF.out.rlen; have := HT3.out; have := HT4.out; omega) (fun r hr => ⟨HT2.out _ (HFF.out.rin r hr).1, by have := (HFF.out.rin r hr).2.1; have := HT3.out; omega, fun s hs => ⟨by have := ((HFF.out.rin r hr).2.2 s hs).1; have := HT3.out; omega, fun t ht => HT2.out t (((HFF.out.rin r hr).2.2 s hs).2 t ht)⟩⟩))
      obtain ⟨R2, hR2⟩ : ∃ R, buildB x rs = R := ⟨_, rfl⟩
      rw [hR2] at HBU HPV
      have HR2 := Aside0.mk hR2
      clear hR2
      cases R2 with
      | error f =>
        go_wp2_with (go_at_call 30; ((with_reducible refine HBU.out.mono ?_); rintro e w5 ⟨⟨older, rfl, ho⟩, hb⟩))
        refine leaves_cons (f := 27) (args := #[.pointer (some ⟨w.heap.size, 0, none⟩), .pointer (some ⟨(w.heap.size + 1), 0, none⟩)]) (by simp) (by simp [go_sem]) ?_
        refine (parse1_panic (blk_below H0.out hb) (blk_below H1.out hb) (e := f.1) (p := f.2) (build_errB HR2.out) older).mono ?_
        rintro e u'' w'' ⟨rfl, rfl, hp⟩
        have hBW := P1End.below hp (HB.out.trans (hb.mono HB.out.size))
        obtain ⟨v', q0, q1, hv, _⟩ := hp
        show Leaves _ _ _ _ [] (settle _) _
        rw [show settle (.panicking ({ v := .iface 56 (.agg #[.int .i64 f.1, .int .i64 f.2]), recovered := true } :: older)) = .returning from by simp [settle, ho]]
        refine ⟨_, results_ci (fn := Tryz.f10) rfl _ _ w.heap.size (w.heap.size + 1) 25 _ (0, 0) _ _ _ rfl q0 Tryz.underlying25 rfl (by kernel_rfl) rfl ((blk_cell q1 0).trans rfl) Tryz.underlying33 rfl, ?_⟩
        rw [HPV.out]
        exact ⟨hBW, _, rfl, hv⟩
      | ok g =>
        go_wp2_with (go_at_call 30; ((with_reducible refine HBU.out.mono ?_); rintro e w5 ⟨A0, A1, A2, c0, c1, c2, rfl, hgm, hb⟩; have HGM := Aside0.mk hgm; have n0_ := Aside0.mk (blk_below H0.out hb); have n1_ := Aside0.mk (blk_below H1.out hb); have n2_ := Aside0.mk (HB.out.trans (hb.mono HB.out.size)); have HW4 := Aside0.mk (show w.heap.size + 1 < w4.heap.size from blk_lt H1.out); clear H0 H1 HB hgm hb; have H0 := n0_; have H1 := n1_; have HB := n2_; clear n0_ n1_ n2_; have x0 := (blk_cell H1.out 0).trans rfl; have u0 := blk_frozen H1.out 0; have z0 := (blk_cell H0.out 0).trans rfl; have z1 := (blk_cell H0.out 1).trans rfl; have z2 := (blk_cell H0.out 2).trans rfl; have z3 := (blk_cell H0.out 3).trans rfl; have y0 := blk_frozen H0.out 0; have y1 := blk_frozen H0.out 1; have y2 := blk_frozen H0.out 2; have y3 := blk_frozen H0.out 3; unfold gv))
        refine leaves_cons (f := 27) (args := #[.pointer (some ⟨w.heap.size, 0, none⟩), .pointer (some ⟨(w.heap.size + 1), 0, none⟩)]) (by simp) (by simp [go_sem]) ?_
        refine parse1_ret.mono ?_
        rintro e u'' w'' ⟨rfl, rfl, rfl⟩
        have e0 := blk_set (blk_set (blk_set (blk_set H0.out 0 (.slice A0 g.terms.length c0)) 1 (.slice A1 g.nons.length c1)) 2 (.slice A2 g.rules.length c2)) 3 (.int .i64 g.start)
        have e1 := blk_far (p := ⟨w.heap.size, 3, none⟩) (blk_far (p := ⟨w.heap.size, 2, none⟩) (blk_far (p := ⟨w.heap.size, 1, none⟩) (blk_far (p := ⟨w.heap.size, 0, none⟩) H1.out HNE.out (.slice A0 g.terms.length c0)) HNE.out (.slice A1 g.nons.length c1)) HNE.out (.slice A2 g.rules.length c2)) HNE.out (.int .i64 g.start)
        have e2 := (((HB.out.setCell (p := ⟨w.heap.size, 0, none⟩) HG0.out (.slice A0 g.terms.length c0)).setCell (p := ⟨w.heap.size, 1, none⟩) HG0.out (.slice A1 g.nons.length c1)).setCell (p := ⟨w.heap.size, 2, none⟩) HG0.out (.slice A2 g.rules.length c2)).setCell (p := ⟨w.heap.size, 3, none⟩) HG0.out (.int .i64 g.start)
        have d0 := blk_far (p := ⟨(w.heap.size + 1), 0, none⟩) e0 (Ne.symm HNE.out) .nilIface
        have d1 := blk_set e1 0 .nilIface
        have d2 := e2.setCell (p := ⟨(w.heap.size + 1), 0, none⟩) HG1.out .nilIface
        refine ⟨_, results_ci (fn := Tryz.f10) rfl _ _ w.heap.size (w.heap.size + 1) 25 _ (0, 0) _ _ _ rfl d0 Tryz.underlying25 rfl (by kernel_rfl) rfl ((blk_cell d1 0).trans rfl) Tryz.underlying33 rfl, ?_⟩
        rw [HPV.out]
        refine ⟨d2, A0, A1, A2, c0, c1, c2, rfl, fun w'' hfar => HGM.out _ (fun k hk hk2 => ?_)⟩
        have hw := HW4.out
        have n0 : k ≠ w.heap.size := by omega
        have n1 : k ≠ (w.heap.size + 1) := by omega
        refine (hfar k (by omega) (by simpa using hk2)).trans ?_
        exact (Below.heap_setCell _ ⟨(w.heap.size + 1), 0, none⟩ _ k n1).trans ((Below.heap_setCell _ ⟨w.heap.size, 3, none⟩ _ k n0).trans ((Below.heap_setCell _ ⟨w.heap.size, 2, none⟩ _ k n0).trans ((Below.heap_setCell _ ⟨w.heap.size, 1, none⟩ _ k n0).trans (Below.heap_setCell _ ⟨w.heap.size, 0, none⟩ _ k n0))))
  · have HR := Aside0.mk (parse_all hc)
    have HC := Aside0.mk hc
    clear hc
    go_enter_defers Tryz.func10, Tryz.ntmps10
    go_wp2_with (go_at_call 26; ((with_reducible refine HALL.out.mono ?_); rintro e w2 ⟨vs, v, rfl, hv, ho, hb⟩; have H0 := Aside0.mk (blk_below HK0.out hb); have H1 := Aside0.mk (blk_below HK1.out hb); have HV := Aside0.mk hv; have HB := Aside0.mk (HB0.out.trans (hb.mono HB0.out.size)); have k1 := (blk_cell H1.out 0).trans rfl; have y1 := blk_frozen H1.out 0; obtain ⟨b2, eb⟩ := hv.some_ HC.out; subst eb; clear hv ho hb))
    have n0_ := Aside0.mk (blk_far (p := ⟨(w.heap.size + 1), 0, none⟩) H0.out (Ne.symm HNE.out) (.iface 86 (.pointer (some ⟨b2, 0, none⟩))))
    have n1_ := Aside0.mk (blk_set H1.out 0 (.iface 86 (.pointer (some ⟨b2, 0, none⟩))))
    have n2_ := Aside0.mk (HB.out.setCell (p := ⟨(w.heap.size + 1), 0, none⟩) HG1.out (.iface 86 (.pointer (some ⟨b2, 0, none⟩))))
    have n3_ := Aside0.mk (HV.out.set_ H1.out (by decide) 0 (.iface 86 (.pointer (some ⟨b2, 0, none⟩))))
    generalize World.setCell w2 _ _ = w3 at n0_ n1_ n2_ n3_ ⊢
    clear H0 H1 HB HV k1 y1
    have H0 := n0_
    have H1 := n1_
    have HB := n2_
    have HV := n3_
    clear n0_ n1_ n2_ n3_
    have x0 := (blk_cell H1.out 0).trans rfl
    have v0 := blk_frozen H1.out 0
    have z0 := (blk_cell H0.out 0).trans rfl
    have z1 := (blk_cell H0.out 1).trans rfl
    have z2 := (blk_cell H0.out 2).trans rfl
    have z3 := (blk_cell H0.out 3).trans rfl
    have y0 := blk_frozen H0.out 0
    have y1 := blk_frozen H0.out 1
    have y2 := blk_frozen H0.out 2
    have y3 := blk_frozen H0.out 3
    have e0 := blk_set (blk_set (blk_set (blk_set H0.out 0 (.slice none 0 0)) 1 (.slice none 0 0)) 2 (.slice none 0 0)) 3 (.int .i64 0)
    have e1 := blk_far (p := ⟨w.heap.size, 3, none⟩) (blk_far (p := ⟨w.heap.size, 2, none⟩) (blk_far (p := ⟨w.heap.size, 1, none⟩) (blk_far (p := ⟨w.heap.size, 0, none⟩) H1.out HNE.out (.slice none 0 0)) HNE.out (.slice none 0 0)) HNE.out (.slice none 0 0)) HNE.out (.int .i64 0)
    have e2 := (((HB.out.setCell (p := ⟨w.heap.size, 0, none⟩) HG0.out (.slice none 0 0)).setCell (p := ⟨w.heap.size, 1, none⟩) HG0.out (.slice none 0 0)).setCell (p := ⟨w.heap.size, 2, none⟩) HG0.out (.slice none 0 0)).setCell (p := ⟨w.heap.size, 3, none⟩) HG0.out (.int .i64 0)
    have e3 := (((HV.out.set_ H0.out (by decide) 0 (.slice none 0 0)).set_ (blk_set H0.out 0 (.slice none 0 0)) (by decide) 1 (.slice none 0 0)).set_ (blk_set (blk_set H0.out 0 (.slice none 0 0)) 1 (.slice none 0 0)) (by decide) 2 (.slice none 0 0)).set_ (blk_set (blk_set (blk_set H0.out 0 (.slice none 0 0)) 1 (.slice none 0 0)) 2 (.slice none 0 0)) (by decide) 3 (.int .i64 0)
    have d0 := Aside0.mk (blk_drew (blk_far (p := ⟨(w.heap.size + 1), 0, none⟩) e0 (Ne.symm HNE.out) (.iface 86 (.pointer (some ⟨b2, 0, none⟩)))))
    have d1 := Aside0.mk (blk_drew (blk_set e1 0 (.iface 86 (.pointer (some ⟨b2, 0, none⟩)))))
    have d2 := Aside0.mk (below_drew (e2.setCell (p := ⟨(w.heap.size + 1), 0, none⟩) HG1.out (.iface 86 (.pointer (some ⟨b2, 0, none⟩)))))
    have d3 := Aside0.mk ((e3.set_ e1 (by decide) 0 (.iface 86 (.pointer (some ⟨b2, 0, none⟩)))).below (below_drew (Below.refl _ _)))
    clear e0 e1 e2 e3
    go_region
    all_goals
      go_wp2
      refine ⟨_, results_ci (fn := Tryz.f10) rfl _ _ w.heap.size (w.heap.size + 1) 25 _ (0, 0) _ _ _ rfl d0.out Tryz.underlying25 rfl (by kernel_rfl) rfl ((blk_cell d1.out 0).trans rfl) Tryz.underlying33 rfl, ?_⟩
      rw [HR.out]
      exact ⟨d2.out, _, rfl, d3.out⟩
end Go.Proofs.YtliofoikejdjeaaGreat
/- The law GshowBack, walked. -/
namespace Go.Proofs.YtliofoikejdjeaaGreat
open Go.RowKit Go.Proofs.YtliofoikejdjeaaGreatW.PrintWords
set_option linter.unusedVariables false
set_option linter.unusedSimpArgs false
set_option maxRecDepth 100000
theorem term_size {x : ByteArray} (h : termOk x = true) : x.size ≤ 24 := by
  unfold termOk at h
  by_cases hp : plainOk x = true
  · exact (plain_name hp).2
  · have hq : isQuoted x = true := by simpa [hp] using h
    obtain ⟨q1, q2, q3, q4⟩ := quoted_facts hq
    unfold quotedS at q3 q4
    dsimp only at q3 q4
    by_cases c1 : x.size ≤ 0 + (1 + spanS insideB x (0 + 1))
    · rw [if_pos c1] at q3
      simp at q3
    · rw [if_neg c1] at q3 q4
      by_cases c2 : byteN x (0 + (1 + spanS insideB x (0 + 1))) ≠ 39 ∨ spanS insideB x (0 + 1) = 0
      · rw [if_pos c2] at q3
        simp at q3
      · rw [if_neg c2] at q3 q4
        by_cases c3 : 23 ≤ spanS insideB x (0 + 1)
        · rw [if_pos c3] at q3
          simp at q3
        · rw [if_neg c3] at q4
          have : (1 : Int) + (spanS insideB x (0 + 1) : Int) + 1 = (x.size : Int) := q4
          omega
theorem Gm.Fine.names24 {g : Gm} (h : g.Fine) : ∀ s ∈ g.names, s.size ≤ 24 := by
  intro s hs
  rcases List.mem_append.1 hs with h1 | h1
  · exact term_size (h.terms s h1)
  · exact term_size (plain_term (h.nons s h1))
theorem Gm.Fine.small {g : Gm} (h : g.Fine) : g.Small := by
  have hn : ∀ s ∈ g.names, s.size ≤ 2000000 := fun s hs => Nat.le_trans (h.names24 s hs) (by decide)
  refine ⟨name_le hn (by decide), Nat.le_trans h.t (by decide), Nat.le_trans h.n (by decide), Nat.le_trans h.r (by decide), fun r hr => ?_, hn⟩
  obtain ⟨j, hj, rfl⟩ := List.mem_iff_getElem.1 hr
  have := h.short j hj
  rw [List.getD_eq_getElem?_getD, List.getElem?_eq_getElem hj] at this
  exact Nat.le_trans this (by decide)
section
variable {w : World} {A0 A1 A2 : Option Addr} {c0 c1 c2 : Nat} {g : Gm}
set_option maxHeartbeats 4000000 in
theorem law08_GshowBack (h : GmAt w A0 A1 A2 c0 c1 c2 g) (hsz : ∀ s ∈ g.names, s.size ≤ 140737488351232) (hkr : ∀ r ∈ g.rules, r.right.length ≤ 140737488355328) (hm : MxAt w) :
    Calls Tryz.prog 3 #[.agg (gv A0 A1 A2 c0 c1 c2 g)] w fun e w' => e = .returned (.bool true) ∧ Below w.heap.size w w' := by
  obtain ⟨W0, hW0⟩ : ∃ W0, W0 = w.alloc (.cells (gv A0 A1 A2 c0 c1 c2 g) 25) := ⟨_, rfl⟩
  have hb0 := below_alloc (Below.refl _ w) (.cells (gv A0 A1 A2 c0 c1 c2 g) 25)
  have hk0 := blk_new w (.cells (gv A0 A1 A2 c0 c1 c2 g) 25)
  rw [← hW0] at hb0 hk0
  have KEY : Aside0 (∀ W, Below W0.heap.size W0 W → W.cell? ⟨w.heap.size, 0, none⟩ = some (.slice A0 g.terms.length c0) ∧ W.cell? ⟨w.heap.size, 1, none⟩ = some (.slice A1 g.nons.length c1) ∧ W.cell? ⟨w.heap.size, 2, none⟩ = some (.slice A2 g.rules.length c2) ∧ W.cell? ⟨w.heap.size, 3, none⟩ = some (.int .i64 g.start)) := ⟨fun W hb => gcells (blk_below hk0 hb)⟩
  have HM := Aside0.mk (law06_MuchW (h.below hb0) (fun s hs => Nat.le_trans (hsz s hs) (by decide)) hkr)
  have hbw : ∀ W, Below W0.heap.size W0 W → Below w.heap.size w W := fun W hb => hb0.trans (hb.mono hb0.size)
  have KG : Aside0 (∀ W, Below W0.heap.size W0 W → GmAt W A0 A1 A2 c0 c1 c2 g) := ⟨fun W hb => h.below (hbw W hb)⟩
  have KM : Aside0 (∀ W, Below W0.heap.size W0 W → MxAt W) := ⟨fun W hb => hm.below (hbw W hb)⟩
  have ms : g.terms.length + g.nons.length ≤ 300 → g.terms.length + g.nons.length ≤ 8796093022208 := fun hh => by omega
  have K1 : Aside0 (g.terms.length + g.nons.length ≤ 300 → ∀ W, Below W0.heap.size W0 W → Calls Tryz.prog 6 #[.agg #[.slice A0 g.terms.length c0, .slice A1 g.nons.length c1, .slice A2 g.rules.length c2, .int .i64 g.start]] W fun e w' => e = .returned (.int .i64 g.check) ∧ Below W.heap.size W w') := ⟨fun hs W hb => ref06_Check (h.below (hbw W hb)) hsz (by omega)⟩
  have K2 : Aside0 (∀ W, Below W0.heap.size W0 W → Calls Tryz.prog 7 #[.agg #[.slice A0 g.terms.length c0, .slice A1 g.nons.length c1, .slice A2 g.rules.length c2, .int .i64 g.start]] W fun e w' => e = .returned (.bool g.ordered) ∧ Below W.heap.size W w') := ⟨fun W hb => ref06_Ordered (h.below (hbw W hb))⟩
  have K3 : Aside0 (g.check = 0 → g.ordered = true → ∀ W, Below W0.heap.size W0 W → Calls Tryz.prog 9 #[.agg #[.slice A0 g.terms.length c0, .slice A1 g.nons.length c1, .slice A2 g.rules.length c2, .int .i64 g.start]] W fun e w' => e = .returned (.string g.showB) ∧ Below W.heap.size W w') := ⟨fun hc ho W hb => (gshow_Show (h.below (hbw W hb)) (fine_of hc).small).mono fun e w' hh => ⟨by rw [hh.1]; unfold Gm.showS; rw [if_pos ⟨hc, ho⟩], hh.2⟩⟩
  have K4 : Aside0 (g.check = 0 → g.ordered = true → g.showB.size ≤ 8192 → ∀ W, Below W0.heap.size W0 W → Calls Tryz.prog 10 #[.string g.showB] W (ParseEnd W (.ok g))) := ⟨fun hc ho hl W hb => by
    have := gread_Parse g.showB (by omega) (hm.below (hbw W hb))
    rw [parse_show hc ho hl] at this
    exact this⟩
  have HB0 := Aside0.mk hb0
  have HW := Aside0.mk hW0
  have hx0 := blk_lt hk0
  obtain ⟨f0, f1, f2, f3⟩ := KEY.out W0 (Below.refl _ _)
  clear h hm hb0 hk0 hW0 hbw ms hsz hkr
  unfold gv at *
  go_enter Tryz.func3, Tryz.ntmps3
  go_wp2_with fail
  rw [← HW.out]
  clear HW
  refine HM.out.mono ?_
  rintro e w1 ⟨⟨n, rfl, hn⟩, hb1⟩
  have HN := Aside0.mk hn
  have HB1 := Aside0.mk hb1
  clear hn HM f0 f1 f2 f3
  obtain ⟨f0, f1, f2, f3⟩ := KEY.out w1 hb1
  have hy1 : w.heap.size < w1.heap.size := Nat.lt_of_lt_of_le hx0 hb1.size
  clear hb1
  by_cases hz1 : (300 : Int) < n
  · go_wp2_with (go_at_call 8; refine law08_awake.mono ?_; rintro e w2 ⟨rfl, hb2⟩)
    go_ret
    have h5 := HB1.out.trans (hb2.mono HB1.out.size)
    exact ⟨rfl, HB0.out.trans (h5.mono HB0.out.size)⟩
  · have L1 := Aside0.mk (K1.out (by have := (HN.out (by omega)).1; omega))
    clear K1 HN
    by_cases hc : g.check = 0
    rotate_left
    · have hc1 : (g.check != 0) = true := by simpa using hc
      clear hc K3 K4
      generalize g.check = ch at *
      go_wp2_with (first
        | (go_at_call 6; refine (L1.out w1 HB1.out).mono ?_; rintro e w2 ⟨rfl, hb2⟩; have HB2 := Aside0.mk (HB1.out.trans (hb2.mono HB1.out.size)); clear hb2)
        | (go_at_call 8; refine law08_awake.mono ?_; rintro e w3 ⟨rfl, hb3⟩))
      go_ret
      have h5 := HB2.out.trans (hb3.mono HB2.out.size)
      exact ⟨rfl, HB0.out.trans (h5.mono HB0.out.size)⟩
    · have HC := Aside0.mk hc
      rw [hc] at L1
      clear hc
      have ARM : ∀ w2, Below w1.heap.size w1 w2 → Below W0.heap.size W0 w2 := fun w2 hb => HB1.out.trans (hb.mono HB1.out.size)
      have HARM := Aside0.mk ARM
      clear ARM
      by_cases ho : g.ordered = true
      rotate_left
      · have ho' : g.ordered = false := by simpa using ho
        rw [ho'] at K2
        clear ho ho' K3 K4
        go_wp2_with (first
          | (go_at_call 6; refine (L1.out w1 HB1.out).mono ?_; rintro e w2 ⟨rfl, hb2⟩; have HB2 := Aside0.mk (HARM.out w2 hb2); have hy2 : w.heap.size < w2.heap.size := Nat.lt_of_lt_of_le hy1 hb2.size; clear hb2; obtain ⟨q0, q1, q2, q3⟩ := KEY.out w2 HB2.out)
          | (go_at_call 7; refine (K2.out w2 HB2.out).mono ?_; rintro e w3 ⟨rfl, hb3⟩; have HB3 := Aside0.mk (HB2.out.trans (hb3.mono HB2.out.size)); clear hb3)
          | (go_at_call 8; refine law08_awake.mono ?_; rintro e w4 ⟨rfl, hb4⟩))
        go_ret
        have h5 := HB3.out.trans (hb4.mono HB3.out.size)
        exact ⟨rfl, HB0.out.trans (h5.mono HB0.out.size)⟩
      · have HO := Aside0.mk ho
        rw [ho] at K2
        have L3 := Aside0.mk (K3.out HC.out HO.out)
        have L4 := Aside0.mk (K4.out HC.out HO.out)
        clear ho K3 K4 HC HO
        generalize g.showB = ss at L3 L4
        by_cases hl : 8192 < ss.size
        · have hlz : (8192 : Int) < (ss.size : Int) := by omega
          clear L4
          go_wp2_with (first
            | (go_at_call 6; refine (L1.out w1 HB1.out).mono ?_; rintro e w2 ⟨rfl, hb2⟩; have HB2 := Aside0.mk (HARM.out w2 hb2); have hy2 : w.heap.size < w2.heap.size := Nat.lt_of_lt_of_le hy1 hb2.size; clear hb2; obtain ⟨q0, q1, q2, q3⟩ := KEY.out w2 HB2.out)
            | (go_at_call 7; refine (K2.out w2 HB2.out).mono ?_; rintro e w3 ⟨rfl, hb3⟩; have HB3 := Aside0.mk (HB2.out.trans (hb3.mono HB2.out.size)); have hy3 : w.heap.size < w3.heap.size := Nat.lt_of_lt_of_le hy2 hb3.size; clear hb3; obtain ⟨r0, r1, r2, r3⟩ := KEY.out w3 HB3.out)
            | (go_at_call 9; refine (L3.out w3 HB3.out).mono ?_; rintro e w4 ⟨rfl, hb4⟩; have HB4 := Aside0.mk (HB3.out.trans (hb4.mono HB3.out.size)); clear hb4)
            | (go_at_call 8; refine law08_awake.mono ?_; rintro e w5 ⟨rfl, hb5⟩))
          go_ret
          have h5 := HB4.out.trans (hb5.mono HB4.out.size)
          exact ⟨rfl, HB0.out.trans (h5.mono HB0.out.size)⟩
        · have hlz : ¬ (8192 : Int) < (ss.size : Int) := by omega
          have L5 := Aside0.mk (L4.out (by omega))
          clear L4 hl
          go_wp2_with (first
            | (go_at_call 6; refine (L1.out w1 HB1.out).mono ?_; rintro e w2 ⟨rfl, hb2⟩; have HB2 := Aside0.mk (HARM.out w2 hb2); have hy2 : w.heap.size < w2.heap.size := Nat.lt_of_lt_of_le hy1 hb2.size; clear hb2; obtain ⟨q0, q1, q2, q3⟩ := KEY.out w2 HB2.out)
            | (go_at_call 7; refine (K2.out w2 HB2.out).mono ?_; rintro e w3 ⟨rfl, hb3⟩; have HB3 := Aside0.mk (HB2.out.trans (hb3.mono HB2.out.size)); have hy3 : w.heap.size < w3.heap.size := Nat.lt_of_lt_of_le hy2 hb3.size; clear hb3; obtain ⟨r0, r1, r2, r3⟩ := KEY.out w3 HB3.out)
            | (go_at_call 9; refine (L3.out w3 HB3.out).mono ?_; rintro e w4 ⟨rfl, hb4⟩; have HB4 := Aside0.mk (HB3.out.trans (hb4.mono HB3.out.size)); have hy4 : w.heap.size < w4.heap.size := Nat.lt_of_lt_of_le hy3 hb4.size; clear hb4)
            | (go_at_call 10; refine (L5.out w4 HB4.out).mono ?_; rintro e w5 ⟨hb5, B0, B1, B2, d0, d1, d2, rfl, hg5⟩; have HG5 := Aside0.mk (hg5 w5 (fun _ _ _ => rfl)); have HB5 := Aside0.mk (HB4.out.trans (hb5.mono HB4.out.size)); have hy5 : w.heap.size < w5.heap.size := Nat.lt_of_lt_of_le hy4 hb5.size; clear hb5 hg5; unfold gv; obtain ⟨s0, s1, s2, s3⟩ := KEY.out w5 HB5.out)
            | (go_at_call 11; go_loud (refine (ref06_Same ((KG.out w5 HB5.out).below (below_alloc (Below.refl _ _) _)) (HG5.out.below (below_alloc (Below.refl _ _) _))).mono ?_; rintro e w6 ⟨rfl, hb6⟩; have HB6 := Aside0.mk ((below_alloc HB5.out _).trans (hb6.mono (below_alloc HB5.out _).size)); clear hb6))
            | (go_at_call 8; refine law08_awake.mono ?_; rintro e w7 ⟨rfl, hb7⟩))
          go_ret
          have h5 := HB6.out.trans (hb7.mono HB6.out.size)
          exact ⟨rfl, HB0.out.trans (h5.mono HB0.out.size)⟩
end
end Go.Proofs.YtliofoikejdjeaaGreat
/- GshowBack: the row's reading of a grammar, by the form's own weights. -/
namespace Go.Proofs.YtliofoikejdjeaaGreat
open Go.ChangeShapes Go.WideShapes Go.ChangeAt Go.RowKit Go.Proofs.YtliofoikejdjeaaGreatW.PrintWords
open Go.ChangeMaps (open_string)
set_option linter.unusedVariables false
set_option linter.unusedSimpArgs false
section
variable {H : Type}
theorem wall_mem {P : Program} {e : TypeId} {d : DataW H} {n : Nat} {l : List (DataW H)} (h : d ∈ l) (hn : n ∈ d.weights P e) : n ∈ DataW.weightsAll P e l := by
  induction l with
  | nil => cases h
  | cons x r ih =>
    show n ∈ x.weights P e ++ DataW.weightsAll P e r
    rcases List.mem_cons.1 h with rfl | h
    · exact List.mem_append.2 (.inl hn)
    · exact List.mem_append.2 (.inr (ih h))
variable {enc : TypeId × Value → H} {W : World} {base : Nat} {spare : Nat → Bool} {held : Bool} {fuel : Nat} {v : Value} {x : DataW H × List MemPlace}
theorem readW_strs (h : DataW.trod enc Tryz.prog W base spare held fuel 22 [v] = some x) (hw : ∀ n ∈ x.1.weights Tryz.prog 22, n ≤ 140737488351232) :
    ∃ A c, ∃ xs : List ByteArray, v = .slice A xs.length c ∧ xs.length ≤ c ∧ Kd.C Kd.string W A xs.length xs ∧ xs.length ≤ 8796093022208 ∧ ∀ s ∈ xs, s.size ≤ 140737488351232 := by
  rcases open_strings Tryz.underlying22 Tryz.underlying9 (by kernel_rfl) h with ⟨hcs, rfl⟩ | ⟨a, len, cap, ss, hcs, _, hl, hm, hz, rfl, hcell, _⟩
  · obtain rfl : v = .slice none 0 0 := by simpa using hcs
    exact ⟨none, 0, [], rfl, Nat.le_refl _, C_none, Nat.zero_le _, fun s hs => by cases hs⟩
  · obtain rfl : v = .slice (some a) len cap := by simpa using hcs
    have hls : len ≤ ss.length := by rw [hz]; split <;> omega
    have hxl : (ss.take len).length = len := by rw [List.length_take]; omega
    simp only [DataW.weights, Tryz.underlying22] at hw
    refine ⟨some a, cap, ss.take len, by rw [hxl], by omega, ⟨rfl, by rw [hxl]; unfold maxLen at hm; omega, fun _ => ⟨a, rfl, fun j p hp => ⟨[.string p], rfl, rfl, fun i u hu => ?_⟩⟩⟩, ?_, fun s hs => ?_⟩
    · cases i with
      | succ i => simp at hu
      | zero =>
        simp at hu
        subst hu
        have hj : j < len := by
          have := (List.getElem?_eq_some_iff.1 hp).1
          omega
        have h1 := hcell j (by omega)
        have h2 : ss.getD j ByteArray.empty = p := by
          rw [List.getElem?_take_of_lt hj] at hp
          rw [List.getD_eq_getElem?_getD, hp]
          rfl
        rw [h2] at h1
        simpa [Kd.string, Kd.scalar] using h1
    · have h1 := hw _ (List.mem_cons_self ..)
      rw [show Tryz.prog.bytesOf 9 = 16 from by kernel_rfl] at h1
      simp [strs] at h1
      rw [hxl]
      omega
    · have h1 := hw s.data.toList.length (List.mem_cons_of_mem _ (List.mem_append.2 (.inl (wall_mem (d := .lit (.string s.data.toList)) (by unfold strs; exact List.mem_map.2 ⟨s, hs, rfl⟩) (by simp [DataW.weights])))))
      rw [data_length] at h1
      exact h1
theorem readW_ints (h : DataW.trod enc Tryz.prog W base spare held fuel 38 [v] = some x) (hw : ∀ n ∈ x.1.weights Tryz.prog 38, n ≤ 140737488351232) :
    ∃ A c, ∃ xs : List Int, v = .slice A xs.length c ∧ xs.length ≤ c ∧ Kd.C (Kd.int .i64) W A xs.length xs ∧ xs.length ≤ 140737488355328 := by
  rcases open_ints Tryz.underlying38 Tryz.underlying3 (by kernel_rfl) h with ⟨hcs, rfl⟩ | ⟨a, len, cap, ss, hcs, _, hl, hm, hz, rfl, hcell, _⟩
  · obtain rfl : v = .slice none 0 0 := by simpa using hcs
    exact ⟨none, 0, [], rfl, Nat.le_refl _, C_none, Nat.zero_le _⟩
  · obtain rfl : v = .slice (some a) len cap := by simpa using hcs
    have hls : len ≤ ss.length := by rw [hz]; split <;> omega
    have hxl : (ss.take len).length = len := by rw [List.length_take]; omega
    simp only [DataW.weights, Tryz.underlying38] at hw
    refine ⟨some a, cap, ss.take len, by rw [hxl], by omega, ⟨rfl, by rw [hxl]; unfold maxLen at hm; omega, fun _ => ⟨a, rfl, fun j p hp => ⟨[.int .i64 p], rfl, rfl, fun i u hu => ?_⟩⟩⟩, ?_⟩
    · cases i with
      | succ i => simp at hu
      | zero =>
        simp at hu
        subst hu
        have hj : j < len := by
          have := (List.getElem?_eq_some_iff.1 hp).1
          omega
        have h1 := hcell j (by omega)
        have h2 : ss.getD j 0 = p := by
          rw [List.getElem?_take_of_lt hj] at hp
          rw [List.getD_eq_getElem?_getD, hp]
          rfl
        rw [h2] at h1
        simpa [Kd.int, Kd.scalar] using h1
    · have h1 := hw _ (List.mem_cons_self ..)
      rw [show Tryz.prog.bytesOf 3 = 8 from by kernel_rfl] at h1
      simp [lits] at h1
      rw [hxl]
      omega
theorem readW_rules (h : DataW.trod enc Tryz.prog W base spare held fuel 23 [v] = some x) (hw : ∀ n ∈ x.1.weights Tryz.prog 23, n ≤ 140737488351232) :
    ∃ A c, ∃ xs : List Rl, v = .slice A xs.length c ∧ xs.length ≤ c ∧ Kd.C kRl W A xs.length xs ∧ xs.length ≤ 8796093022208 ∧ ∀ r ∈ xs, r.right.length ≤ 140737488355328 := by
  rcases Deep.open_slice_pairs Tryz.underlying23 Tryz.underlying40 (by kernel_rfl) rfl rfl (by kernel_rfl) (by kernel_rfl) h with ⟨hcs, rfl⟩ | ⟨a, len, cap, m, n, V0, V1, D0, D1, P0, P1, hcs, _, hl, hm, hmm, rfl, hel⟩
  · obtain rfl : v = .slice none 0 0 := by simpa using hcs
    exact ⟨none, 0, [], rfl, Nat.le_refl _, C_none, Nat.zero_le _, fun s hs => by cases hs⟩
  · obtain rfl : v = .slice (some a) len cap := by simpa using hcs
    have hlm : len ≤ m := by rw [hmm]; split <;> omega
    simp only [DataW.weights, Tryz.underlying23] at hw
    have each : ∀ i, i < len → ∃ r : Rl, kRl.K W r [V0 i, V1 i] ∧ r.right.length ≤ 140737488355328 := by
      intro i hi
      obtain ⟨_, _, h0, h1⟩ := hel i (by omega)
      obtain ⟨z, e0, _, _⟩ := DataW.trod_int Tryz.underlying3 h0
      obtain ⟨A, c, zs, e1, hc, hC, hbk⟩ := readW_ints h1 (fun q hq => hw q (List.mem_cons_of_mem _ (List.mem_append.2 (.inl (wall_mem (d := .agg [D0 i, D1 i]) (List.mem_map.2 ⟨i, List.mem_range.2 hi, rfl⟩) (by
        simp only [DataW.weights, Tryz.underlying40]
        show q ∈ (D0 i).weights _ _ ++ ((D1 i).weights _ _ ++ [])
        exact List.mem_append.2 (.inr (List.mem_append.2 (.inl hq)))))))))
      refine ⟨{ left := z, right := zs }, ?_, hbk⟩
      rw [show V0 i = .int .i64 z from by simpa using e0, e1]
      exact kRl_mk (x := { left := z, right := zs }) hc hC
    obtain ⟨f, hf⟩ := Deep.choose_lt each
    have hxl : ((List.range len).map f).length = len := by simp
    refine ⟨some a, cap, (List.range len).map f, by rw [hxl], by omega, ⟨rfl, by rw [hxl]; unfold maxLen at hm; omega, fun _ => ⟨a, rfl, fun j p hp => ?_⟩⟩, ?_, fun r hr => ?_⟩
    · rw [List.getElem?_map] at hp
      obtain ⟨i, hi, rfl⟩ := Option.map_eq_some_iff.1 hp
      have hj : j < len := by
        have := (List.getElem?_eq_some_iff.1 hi).1
        simpa using this
      rw [List.getElem?_range hj] at hi
      obtain rfl : j = i := Option.some.inj hi
      obtain ⟨c0, c1, _, _⟩ := hel j (by omega)
      refine ⟨[V0 j, V1 j], rfl, (hf j hj).1, fun i u hu => ?_⟩
      match i with
      | 0 =>
        simp at hu
        subst hu
        exact c0
      | 1 =>
        simp at hu
        subst hu
        exact c1
      | i + 2 => simp at hu
    · have h1 := hw _ (List.mem_cons_self ..)
      rw [show Tryz.prog.bytesOf 40 = 32 from by kernel_rfl] at h1
      simp at h1
      rw [hxl]
      omega
    · obtain ⟨i, hi, rfl⟩ := List.mem_map.1 hr
      exact (hf i (List.mem_range.1 hi)).2
end
section
variable {H : Type} {enc : TypeId × Value → H} {W : World} {v : Value} {d : DataW H} {p : List MemPlace} {b0 : Nat}
set_option maxRecDepth 1000000 in
theorem readW_gram (hv : Value.okWide Tryz.prog W .any b0 25 v) (h : DataW.Trod enc Tryz.prog W 0 (fun _ => true) true 25 v d p) (hs : ∀ n ∈ d.weights Tryz.prog 25, n ≤ 140737488351232) :
    ∃ A0 A1 A2 c0 c1 c2 g, v = .agg (gv A0 A1 A2 c0 c1 c2 g) ∧ GmAt W A0 A1 A2 c0 c1 c2 g ∧ (∀ s ∈ g.names, s.size ≤ 140737488351232) ∧ ∀ r ∈ g.rules, r.right.length ≤ 140737488355328 := by
  obtain ⟨v0, v1, v2, v3, y0, y1, y2, y3, m, rfl, rfl, rfl, h0, h1, h2, h3⟩ := Joins.open_agg4 Tryz.underlying25 (by kernel_rfl) (by kernel_rfl) hv h
  have hs' : ∀ n ∈ y0.1.weights Tryz.prog 22 ++ (y1.1.weights Tryz.prog 22 ++ (y2.1.weights Tryz.prog 23 ++ (y3.1.weights Tryz.prog 3 ++ []))), n ≤ 140737488351232 := by
    have := hs
    simp only [DataW.weights, Tryz.underlying25] at this
    exact this
  obtain ⟨A0, c0, xs0, rfl, l0, k0, n0, z0⟩ := readW_strs h0 (fun n hn => hs' n (List.mem_append.2 (.inl hn)))
  obtain ⟨A1, c1, xs1, rfl, l1, k1, n1, z1⟩ := readW_strs h1 (fun n hn => hs' n (List.mem_append.2 (.inr (List.mem_append.2 (.inl hn)))))
  obtain ⟨A2, c2, xs2, rfl, l2, k2, n2, z2⟩ := readW_rules h2 (fun n hn => hs' n (List.mem_append.2 (.inr (List.mem_append.2 (.inr (List.mem_append.2 (.inl hn)))))))
  obtain ⟨st, e3, _, _⟩ := DataW.trod_int Tryz.underlying3 h3
  obtain rfl : v3 = .int .i64 st := by simpa using e3
  refine ⟨A0, A1, A2, c0, c1, c2, { terms := xs0, nons := xs1, rules := xs2, start := st }, rfl, ⟨k0, k1, k2, l0, l1, l2, n0, n1, n2⟩, fun s hs => ?_, z2⟩
  rcases List.mem_append.1 hs with h | h
  · exact z0 s h
  · exact z1 s h
end
end Go.Proofs.YtliofoikejdjeaaGreat
namespace Go.Proofs.YtliofoikejdjeaaGreat
open Go.ChangeShapes Go.WideShapes Go.ChangeAt Go.RowKit Go.Proofs.YtliofoikejdjeaaGreatW.PrintWords
open Go.ChangeMaps (open_string)
set_option linter.unusedVariables false
set_option linter.unusedSimpArgs false
theorem own : ownKnob Tryz.prog.godebug = none := by kernel_rfl
theorem laidOut : laidOutB Tryz.prog = true := by kernel_rfl
/-- The library's variable holds some number: the form asks it of every world. -/
theorem mxAt_of_shaped {W : World} (h : W.ShapedOpen Tryz.prog) : MxAt W := by
  have h0 : (((begin Tryz.prog (fun _ _ => 0) default).world.heap[0]?).bind Obj.row?).map (fun x => (x.1.size, x.2)) = some (1, 3) := by kernel_rfl
  obtain ⟨⟨zero, t⟩, hz, he⟩ := Option.map_eq_some_iff.1 h0
  simp only [Prod.mk.injEq] at he
  obtain ⟨he1, rfl⟩ := he
  exact cell_of_shapedOpen_int h (of_decide_eq_true (by kernel_rfl)) hz he1 (by kernel_rfl) (by kernel_rfl) Tryz.underlying3
set_option maxRecDepth 1000000 in
set_option maxHeartbeats 4000000 in
theorem gshowBack_lifted (os : Os) (started : os.Started) (H : Type) (enc : TypeId × Value → H) :
    ReturnsInHanded {} Tryz.checked os 3 .any (Rows.gshowBackSpec.pre6 enc Tryz.prog Tryz.f3 [] false)
      (Rows.gshowBackSpec.post enc Tryz.prog Tryz.f3 false true false false) := by
  refine returnsInHanded_of_change_shaped (C := Tryz.checked) own started (by kernel_rfl) Tryz.func3 ?wit ?_
  case wit =>
    obtain ⟨w, tape, i, a1, a2, a3, a4, ⟨⟨a5, _⟩, a6⟩, a7⟩ := ChangeSpec.witness_shaped (enc := enc) (C := Tryz.checked) (os := os) (f := 3) (fn := Tryz.f3) (s := Rows.gshowBackSpec) (conds := []) (apart := false) (X := fun _ _ => True) false (World.doorLaid Tryz.prog 400 os) #[.agg #[.slice none 0 0, .slice none 0 0, .slice none 0 0, .int .i64 0]] 8 rfl (World.shaped_of_RefB (by kernel_rfl) (by kernel_rfl)) (by kernel_rfl) (by kernel_rfl) (by kernel_rfl) trivial
    exact ⟨w, tape, i, a1, a2, a3, a4, ⟨a5, a6⟩, a7⟩
  intro W base args ds gs before hval0 hW _ hwt hsh _
  have hval : ∀ (j : Nat) t v, Tryz.f3.params[j]? = some t → args[j]? = some v → Value.okWide Tryz.prog W .any base t v := hval0
  have hW' := hW
  obtain ⟨p, q, hA0, hV0, rfl, hfz, hnd⟩ := hW
  have hA : DataW.TrodAll enc Tryz.prog W 0 (fun _ => true) true Tryz.f3.params.toList args.toList ds p := hA0
  rw [Tryz.params3] at hA hval
  obtain ⟨v0, vs0, d0, ds0, p0, q0, hargs, rfl, rfl, h0, r0⟩ := trodAll_cons hA
  obtain ⟨rfl, rfl, rfl⟩ := trodAll_nil r0
  obtain rfl : args = #[v0] := by cases args; simp_all
  obtain ⟨rfl, rfl⟩ := trodVars_none hV0
  have k0 := h0
  have lt0 : ∀ x ∈ p0, x.block < W.heap.size := by obtain ⟨m, hm⟩ := k0; exact DataW.trod_lt m _ _ _ hm
  have hwt' : ∀ n ∈ d0.weights Tryz.prog 25, n ≤ 140737488351232 := by
    intro n hn
    rw [List.all_eq_true] at hwt
    have := hwt n (by
      rw [Tryz.params3]
      show n ∈ d0.weights Tryz.prog 25 ++ _
      exact List.mem_append.2 (.inl hn))
    exact of_decide_eq_true this
  obtain ⟨A0, A1, A2, c0, c1, c2, g, rfl, hg, hsz, hkr⟩ := readW_gram (hval 0 25 v0 rfl rfl) h0 hwt'
  clear hA0 hval0
  simp only [List.append_nil] at hW'
  refine (law08_GshowBack hg hsz hkr (mxAt_of_shaped hsh)).mono fun e W' ⟨he, bel⟩ => ?_
  subst he
  exact ⟨_, rfl, _, _, _, [], _, [], hW', trodAll_mk1 (shut_bool Tryz.underlying4 _), trodAll_cons_mk (Below.trod laidOut (by kernel_rfl) (of_decide_eq_true (by kernel_rfl)) k0 bel lt0) trodAll_mk0, rfl, bel.frame _, fun h => by cases h⟩
set_option maxRecDepth 1000000 in
theorem gshowBack_holds : Rows.GshowBackSaid :=
  OpenClaim.holds_of_wide 3 Tryz.f3 rfl rfl rfl rfl rfl rfl rfl ⟨rfl, rfl, rfl, rfl, rfl⟩ rfl rfl rfl rfl rfl (by kernel_rfl) Tryz.func3 (by kernel_rfl)
    (of_decide_eq_true (by kernel_rfl)) (by unfold Func.isWrapper; first | (rw [if_pos (by decide +kernel)]; kernel_rfl) | (rw [if_neg (by decide +kernel)]; exact ⟨rfl, rfl⟩))
    (fun os started H enc _ => gshowBack_lifted os started H enc)
#print axioms gshowBack_holds
end Go.Proofs.YtliofoikejdjeaaGreat
