/- GreadToken holds: whatever the text the law answers true. Condition: errors.errorType starts as the program's text lays it (the card ties it). -/
import Derived.Test.YtliofoikejdjeaaDoorV9
import Derived.Test.YtliofoikejdjeaaDoorV2
import Derived.KernelRfl
/- The law's awake; the law. -/
namespace Go.Proofs.YtliofoikejdjeaaDoor
open Go.RowKit Go.Proofs.YtliofoikejdjeaaDoorW.PrintWords
set_option linter.unusedVariables false
set_option linter.unusedSimpArgs false
set_option maxRecDepth 100000
def awkA : ByteArray := ⟨#[37, 116, 111, 107, 101, 110, 32, 65, 32, 37, 115, 116, 97, 114, 116, 32, 115, 32, 37, 37, 32, 115, 32, 58, 32, 65, 32, 115, 32, 124, 32, 39, 120, 39, 32, 59]⟩
def awkB : ByteArray := ⟨#[37, 37, 32, 115, 32, 58, 32, 116, 32, 59]⟩
def awkG : Gm := { terms := [⟨#[65]⟩, ⟨#[39, 120, 39]⟩], nons := [⟨#[115]⟩], rules := [⟨3, [1, 3]⟩, ⟨3, [2]⟩], start := 3 }
def awkT : List Tk := [⟨7, ⟨#[37, 116, 111, 107, 101, 110]⟩, 0⟩, ⟨1, ⟨#[65]⟩, 7⟩, ⟨8, ⟨#[37, 115, 116, 97, 114, 116]⟩, 9⟩, ⟨1, ⟨#[115]⟩, 16⟩, ⟨6, ⟨#[37, 37]⟩, 18⟩, ⟨1, ⟨#[115]⟩, 21⟩, ⟨3, ⟨#[58]⟩, 23⟩, ⟨1, ⟨#[65]⟩, 25⟩, ⟨1, ⟨#[115]⟩, 27⟩, ⟨4, ⟨#[124]⟩, 29⟩, ⟨2, ⟨#[39, 120, 39]⟩, 31⟩, ⟨5, ⟨#[59]⟩, 35⟩, ⟨0, ⟨#[]⟩, 36⟩]
def awkH : Hd := ⟨[⟨1, ⟨#[65]⟩, 7⟩], [9], [⟨1, ⟨#[115]⟩, 16⟩]⟩
def awkR : List Ru := [⟨⟨1, ⟨#[115]⟩, 21⟩, [⟨[⟨1, ⟨#[65]⟩, 25⟩, ⟨1, ⟨#[115]⟩, 27⟩], 25⟩, ⟨[⟨2, ⟨#[39, 120, 39]⟩, 31⟩], 31⟩]⟩]
theorem awkA_toks : allL awkA.data.toList = (awkT, 0, 0) := by kernel_rfl
theorem awkA_form : formS awkT = .ok (awkH, awkR) := by kernel_rfl
theorem awkA_build : buildB awkH awkR = .ok awkG := by kernel_rfl
theorem awkA_parse : parseS awkA = .ok awkG := by
  unfold parseS
  rw [all_L, awkA_toks]
  simp only [ne_eq, not_true_eq_false, if_false]
  rw [awkA_form]
  exact awkA_build
def awkU : List Tk := [⟨6, ⟨#[37, 37]⟩, 0⟩, ⟨1, ⟨#[115]⟩, 3⟩, ⟨3, ⟨#[58]⟩, 5⟩, ⟨1, ⟨#[116]⟩, 7⟩, ⟨5, ⟨#[59]⟩, 9⟩, ⟨0, ⟨#[]⟩, 10⟩]
def awkS : List Ru := [⟨⟨1, ⟨#[115]⟩, 3⟩, [⟨[⟨1, ⟨#[116]⟩, 7⟩], 7⟩]⟩]
theorem awkB_toks : allL awkB.data.toList = (awkU, 0, 0) := by kernel_rfl
theorem awkB_form : formS awkU = .ok (⟨[], [], []⟩, awkS) := by kernel_rfl
theorem awkB_build : buildB ⟨[], [], []⟩ awkS = .error (9, 7) := by kernel_rfl
theorem awkB_parse : parseS awkB = .error (9, 7) := by
  unfold parseS
  rw [all_L, awkB_toks]
  simp only [ne_eq, not_true_eq_false, if_false]
  rw [awkB_form]
  exact awkB_build
theorem calls_args1 {P : Program} {f : FuncId} {a b : Array Value} {w : World} {Q : Ending → World → Prop} (h : a = b) (k : Calls P f b w Q) : Calls P f a w Q := h ▸ k
set_option maxHeartbeats 4000000 in
theorem law07_awake {w : World} (hm : MxAt w) (hg : GlobalAt w) : Calls Tryd.prog 22 #[] w fun e w' => e = .returned (.bool true) ∧ Below w.heap.size w w' := by
  have HP := Aside0.mk (gread_Parse awkA (by decide +kernel) hm)
  rw [awkA_parse] at HP
  have HP2 := Aside0.mk (fun (W : World) (h : MxAt W) => gread_Parse awkB (by decide +kernel) h)
  simp only [awkB_parse] at HP2
  have HM := Aside0.mk hm
  have HGL := Aside0.mk hg
  clear hm hg
  go_enter Tryd.func22, Tryd.ntmps22
  go_wp2_with (first
    | (go_at_call 21; (refine calls_args1 (b := #[.string awkA]) (by kernel_rfl) ?_); refine HP.out.mono ?_; rintro e w2 ⟨hb2, A0, A1, A2, c0, c1, c2, rfl, hg⟩; (obtain ⟨ad, A3, c3, rfl, r0, r1, -, -⟩ := at_rl (hg w2 (fun _ _ _ => rfl)).rules 0 (by decide)); have R1 := Aside0.mk r1; have HB2 := Aside0.mk hb2; rw [show gv A0 A1 (some ad) c0 c1 c2 awkG = #[.slice A0 2 c0, .slice A1 1 c1, .slice (some ad) 2 c2, .int .i64 3] from rfl]; clear hb2 hg r0 r1)
    | (go_at_call 21; go_loud ((refine calls_args1 (b := #[.string awkB]) (by kernel_rfl) ?_); refine (HP2.out _ (HM.out.below (below_alloc HB2.out _))).mono ?_; rintro e w3 ⟨hb3, v, rfl, hv⟩; have HV := Aside0.mk hv; have HB3 := Aside0.mk hb3; have HW3 := Aside0.mk ((below_alloc HB2.out (.cells #[.slice A0 2 c0, .slice A1 1 c1, .slice (some ad) 2 c2, .int .i64 3] 30 (0, 0))).trans (hb3.mono (below_alloc HB2.out (.cells #[.slice A0 2 c0, .slice A1 1 c1, .slice (some ad) 2 c2, .int .i64 3] 30 (0, 0))).size)); have HK3 := Aside0.mk (blk_below (blk_new w2 (.cells #[.slice A0 2 c0, .slice A1 1 c1, .slice (some ad) 2 c2, .int .i64 3] 30 (0, 0))) hb3); (obtain ⟨z0, z1, z2, z3⟩ := gcells HK3.out); have hl3 := blk_lt HK3.out; have hR3 := ((below_alloc (Below.refl _ w2) (.cells #[.slice A0 2 c0, .slice A1 1 c1, .slice (some ad) 2 c2, .int .i64 3] 30 (0, 0))).trans (hb3.mono (by simp))).cell (p := ⟨ad.block, ad.off + 1, none⟩) (World.block_lt_of_cell? _ _ R1.out); have z4 : w3.cell? ⟨ad.block, ad.off + 1, none⟩ = some (.slice A3 2 c3) := hR3.trans R1.out; have hl4 : ad.block < w3.heap.size := World.block_lt_of_cell? w3 ⟨ad.block, ad.off + 1, none⟩ z4; clear hb3 hv hR3))
    | (go_at_call 23; refine (err_Code (HV.out.below (below_alloc (Below.refl _ _) _)) (global_below HGL.out (below_alloc HW3.out _))).mono ?_; rintro e w5 ⟨rfl, hb5⟩; have HB5 := Aside0.mk hb5; clear hb5)
    | (go_at_call 24; refine (err_At (HV.out.below ((below_alloc (Below.refl _ _) _).trans (HB5.out.mono (by simp)))) (by decide) (global_below HGL.out ((below_alloc HW3.out _).trans (HB5.out.mono (below_alloc HW3.out _).size)))).mono ?_; rintro e w6 ⟨rfl, hb6⟩; have HB6 := Aside0.mk hb6; clear hb6))
  go_ret
  have e1 := (below_alloc HW3.out (.cells #[.slice none 0 0, .slice none 0 0, .slice none 0 0, .int .i64 0] 30 (0, 0)))
  have e2 := e1.trans (HB5.out.mono e1.size)
  exact ⟨rfl, e2.trans (HB6.out.mono e2.size)⟩
end Go.Proofs.YtliofoikejdjeaaDoor
/- GreadToken, the law. -/
namespace Go.Proofs.YtliofoikejdjeaaDoor
open Go.RowKit Go.Proofs.YtliofoikejdjeaaDoorW.PrintWords
set_option linter.unusedVariables false
set_option linter.unusedSimpArgs false
set_option maxRecDepth 100000
theorem parse_any {w w' : World} {R : Except Ft Gm} {e : Ending} (h : ParseEnd w R e w') : ∃ a0 n0 c0 a1 n1 c1 a2 n2 c2 st v, e = .returned (.tuple #[.agg #[.slice a0 n0 c0, .slice a1 n1 c1, .slice a2 n2 c2, .int .i64 st], v]) ∧ Below w.heap.size w w' ∧ (∀ f, R = .error f → ErrIs w' v f.1 f.2) := by
  obtain ⟨hb, h⟩ := h
  cases R with
  | error f =>
    obtain ⟨v, rfl, hv⟩ := h
    exact ⟨_, _, _, _, _, _, _, _, _, _, v, rfl, hb, fun f' hf => by injection hf with hf; rw [← hf]; exact hv⟩
  | ok g =>
    obtain ⟨A0, A1, A2, c0, c1, c2, rfl, hg⟩ := h
    exact ⟨_, _, _, _, _, _, _, _, _, _, _, rfl, hb, fun f' hf => by cases hf⟩
set_option maxHeartbeats 4000000 in
theorem law07_GreadToken (s : ByteArray) {w : World} (hm : MxAt w) (hg : GlobalAt w) : Calls Tryd.prog 6 #[.string s] w fun e w' => e = .returned (.bool true) ∧ Below w.heap.size w w' := by
  have HM := Aside0.mk hm
  have HGL := Aside0.mk hg
  by_cases h1 : 3000 < s.size
  · have h1z : (3000 : Int) < (s.size : Int) := by omega
    clear hm hg
    go_enter Tryd.func6, Tryd.ntmps6
    go_wp2_with (go_at_call 22; refine (law07_awake HM.out HGL.out).mono ?_; rintro e w1 ⟨rfl, hb1⟩)
    go_ret
    exact ⟨rfl, hb1⟩
  · have h1z : ¬ (3000 : Int) < (s.size : Int) := by omega
    have HA := Aside0.mk (ref05_All s (by omega) (w := w))
    have HP := Aside0.mk (fun (W : World) (h : MxAt W) => (gread_Parse s (by omega) h).mono fun e w' => parse_any)
    have HE : Aside0 ((allS s).2.1 ≠ 0 → parseS s = .error (allS s).2) := ⟨fun h => by unfold parseS; rw [if_pos h]⟩
    generalize parseS s = R at HP HE
    obtain ⟨⟨E, P⟩, hEP⟩ : ∃ R, (allS s).2 = R := ⟨_, rfl⟩
    rw [hEP] at HA HE
    clear hm hg hEP
    go_enter Tryd.func6, Tryd.ntmps6
    go_wp2_with (first
      | (go_at_call 25; refine HA.out.mono ?_; rintro e w1 ⟨vs, rfl, hb1⟩; have HB1 := Aside0.mk hb1; clear hb1)
      | (go_at_call 21; go_loud (refine (HP.out _ (HM.out.below (below_alloc HB1.out _))).mono ?_; rintro e w2 ⟨a0, n0, c0, a1, n1, c1, a2, n2, c2, st, v, rfl, hb2, hv⟩; have HV := Aside0.mk hv; have HB2 := Aside0.mk hb2; clear hb2 hv)))
    have hk0 := blk_alloc (blk_below (blk_new w1 (.cells #[.int .i64 E, .int .i64 P] 34 (0, 0))) HB2.out) (.cells #[.slice a0 n0 c0, .slice a1 n1 c1, .slice a2 n2 c2, .int .i64 st] 30 (0, 0))
    have hb0 := below_alloc ((below_alloc HB1.out (.cells #[.int .i64 E, .int .i64 P] 34 (0, 0))).trans (HB2.out.mono (below_alloc HB1.out (.cells #[.int .i64 E, .int .i64 P] 34 (0, 0))).size)) (.cells #[.slice a0 n0 c0, .slice a1 n1 c1, .slice a2 n2 c2, .int .i64 st] 30 (0, 0))
    have HV0 : Aside0 (E ≠ 0 → ErrIs (w2.alloc (.cells #[.slice a0 n0 c0, .slice a1 n1 c1, .slice a2 n2 c2, .int .i64 st] 30 (0, 0))) v E P) := ⟨fun h => (HV.out _ (HE.out h)).below (below_alloc (Below.refl _ _) _)⟩
    generalize w2.alloc (.cells #[.slice a0 n0 c0, .slice a1 n1 c1, .slice a2 n2 c2, .int .i64 st] 30 (0, 0)) = W0 at *
    have HK0 := Aside0.mk hk0
    have HB0 := Aside0.mk hb0
    clear hk0 hb0
    have KEY : Aside0 (∀ w', Below W0.heap.size W0 w' → w'.cell? ⟨w1.heap.size, 0, none⟩ = some (.int .i64 E) ∧ w'.cell? ⟨w1.heap.size, 1, none⟩ = some (.int .i64 P)) := ⟨fun w' hw => ⟨(blk_cell (blk_below HK0.out hw) 0).trans rfl, (blk_cell (blk_below HK0.out hw) 1).trans rfl⟩⟩
    have K3 : Aside0 (∀ w', Below W0.heap.size W0 w' → Calls Tryd.prog 22 #[] w' fun e w'' => e = .returned (.bool true) ∧ Below w'.heap.size w' w'') := ⟨fun w' hw => law07_awake (HM.out.below (HB0.out.trans (hw.mono HB0.out.size))) (global_below HGL.out (HB0.out.trans (hw.mono HB0.out.size)))⟩
    by_cases hE : E = 0
    · subst hE
      clear HV HV0 HE
      refine wp_region_det (vs := [?d1xv0, ?d1xv1, ?d1xv2, ?d1xv3, ?d1xv4, ?d1xv5, ?d1xv6, ?d1xv7, ?d1xv8, ?d1xv9, ?d1xv10, ?d1xv11, ?d1xv12, ?d1xv13, ?d1xv14, ?d1xv15, ?d1xv16, ?d1xv17, ?d1xv18, ?d1xv19, ?d1xv20]) (fun w' => Below W0.heap.size W0 w') rfl (by kernel_rfl) (putAll_put (by simp only [Act.put, List.setIfInBounds_toArray, List.set_cons_zero, List.set_cons_succ]; rfl) (putAll_put (by simp only [Act.put, List.setIfInBounds_toArray, List.set_cons_zero, List.set_cons_succ]; rfl) (putAll_put (by simp only [Act.put, List.setIfInBounds_toArray, List.set_cons_zero, List.set_cons_succ]; rfl) (putAll_put (by simp only [Act.put, List.setIfInBounds_toArray, List.set_cons_zero, List.set_cons_succ]; rfl) (putAll_put (by simp only [Act.put, List.setIfInBounds_toArray, List.set_cons_zero, List.set_cons_succ]; rfl) (putAll_put (by simp only [Act.put, List.setIfInBounds_toArray, List.set_cons_zero, List.set_cons_succ]; rfl) (putAll_put (by simp only [Act.put, List.setIfInBounds_toArray, List.set_cons_zero, List.set_cons_succ]; rfl) (putAll_put (by simp only [Act.put, List.setIfInBounds_toArray, List.set_cons_zero, List.set_cons_succ]; rfl) (putAll_put (by simp only [Act.put, List.setIfInBounds_toArray, List.set_cons_zero, List.set_cons_succ]; rfl) (putAll_put (by simp only [Act.put, List.setIfInBounds_toArray, List.set_cons_zero, List.set_cons_succ]; rfl) (putAll_put (by simp only [Act.put, List.setIfInBounds_toArray, List.set_cons_zero, List.set_cons_succ]; rfl) (putAll_put (by simp only [Act.put, List.setIfInBounds_toArray, List.set_cons_zero, List.set_cons_succ]; rfl) (putAll_put (by simp only [Act.put, List.setIfInBounds_toArray, List.set_cons_zero, List.set_cons_succ]; rfl) (putAll_put (by simp only [Act.put, List.setIfInBounds_toArray, List.set_cons_zero, List.set_cons_succ]; rfl) (putAll_put (by simp only [Act.put, List.setIfInBounds_toArray, List.set_cons_zero, List.set_cons_succ]; rfl) (putAll_put (by simp only [Act.put, List.setIfInBounds_toArray, List.set_cons_zero, List.set_cons_succ]; rfl) (putAll_put (by simp only [Act.put, List.setIfInBounds_toArray, List.set_cons_zero, List.set_cons_succ]; rfl) (putAll_put (by simp only [Act.put, List.setIfInBounds_toArray, List.set_cons_zero, List.set_cons_succ]; rfl) (putAll_put (by simp only [Act.put, List.setIfInBounds_toArray, List.set_cons_zero, List.set_cons_succ]; rfl) (putAll_put (by simp only [Act.put, List.setIfInBounds_toArray, List.set_cons_zero, List.set_cons_succ]; rfl) (putAll_put (by simp only [Act.put, List.setIfInBounds_toArray, List.set_cons_zero, List.set_cons_succ]; rfl) (putAll_nil _)))))))))))))))))))))) (below_drew (Below.refl _ _)) ?d1xOps ?d1xFin
      case d1xOps =>
        refine ⟨fun w' hw => ?d1xo0, fun w' hw => ?d1xo1, fun w' hw => ?d1xo2, fun w' hw => ?d1xo3, fun w' hw => ?d1xo4, fun w' hw => ?d1xo5, fun w' hw => ?d1xo6, fun w' hw => ?d1xo7, fun w' hw => ?d1xo8, fun w' hw => ?d1xo9, fun w' hw => ?d1xo10, fun w' hw => ?d1xo11, fun w' hw => ?d1xo12, fun w' hw => ?d1xo13, fun w' hw => ?d1xo14, fun w' hw => ?d1xo15, fun w' hw => ?d1xo16, fun w' hw => ?d1xo17, fun w' hw => ?d1xo18, fun w' hw => ?d1xo19, fun w' hw => ?d1xo20, trivial⟩
        case d1xo0 => obtain ⟨f0, f1⟩ := KEY.out w' hw; go_simp; rfl
        case d1xo1 => obtain ⟨f0, f1⟩ := KEY.out w' hw; go_simp; rfl
        case d1xo2 => obtain ⟨f0, f1⟩ := KEY.out w' hw; go_simp; rfl
        case d1xo3 => obtain ⟨f0, f1⟩ := KEY.out w' hw; go_simp; rfl
        case d1xo4 => obtain ⟨f0, f1⟩ := KEY.out w' hw; go_simp; rfl
        case d1xo5 => obtain ⟨f0, f1⟩ := KEY.out w' hw; go_simp; rfl
        case d1xo6 => obtain ⟨f0, f1⟩ := KEY.out w' hw; go_simp; rfl
        case d1xo7 => obtain ⟨f0, f1⟩ := KEY.out w' hw; go_simp; rfl
        case d1xo8 => obtain ⟨f0, f1⟩ := KEY.out w' hw; go_simp; rfl
        case d1xo9 => obtain ⟨f0, f1⟩ := KEY.out w' hw; go_simp; rfl
        case d1xo10 => obtain ⟨f0, f1⟩ := KEY.out w' hw; go_simp; rfl
        case d1xo11 => obtain ⟨f0, f1⟩ := KEY.out w' hw; go_simp; rfl
        case d1xo12 => obtain ⟨f0, f1⟩ := KEY.out w' hw; go_simp; rfl
        case d1xo13 => obtain ⟨f0, f1⟩ := KEY.out w' hw; go_simp; rfl
        case d1xo14 => obtain ⟨f0, f1⟩ := KEY.out w' hw; go_simp; rfl
        case d1xo15 => obtain ⟨f0, f1⟩ := KEY.out w' hw; go_simp; rfl
        case d1xo16 => obtain ⟨f0, f1⟩ := KEY.out w' hw; go_simp; rfl
        case d1xo17 => obtain ⟨f0, f1⟩ := KEY.out w' hw; go_simp; rfl
        case d1xo18 => obtain ⟨f0, f1⟩ := KEY.out w' hw; (go_simp; refine (K3.out w' hw).mono ?_; rintro e w3 ⟨rfl, hb2⟩; exact ⟨by rfl, hw.trans (hb2.mono hw.size)⟩)
        case d1xo19 => obtain ⟨f0, f1⟩ := KEY.out w' hw; go_simp; rfl
        case d1xo20 => obtain ⟨f0, f1⟩ := KEY.out w' hw; go_simp; rfl
      case d1xFin =>
        intro w3 hw3
        go_wp2
        go_ret
        exact ⟨rfl, HB0.out.trans (hw3.mono HB0.out.size)⟩
    · have hE0 : (E == 0) = false := by simpa using hE
      have HV0 := Aside0.mk (HV0.out hE)
      have K1 : Aside0 (∀ w', Below W0.heap.size W0 w' → Calls Tryd.prog 23 #[v] w' fun e w'' => e = .returned (.int .i64 E) ∧ Below w'.heap.size w' w'') := ⟨fun w' hw => err_Code (HV0.out.below hw) (global_below HGL.out (HB0.out.trans (hw.mono HB0.out.size)))⟩
      have K2 : Aside0 (∀ w', Below W0.heap.size W0 w' → Calls Tryd.prog 24 #[v] w' fun e w'' => e = .returned (.int .i64 P) ∧ Below w'.heap.size w' w'') := ⟨fun w' hw => err_At (HV0.out.below hw) hE (global_below HGL.out (HB0.out.trans (hw.mono HB0.out.size)))⟩
      clear HV HE
      refine wp_region_det (vs := [?d2xv0, ?d2xv1, ?d2xv2, ?d2xv3, ?d2xv4, ?d2xv5, ?d2xv6, ?d2xv7, ?d2xv8, ?d2xv9, ?d2xv10, ?d2xv11, ?d2xv12, ?d2xv13, ?d2xv14, ?d2xv15, ?d2xv16, ?d2xv17, ?d2xv18, ?d2xv19, ?d2xv20]) (fun w' => Below W0.heap.size W0 w') rfl (by kernel_rfl) (putAll_put (by simp only [Act.put, List.setIfInBounds_toArray, List.set_cons_zero, List.set_cons_succ]; rfl) (putAll_put (by simp only [Act.put, List.setIfInBounds_toArray, List.set_cons_zero, List.set_cons_succ]; rfl) (putAll_put (by simp only [Act.put, List.setIfInBounds_toArray, List.set_cons_zero, List.set_cons_succ]; rfl) (putAll_put (by simp only [Act.put, List.setIfInBounds_toArray, List.set_cons_zero, List.set_cons_succ]; rfl) (putAll_put (by simp only [Act.put, List.setIfInBounds_toArray, List.set_cons_zero, List.set_cons_succ]; rfl) (putAll_put (by simp only [Act.put, List.setIfInBounds_toArray, List.set_cons_zero, List.set_cons_succ]; rfl) (putAll_put (by simp only [Act.put, List.setIfInBounds_toArray, List.set_cons_zero, List.set_cons_succ]; rfl) (putAll_put (by simp only [Act.put, List.setIfInBounds_toArray, List.set_cons_zero, List.set_cons_succ]; rfl) (putAll_put (by simp only [Act.put, List.setIfInBounds_toArray, List.set_cons_zero, List.set_cons_succ]; rfl) (putAll_put (by simp only [Act.put, List.setIfInBounds_toArray, List.set_cons_zero, List.set_cons_succ]; rfl) (putAll_put (by simp only [Act.put, List.setIfInBounds_toArray, List.set_cons_zero, List.set_cons_succ]; rfl) (putAll_put (by simp only [Act.put, List.setIfInBounds_toArray, List.set_cons_zero, List.set_cons_succ]; rfl) (putAll_put (by simp only [Act.put, List.setIfInBounds_toArray, List.set_cons_zero, List.set_cons_succ]; rfl) (putAll_put (by simp only [Act.put, List.setIfInBounds_toArray, List.set_cons_zero, List.set_cons_succ]; rfl) (putAll_put (by simp only [Act.put, List.setIfInBounds_toArray, List.set_cons_zero, List.set_cons_succ]; rfl) (putAll_put (by simp only [Act.put, List.setIfInBounds_toArray, List.set_cons_zero, List.set_cons_succ]; rfl) (putAll_put (by simp only [Act.put, List.setIfInBounds_toArray, List.set_cons_zero, List.set_cons_succ]; rfl) (putAll_put (by simp only [Act.put, List.setIfInBounds_toArray, List.set_cons_zero, List.set_cons_succ]; rfl) (putAll_put (by simp only [Act.put, List.setIfInBounds_toArray, List.set_cons_zero, List.set_cons_succ]; rfl) (putAll_put (by simp only [Act.put, List.setIfInBounds_toArray, List.set_cons_zero, List.set_cons_succ]; rfl) (putAll_put (by simp only [Act.put, List.setIfInBounds_toArray, List.set_cons_zero, List.set_cons_succ]; rfl) (putAll_nil _)))))))))))))))))))))) (below_drew (Below.refl _ _)) ?d2xOps ?d2xFin
      case d2xOps =>
        refine ⟨fun w' hw => ?d2xo0, fun w' hw => ?d2xo1, fun w' hw => ?d2xo2, fun w' hw => ?d2xo3, fun w' hw => ?d2xo4, fun w' hw => ?d2xo5, fun w' hw => ?d2xo6, fun w' hw => ?d2xo7, fun w' hw => ?d2xo8, fun w' hw => ?d2xo9, fun w' hw => ?d2xo10, fun w' hw => ?d2xo11, fun w' hw => ?d2xo12, fun w' hw => ?d2xo13, fun w' hw => ?d2xo14, fun w' hw => ?d2xo15, fun w' hw => ?d2xo16, fun w' hw => ?d2xo17, fun w' hw => ?d2xo18, fun w' hw => ?d2xo19, fun w' hw => ?d2xo20, trivial⟩
        case d2xo0 => obtain ⟨f0, f1⟩ := KEY.out w' hw; go_simp; rfl
        case d2xo1 => obtain ⟨f0, f1⟩ := KEY.out w' hw; go_simp; rfl
        case d2xo2 => obtain ⟨f0, f1⟩ := KEY.out w' hw; go_simp; rfl
        case d2xo3 => obtain ⟨f0, f1⟩ := KEY.out w' hw; go_simp; rfl
        case d2xo4 => obtain ⟨f0, f1⟩ := KEY.out w' hw; go_simp; rfl
        case d2xo5 => obtain ⟨f0, f1⟩ := KEY.out w' hw; (go_simp; refine (K1.out w' hw).mono ?_; rintro e w3 ⟨rfl, hb2⟩; exact ⟨by rfl, hw.trans (hb2.mono hw.size)⟩)
        case d2xo6 => obtain ⟨f0, f1⟩ := KEY.out w' hw; go_simp; rfl
        case d2xo7 => obtain ⟨f0, f1⟩ := KEY.out w' hw; go_simp; rfl
        case d2xo8 => obtain ⟨f0, f1⟩ := KEY.out w' hw; go_simp; rfl
        case d2xo9 => obtain ⟨f0, f1⟩ := KEY.out w' hw; go_simp; rfl
        case d2xo10 => obtain ⟨f0, f1⟩ := KEY.out w' hw; go_simp; rfl
        case d2xo11 => obtain ⟨f0, f1⟩ := KEY.out w' hw; (go_simp; refine (K2.out w' hw).mono ?_; rintro e w3 ⟨rfl, hb2⟩; exact ⟨by rfl, hw.trans (hb2.mono hw.size)⟩)
        case d2xo12 => obtain ⟨f0, f1⟩ := KEY.out w' hw; go_simp; rfl
        case d2xo13 => obtain ⟨f0, f1⟩ := KEY.out w' hw; go_simp; rfl
        case d2xo14 => obtain ⟨f0, f1⟩ := KEY.out w' hw; go_simp; rfl
        case d2xo15 => obtain ⟨f0, f1⟩ := KEY.out w' hw; go_simp; rfl
        case d2xo16 => obtain ⟨f0, f1⟩ := KEY.out w' hw; go_simp; rfl
        case d2xo17 => obtain ⟨f0, f1⟩ := KEY.out w' hw; go_simp; rfl
        case d2xo18 => obtain ⟨f0, f1⟩ := KEY.out w' hw; (go_simp; refine (K3.out w' hw).mono ?_; rintro e w3 ⟨rfl, hb2⟩; exact ⟨by rfl, hw.trans (hb2.mono hw.size)⟩)
        case d2xo19 => obtain ⟨f0, f1⟩ := KEY.out w' hw; go_simp; rfl
        case d2xo20 => obtain ⟨f0, f1⟩ := KEY.out w' hw; go_simp; rfl
      case d2xFin =>
        intro w3 hw3
        go_wp2
        go_ret
        exact ⟨rfl, HB0.out.trans (hw3.mono HB0.out.size)⟩
end Go.Proofs.YtliofoikejdjeaaDoor
namespace Go.Proofs.YtliofoikejdjeaaDoor
open Go.RowKit Go.Proofs.YtliofoikejdjeaaDoorW.PrintWords Go.ChangeShapes Go.WideShapes Go.ChangeAt
open Go.ChangeMaps (open_string)
set_option linter.unusedVariables false
set_option linter.unusedSimpArgs false
set_option maxRecDepth 1000000 in
set_option maxHeartbeats 4000000 in
theorem greadToken_lifted (os : Os) (started : os.Started) (H : Type) (enc : TypeId × Value → H) :
    ReturnsInHanded {} Tryd.checked os 6 .any (fun w args => (Rows.greadTokenSpec.pre enc Tryd.prog Tryd.f6 [] false w args ∧ laidMetH Tryd.prog layErr w) ∧ sizedMet enc Tryd.prog Tryd.f6 (OpenSpec.ofChange Rows.greadTokenSpec) false w args)
      (Rows.greadTokenSpec.post enc Tryd.prog Tryd.f6 false true false false) := by
  refine returns_laid_shaped (C := Tryd.checked) (X := fun w _ => laidMetH Tryd.prog layErr w) (fun _ _ _ hh h => h.of_heap hh) own started (by kernel_rfl) Tryd.func6
    (ChangeSpec.witness_shaped (enc := enc) (C := Tryd.checked) (os := os) (X := fun w _ => laidMetH Tryd.prog layErr w) false (World.doorLaid Tryd.prog 400 os) #[.string ⟨#[]⟩] 8 rfl (World.shaped_of_RefB (by kernel_rfl) (by kernel_rfl)) (by kernel_rfl) (by kernel_rfl) (by kernel_rfl) (err_door os _)) ?_
  intro W base args ds gs before hval0 hW _ _ hL hsh
  have hval : ∀ (j : Nat) t v, Tryd.f6.params[j]? = some t → args[j]? = some v → Value.okWide Tryd.prog W .any base t v := hval0
  have hW' := hW
  obtain ⟨p, q, hA0, hV0, rfl, hfz, hnd⟩ := hW
  have hA : DataW.TrodAll enc Tryd.prog W 0 (fun _ => true) true Tryd.f6.params.toList args.toList ds p := hA0
  rw [Tryd.params6] at hA hval
  obtain ⟨v0, vs0, d0, ds0, p0, q0, hargs, rfl, rfl, h0, r0⟩ := trodAll_cons hA
  obtain ⟨rfl, rfl, rfl⟩ := trodAll_nil r0
  obtain rfl : args = #[v0] := by cases args; simp_all
  obtain ⟨rfl, rfl⟩ := trodVars_none hV0
  have k0 := h0
  have lt0 : ∀ x ∈ p0, x.block < W.heap.size := by obtain ⟨m, hm⟩ := k0; exact DataW.trod_lt m _ _ _ hm
  obtain ⟨a0, rfl, rfl, rfl, wa0⟩ := open_string Tryd.underlying9 (hval 0 9 v0 rfl rfl) h0
  have hmx := mxAt_of_shaped hsh
  have hlaid := err_of_laid hL
  have hc : Calls Tryd.prog 6 #[.string a0] W fun ev W' => ev = .returned (.bool true) ∧ Below W.heap.size W W' := by
    exact law07_GreadToken a0 hmx hlaid
  refine hc.mono fun ev W' ⟨he, bel⟩ => ?_
  subst he
  exact ⟨_, rfl, _, _, _, [], _, [], hW', trodAll_mk1 (shut_bool Tryd.underlying4 _), (trodAll_cons_mk (Below.trod laidOut (by kernel_rfl) (of_decide_eq_true (by kernel_rfl)) k0 bel lt0) (trodAll_mk0)), rfl, bel.frame _, fun h => by cases h⟩
set_option maxRecDepth 1000000 in
theorem greadToken_said : Rows.GreadTokenSaid :=
  OpenClaim.holds_of_wide 6 Tryd.f6 rfl rfl rfl rfl rfl rfl rfl ⟨rfl, rfl, rfl, rfl, rfl⟩ rfl rfl rfl rfl rfl (by kernel_rfl) Tryd.func6 (by kernel_rfl)
    (of_decide_eq_true (by kernel_rfl)) (by unfold Func.isWrapper; first | (rw [if_pos (by decide +kernel)]; kernel_rfl) | (rw [if_neg (by decide +kernel)]; exact ⟨rfl, rfl⟩))
    (fun os started H enc _ => greadToken_lifted os started H enc)
theorem greadToken_card : Rows.GreadTokenCardSaid :=
  Claim7.holds_tied_plain_at .later [] [.handle] true (true, "0083dff0956b659dfa93ea8de3bcb10c9b51277814c94123ec1bf2224cc2d2c7") true
    greadToken_said (fun _ h => by cases h) (by kernel_rfl) (fun _ h => by cases h) greadToken_row_tie rfl ⟨rfl, rfl⟩ (by kernel_rfl) rfl
    (fun f fn hf hfn => by
      obtain rfl : f = 6 := Option.some.inj ((show Tryd.prog.funcNamed "conch/conchlaw07.GreadToken" = some 6 by kernel_rfl).symm.trans hf) |>.symm
      obtain rfl : fn = Tryd.f6 := (Option.some.inj (Tryd.func6.symm.trans hfn)).symm
      exact ⟨by kernel_rfl, fun j t ht => by
        rw [Tryd.params6] at ht
        have hm : t ∈ [9] := by simpa using Array.mem_of_getElem? ht
        have hall : ([9].all fun u => !Tryd.prog.wantsStandIn u) = true := by kernel_rfl
        exact (show Tryd.prog.wantsStandIn t = false by simpa using List.all_eq_true.1 hall t hm)⟩)
    (by kernel_rfl)
#print axioms greadToken_card
end Go.Proofs.YtliofoikejdjeaaDoor
