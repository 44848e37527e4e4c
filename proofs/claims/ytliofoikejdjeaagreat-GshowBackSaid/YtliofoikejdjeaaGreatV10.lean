/- Texts laid one behind the other: B5, B6, B7, BA. -/
import Derived.Test.YtliofoikejdjeaaGreatV9
import Derived.Deep.LoopGhost
import Derived.Recover
/- gread's builder: a symbol of a side. -/
namespace Go.Proofs.YtliofoikejdjeaaGreat
open Go.RowKit Go.Proofs.YtliofoikejdjeaaGreatW.PrintWords Go.Proofs.YtliofoikejdjeaaGreatW.PrintLast
set_option linter.unusedVariables false
set_option linter.unusedSimpArgs false

/-- A method's world: the builder's state, the boxed token. -/
structure TIn (W1 w : World) (b m : Nat) (x : Hd) (rs : List Ru) (B mt mn : Nat) (vT vN vS : Value) (u : Bu) (g : Nat) (t : Tk) (w' : World) : Prop where
  hb : BS W1 w' b m x rs B mt mn vT vN vS u u.ts u.ns
  bk : w'.heap[g]? = some (.cells #[.int .i64 t.k, .string t.s, .int .i64 t.at_] 85 (0, 0))
  fr : Fr B mt vT vT w w'
theorem TIn.drew {W1 w : World} {b m : Nat} {x : Hd} {rs : List Ru} {B mt mn : Nat} {vT vN vS : Value} {u : Bu} {g : Nat} {t : Tk} {w' : World} (h : TIn W1 w b m x rs B mt mn vT vN vS u g t w') : TIn W1 w b m x rs B mt mn vT vN vS u g t w'.drew :=
  ⟨h.hb.later (below_drew (Below.refl _ _)), blk_drew h.bk, h.fr.trans (Fr.later (below_drew (Below.refl _ _)))⟩
set_option maxHeartbeats 8000000 in
set_option maxRecDepth 100000 in
theorem b_symbol_many {W1 w : World} {b m : Nat} {x : Hd} {rs : List Ru} {B mt mn : Nat} {vT vN vS : Value} {u : Bu} (h : BS W1 w b m x rs B mt mn vT vN vS u u.ts u.ns) (t : Tk) (hsz : t.s.size ≤ 10000) (k : Nat) (hu : u.ts.length ≤ 100000) {q p : Int} (hq : placeS u.ts t.s + 1 = q) (hp : (leftsN rs t.s : Int) = p) (h0 : (8 : Int) ≤ (k : Int)) :
    Calls Tryz.prog 101 #[.pointer (some ⟨B, 0, none⟩), tkV t, .int .i64 k] w (TermEnd W1 w b m x rs B mt mn vT vN vS u (symbolB rs t k u.ts)) := by
  have HR : Aside0 (symbolB rs t k u.ts = .error (7, t.at_)) := ⟨by unfold symbolB; rw [if_pos (by omega)]⟩
  have HI : Aside0 (TIn W1 w b m x rs B mt mn vT vN vS u w.heap.size t (w.alloc (.cells #[.int .i64 t.k, .string t.s, .int .i64 t.at_] 85 (0, 0)))) := ⟨⟨h.later (below_alloc (Below.refl _ _) _), blk_new _ _, Fr.later (below_alloc (Below.refl _ _) _)⟩⟩
  have key : ∀ g w', TIn W1 w b m x rs B mt mn vT vN vS u g t w' → w'.cell? ⟨B, 0, none⟩ = some (.pointer (some ⟨b, 0, none⟩)) ∧ w'.cell? ⟨B, 1, none⟩ = some (.map (some mt)) ∧ w'.cell? ⟨b, 5, none⟩ = some (.map (some m)) ∧ w'.cell? ⟨g, 0, none⟩ = some (.int .i64 t.k) ∧ w'.cell? ⟨g, 1, none⟩ = some (.string t.s) ∧ w'.cell? ⟨g, 2, none⟩ = some (.int .i64 t.at_) ∧ (Instr.lookup 59 (.map (some mt)) (.string t.s) false).run Tryz.prog w' = .ok (.int .i64 q) w' ∧ (Instr.lookup 59 (.map (some m)) (.string t.s) false).run Tryz.prog w' = .ok (.int .i64 p) w' := fun g w' hw => by
    obtain ⟨A1, c1, A2, c2, A3, c3, A4, c4, hr, _, _, _, _⟩ := hw.hb.reads
    exact ⟨hw.hb.cells.1, hw.hb.cells.2.1, (hr w' (Below.refl _ _)).2.2.2.2.2, (blk_cell hw.bk 0).trans rfl, (blk_cell hw.bk 1).trans rfl, (blk_cell hw.bk 2).trans rfl, hq ▸ hw.hb.lookT t.s hsz, hp ▸ hw.hb.lookL t.s hsz⟩
  have KEY0 := Aside0.mk key
  clear h hsz hq hp hu key
  unfold tkV
  go_enter Tryz.func101, Tryz.ntmps101
  have f5 : (w.alloc (.cells #[.int .i64 t.k, .string t.s, .int .i64 t.at_] 85 (0, 0))).cell? ⟨w.heap.size, 2, none⟩ = some (.int .i64 t.at_) := (KEY0.out _ _ HI.out).2.2.2.2.2.1
  go_wp2_with (go_at_call 99; ((with_reducible refine (gread_fail _ _ _).mono ?_); rintro e w' ⟨⟨older, rfl, ho⟩, rfl⟩))
  refine ⟨rfl, ?_⟩
  rw [HR.out]
  exact ⟨⟨older, rfl, ho⟩, _, _, HI.out.hb, HI.out.fr⟩
set_option maxHeartbeats 8000000 in
set_option maxRecDepth 100000 in
theorem b_symbol_old {W1 w : World} {b m : Nat} {x : Hd} {rs : List Ru} {B mt mn : Nat} {vT vN vS : Value} {u : Bu} (h : BS W1 w b m x rs B mt mn vT vN vS u u.ts u.ns) (t : Tk) (hsz : t.s.size ≤ 10000) (k : Nat) (hu : u.ts.length ≤ 100000) {q p : Int} (hq : placeS u.ts t.s + 1 = q) (hp : (leftsN rs t.s : Int) = p) (h0 : ¬ (8 : Int) ≤ (k : Int)) (h1 : 0 < q) :
    Calls Tryz.prog 101 #[.pointer (some ⟨B, 0, none⟩), tkV t, .int .i64 k] w (TermEnd W1 w b m x rs B mt mn vT vN vS u (symbolB rs t k u.ts)) := by
  have HR : Aside0 (symbolB rs t k u.ts = .ok u.ts) := ⟨by unfold symbolB; rw [if_neg (by omega), if_pos (by omega)]⟩
  have HI : Aside0 (TIn W1 w b m x rs B mt mn vT vN vS u w.heap.size t (w.alloc (.cells #[.int .i64 t.k, .string t.s, .int .i64 t.at_] 85 (0, 0)))) := ⟨⟨h.later (below_alloc (Below.refl _ _) _), blk_new _ _, Fr.later (below_alloc (Below.refl _ _) _)⟩⟩
  have key : ∀ g w', TIn W1 w b m x rs B mt mn vT vN vS u g t w' → w'.cell? ⟨B, 0, none⟩ = some (.pointer (some ⟨b, 0, none⟩)) ∧ w'.cell? ⟨B, 1, none⟩ = some (.map (some mt)) ∧ w'.cell? ⟨b, 5, none⟩ = some (.map (some m)) ∧ w'.cell? ⟨g, 0, none⟩ = some (.int .i64 t.k) ∧ w'.cell? ⟨g, 1, none⟩ = some (.string t.s) ∧ w'.cell? ⟨g, 2, none⟩ = some (.int .i64 t.at_) ∧ (Instr.lookup 59 (.map (some mt)) (.string t.s) false).run Tryz.prog w' = .ok (.int .i64 q) w' ∧ (Instr.lookup 59 (.map (some m)) (.string t.s) false).run Tryz.prog w' = .ok (.int .i64 p) w' := fun g w' hw => by
    obtain ⟨A1, c1, A2, c2, A3, c3, A4, c4, hr, _, _, _, _⟩ := hw.hb.reads
    exact ⟨hw.hb.cells.1, hw.hb.cells.2.1, (hr w' (Below.refl _ _)).2.2.2.2.2, (blk_cell hw.bk 0).trans rfl, (blk_cell hw.bk 1).trans rfl, (blk_cell hw.bk 2).trans rfl, hq ▸ hw.hb.lookT t.s hsz, hp ▸ hw.hb.lookL t.s hsz⟩
  have KEY0 := Aside0.mk key
  clear h hsz hq hp hu key
  unfold tkV
  go_enter Tryz.func101, Tryz.ntmps101
  go_wp2
  obtain ⟨g, hgg⟩ : ∃ g, w.heap.size = g := ⟨_, rfl⟩
  rw [hgg] at HI
  have KEY := Aside0.mk (KEY0.out g)
  clear KEY0
  refine wp_region_det (vs := [?d1xv0, ?d1xv1, ?d1xv2, ?d1xv3, ?d1xv4, ?d1xv5, ?d1xv6, ?d1xv7, ?d1xv8]) (fun w' => TIn W1 w b m x rs B mt mn vT vN vS u g t w') rfl (by kernel_rfl) (putAll_put (by simp only [Act.put, List.setIfInBounds_toArray, List.set_cons_zero, List.set_cons_succ]; rfl) (putAll_put (by simp only [Act.put, List.setIfInBounds_toArray, List.set_cons_zero, List.set_cons_succ]; rfl) (putAll_put (by simp only [Act.put, List.setIfInBounds_toArray, List.set_cons_zero, List.set_cons_succ]; rfl) (putAll_put (by simp only [Act.put, List.setIfInBounds_toArray, List.set_cons_zero, List.set_cons_succ]; rfl) (putAll_put (by simp only [Act.put, List.setIfInBounds_toArray, List.set_cons_zero, List.set_cons_succ]; rfl) (putAll_put (by simp only [Act.put, List.setIfInBounds_toArray, List.set_cons_zero, List.set_cons_succ]; rfl) (putAll_put (by simp only [Act.put, List.setIfInBounds_toArray, List.set_cons_zero, List.set_cons_succ]; rfl) (putAll_put (by simp only [Act.put, List.setIfInBounds_toArray, List.set_cons_zero, List.set_cons_succ]; rfl) (putAll_put (by simp only [Act.put, List.setIfInBounds_toArray, List.set_cons_zero, List.set_cons_succ]; rfl) (putAll_nil _)))))))))) (HI.out.drew) ?d1xOps ?d1xFin
  case d1xOps =>
    refine ⟨fun w' hw => ?d1xo0, fun w' hw => ?d1xo1, fun w' hw => ?d1xo2, fun w' hw => ?d1xo3, fun w' hw => ?d1xo4, fun w' hw => ?d1xo5, fun w' hw => ?d1xo6, fun w' hw => ?d1xo7, fun w' hw => ?d1xo8, trivial⟩
    case d1xo0 => obtain ⟨f0, f1, f2, f3, f4, f5, f6, f7⟩ := KEY.out w' hw; go_simp; rfl
    case d1xo1 => obtain ⟨f0, f1, f2, f3, f4, f5, f6, f7⟩ := KEY.out w' hw; go_simp; rfl
    case d1xo2 => obtain ⟨f0, f1, f2, f3, f4, f5, f6, f7⟩ := KEY.out w' hw; go_simp; rfl
    case d1xo3 => obtain ⟨f0, f1, f2, f3, f4, f5, f6, f7⟩ := KEY.out w' hw; go_simp; rfl
    case d1xo4 => obtain ⟨f0, f1, f2, f3, f4, f5, f6, f7⟩ := KEY.out w' hw; go_simp; rfl
    case d1xo5 => obtain ⟨f0, f1, f2, f3, f4, f5, f6, f7⟩ := KEY.out w' hw; go_simp; rfl
    case d1xo6 => obtain ⟨f0, f1, f2, f3, f4, f5, f6, f7⟩ := KEY.out w' hw; go_simp; rfl
    case d1xo7 => obtain ⟨f0, f1, f2, f3, f4, f5, f6, f7⟩ := KEY.out w' hw; go_simp; rfl
    case d1xo8 => obtain ⟨f0, f1, f2, f3, f4, f5, f6, f7⟩ := KEY.out w' hw; go_simp; rfl
  case d1xFin =>
    intro w1 hw1
    have HI1 := Aside0.mk hw1
    clear hw1 HI
    go_wp2
    (first | go_end0 | refine bodyPost_ret (results_none rfl _ _ _) rfl ?_)
    rw [HR.out]
    exact ⟨rfl, _, HI1.out.hb, HI1.out.fr⟩
set_option maxHeartbeats 8000000 in
set_option maxRecDepth 100000 in
theorem b_symbol_term {W1 w : World} {b m : Nat} {x : Hd} {rs : List Ru} {B mt mn : Nat} {vT vN vS : Value} {u : Bu} (h : BS W1 w b m x rs B mt mn vT vN vS u u.ts u.ns) (t : Tk) (hsz : t.s.size ≤ 10000) (k : Nat) (hu : u.ts.length ≤ 100000) {q p : Int} (hq : placeS u.ts t.s + 1 = q) (hp : (leftsN rs t.s : Int) = p) (h0 : ¬ (8 : Int) ≤ (k : Int)) (h1 : ¬ 0 < q) (h2 : t.k = 2) :
    Calls Tryz.prog 101 #[.pointer (some ⟨B, 0, none⟩), tkV t, .int .i64 k] w (TermEnd W1 w b m x rs B mt mn vT vN vS u (symbolB rs t k u.ts)) := by
  have HR : Aside0 (symbolB rs t k u.ts = termB t u.ts) := ⟨by unfold symbolB; rw [if_neg (by omega), if_neg (by omega), if_pos h2]⟩
  have HI : Aside0 (TIn W1 w b m x rs B mt mn vT vN vS u w.heap.size t (w.alloc (.cells #[.int .i64 t.k, .string t.s, .int .i64 t.at_] 85 (0, 0)))) := ⟨⟨h.later (below_alloc (Below.refl _ _) _), blk_new _ _, Fr.later (below_alloc (Below.refl _ _) _)⟩⟩
  have key : ∀ g w', TIn W1 w b m x rs B mt mn vT vN vS u g t w' → w'.cell? ⟨B, 0, none⟩ = some (.pointer (some ⟨b, 0, none⟩)) ∧ w'.cell? ⟨B, 1, none⟩ = some (.map (some mt)) ∧ w'.cell? ⟨b, 5, none⟩ = some (.map (some m)) ∧ w'.cell? ⟨g, 0, none⟩ = some (.int .i64 t.k) ∧ w'.cell? ⟨g, 1, none⟩ = some (.string t.s) ∧ w'.cell? ⟨g, 2, none⟩ = some (.int .i64 t.at_) ∧ (Instr.lookup 59 (.map (some mt)) (.string t.s) false).run Tryz.prog w' = .ok (.int .i64 q) w' ∧ (Instr.lookup 59 (.map (some m)) (.string t.s) false).run Tryz.prog w' = .ok (.int .i64 p) w' := fun g w' hw => by
    obtain ⟨A1, c1, A2, c2, A3, c3, A4, c4, hr, _, _, _, _⟩ := hw.hb.reads
    exact ⟨hw.hb.cells.1, hw.hb.cells.2.1, (hr w' (Below.refl _ _)).2.2.2.2.2, (blk_cell hw.bk 0).trans rfl, (blk_cell hw.bk 1).trans rfl, (blk_cell hw.bk 2).trans rfl, hq ▸ hw.hb.lookT t.s hsz, hp ▸ hw.hb.lookL t.s hsz⟩
  have KEY0 := Aside0.mk key
  have HPP : Aside0 (placeS u.ts t.s = -1) := ⟨by have := placeS_ge u.ts t.s; omega⟩
  have HSZ := Aside0.mk hsz
  have HU := Aside0.mk hu
  have hkb : (t.k == 2) = true := by rw [h2]; rfl
  clear h2
  clear h hsz hq hp hu key
  unfold tkV
  go_enter Tryz.func101, Tryz.ntmps101
  go_wp2
  obtain ⟨g, hgg⟩ : ∃ g, w.heap.size = g := ⟨_, rfl⟩
  rw [hgg] at HI
  have KEY := Aside0.mk (KEY0.out g)
  clear KEY0
  refine wp_region_det (vs := [?d2xv0, ?d2xv1, ?d2xv2, ?d2xv3, ?d2xv4, ?d2xv5, ?d2xv6, ?d2xv7, ?d2xv8]) (fun w' => TIn W1 w b m x rs B mt mn vT vN vS u g t w') rfl (by kernel_rfl) (putAll_put (by simp only [Act.put, List.setIfInBounds_toArray, List.set_cons_zero, List.set_cons_succ]; rfl) (putAll_put (by simp only [Act.put, List.setIfInBounds_toArray, List.set_cons_zero, List.set_cons_succ]; rfl) (putAll_put (by simp only [Act.put, List.setIfInBounds_toArray, List.set_cons_zero, List.set_cons_succ]; rfl) (putAll_put (by simp only [Act.put, List.setIfInBounds_toArray, List.set_cons_zero, List.set_cons_succ]; rfl) (putAll_put (by simp only [Act.put, List.setIfInBounds_toArray, List.set_cons_zero, List.set_cons_succ]; rfl) (putAll_put (by simp only [Act.put, List.setIfInBounds_toArray, List.set_cons_zero, List.set_cons_succ]; rfl) (putAll_put (by simp only [Act.put, List.setIfInBounds_toArray, List.set_cons_zero, List.set_cons_succ]; rfl) (putAll_put (by simp only [Act.put, List.setIfInBounds_toArray, List.set_cons_zero, List.set_cons_succ]; rfl) (putAll_put (by simp only [Act.put, List.setIfInBounds_toArray, List.set_cons_zero, List.set_cons_succ]; rfl) (putAll_nil _)))))))))) (HI.out.drew) ?d2xOps ?d2xFin
  case d2xOps =>
    refine ⟨fun w' hw => ?d2xo0, fun w' hw => ?d2xo1, fun w' hw => ?d2xo2, fun w' hw => ?d2xo3, fun w' hw => ?d2xo4, fun w' hw => ?d2xo5, fun w' hw => ?d2xo6, fun w' hw => ?d2xo7, fun w' hw => ?d2xo8, trivial⟩
    case d2xo0 => obtain ⟨f0, f1, f2, f3, f4, f5, f6, f7⟩ := KEY.out w' hw; go_simp; rfl
    case d2xo1 => obtain ⟨f0, f1, f2, f3, f4, f5, f6, f7⟩ := KEY.out w' hw; go_simp; rfl
    case d2xo2 => obtain ⟨f0, f1, f2, f3, f4, f5, f6, f7⟩ := KEY.out w' hw; go_simp; rfl
    case d2xo3 => obtain ⟨f0, f1, f2, f3, f4, f5, f6, f7⟩ := KEY.out w' hw; go_simp; rfl
    case d2xo4 => obtain ⟨f0, f1, f2, f3, f4, f5, f6, f7⟩ := KEY.out w' hw; go_simp; rfl
    case d2xo5 => obtain ⟨f0, f1, f2, f3, f4, f5, f6, f7⟩ := KEY.out w' hw; go_simp; rfl
    case d2xo6 => obtain ⟨f0, f1, f2, f3, f4, f5, f6, f7⟩ := KEY.out w' hw; go_simp; rfl
    case d2xo7 => obtain ⟨f0, f1, f2, f3, f4, f5, f6, f7⟩ := KEY.out w' hw; go_simp; rfl
    case d2xo8 => obtain ⟨f0, f1, f2, f3, f4, f5, f6, f7⟩ := KEY.out w' hw; go_simp; rfl
  case d2xFin =>
    intro w1 hw1
    have HI1 := Aside0.mk hw1
    clear hw1 HI
    obtain ⟨f0, f1, f2, f3, f4, f5, f6, f7⟩ := KEY.out w1 HI1.out
    have HT := Aside0.mk (b_term HI1.out.hb t HSZ.out HU.out HPP.out)
    unfold tkV at HT
    cases hR : termB t u.ts with
    | error f =>
      rw [hR] at HT HR
      clear hR
      go_wp2_with (go_at_call 122; ((with_reducible refine HT.out.mono ?_); rintro e w2 ⟨⟨older, rfl, ho⟩, vT', u', hb, hf⟩))
      refine ⟨rfl, ?_⟩
      rw [HR.out]
      exact ⟨⟨older, rfl, ho⟩, _, _, hb, HI1.out.fr.trans hf⟩
    | ok ts' =>
      rw [hR] at HT HR
      clear hR
      go_wp2_with (go_at_call 122; ((with_reducible refine HT.out.mono ?_); rintro e w2 ⟨rfl, vT', h3, h4⟩; have H3 := Aside0.mk h3; have H4 := Aside0.mk h4; clear h3 h4))
      (first | go_end0 | refine bodyPost_ret (results_none rfl _ _ _) rfl ?_)
      rw [HR.out]
      exact ⟨rfl, _, H3.out, HI1.out.fr.trans H4.out⟩
set_option maxHeartbeats 8000000 in
set_option maxRecDepth 100000 in
theorem b_symbol_none {W1 w : World} {b m : Nat} {x : Hd} {rs : List Ru} {B mt mn : Nat} {vT vN vS : Value} {u : Bu} (h : BS W1 w b m x rs B mt mn vT vN vS u u.ts u.ns) (t : Tk) (hsz : t.s.size ≤ 10000) (k : Nat) (hu : u.ts.length ≤ 100000) {q p : Int} (hq : placeS u.ts t.s + 1 = q) (hp : (leftsN rs t.s : Int) = p) (h0 : ¬ (8 : Int) ≤ (k : Int)) (h1 : ¬ 0 < q) (h2 : t.k ≠ 2) (h3 : p = 0) :
    Calls Tryz.prog 101 #[.pointer (some ⟨B, 0, none⟩), tkV t, .int .i64 k] w (TermEnd W1 w b m x rs B mt mn vT vN vS u (symbolB rs t k u.ts)) := by
  have HR : Aside0 (symbolB rs t k u.ts = .error (9, t.at_)) := ⟨by unfold symbolB; rw [if_neg (by omega), if_neg (by omega), if_neg h2, if_pos (by omega)]⟩
  have HI : Aside0 (TIn W1 w b m x rs B mt mn vT vN vS u w.heap.size t (w.alloc (.cells #[.int .i64 t.k, .string t.s, .int .i64 t.at_] 85 (0, 0)))) := ⟨⟨h.later (below_alloc (Below.refl _ _) _), blk_new _ _, Fr.later (below_alloc (Below.refl _ _) _)⟩⟩
  have key : ∀ g w', TIn W1 w b m x rs B mt mn vT vN vS u g t w' → w'.cell? ⟨B, 0, none⟩ = some (.pointer (some ⟨b, 0, none⟩)) ∧ w'.cell? ⟨B, 1, none⟩ = some (.map (some mt)) ∧ w'.cell? ⟨b, 5, none⟩ = some (.map (some m)) ∧ w'.cell? ⟨g, 0, none⟩ = some (.int .i64 t.k) ∧ w'.cell? ⟨g, 1, none⟩ = some (.string t.s) ∧ w'.cell? ⟨g, 2, none⟩ = some (.int .i64 t.at_) ∧ (Instr.lookup 59 (.map (some mt)) (.string t.s) false).run Tryz.prog w' = .ok (.int .i64 q) w' ∧ (Instr.lookup 59 (.map (some m)) (.string t.s) false).run Tryz.prog w' = .ok (.int .i64 p) w' := fun g w' hw => by
    obtain ⟨A1, c1, A2, c2, A3, c3, A4, c4, hr, _, _, _, _⟩ := hw.hb.reads
    exact ⟨hw.hb.cells.1, hw.hb.cells.2.1, (hr w' (Below.refl _ _)).2.2.2.2.2, (blk_cell hw.bk 0).trans rfl, (blk_cell hw.bk 1).trans rfl, (blk_cell hw.bk 2).trans rfl, hq ▸ hw.hb.lookT t.s hsz, hp ▸ hw.hb.lookL t.s hsz⟩
  have KEY0 := Aside0.mk key
  clear h hsz hq hp hu key
  unfold tkV
  go_enter Tryz.func101, Tryz.ntmps101
  go_wp2
  obtain ⟨g, hgg⟩ : ∃ g, w.heap.size = g := ⟨_, rfl⟩
  rw [hgg] at HI
  have KEY := Aside0.mk (KEY0.out g)
  clear KEY0
  refine wp_region_det (vs := [?d3xv0, ?d3xv1, ?d3xv2, ?d3xv3, ?d3xv4, ?d3xv5, ?d3xv6, ?d3xv7, ?d3xv8]) (fun w' => TIn W1 w b m x rs B mt mn vT vN vS u g t w') rfl (by kernel_rfl) (putAll_put (by simp only [Act.put, List.setIfInBounds_toArray, List.set_cons_zero, List.set_cons_succ]; rfl) (putAll_put (by simp only [Act.put, List.setIfInBounds_toArray, List.set_cons_zero, List.set_cons_succ]; rfl) (putAll_put (by simp only [Act.put, List.setIfInBounds_toArray, List.set_cons_zero, List.set_cons_succ]; rfl) (putAll_put (by simp only [Act.put, List.setIfInBounds_toArray, List.set_cons_zero, List.set_cons_succ]; rfl) (putAll_put (by simp only [Act.put, List.setIfInBounds_toArray, List.set_cons_zero, List.set_cons_succ]; rfl) (putAll_put (by simp only [Act.put, List.setIfInBounds_toArray, List.set_cons_zero, List.set_cons_succ]; rfl) (putAll_put (by simp only [Act.put, List.setIfInBounds_toArray, List.set_cons_zero, List.set_cons_succ]; rfl) (putAll_put (by simp only [Act.put, List.setIfInBounds_toArray, List.set_cons_zero, List.set_cons_succ]; rfl) (putAll_put (by simp only [Act.put, List.setIfInBounds_toArray, List.set_cons_zero, List.set_cons_succ]; rfl) (putAll_nil _)))))))))) (HI.out.drew) ?d3xOps ?d3xFin
  case d3xOps =>
    refine ⟨fun w' hw => ?d3xo0, fun w' hw => ?d3xo1, fun w' hw => ?d3xo2, fun w' hw => ?d3xo3, fun w' hw => ?d3xo4, fun w' hw => ?d3xo5, fun w' hw => ?d3xo6, fun w' hw => ?d3xo7, fun w' hw => ?d3xo8, trivial⟩
    case d3xo0 => obtain ⟨f0, f1, f2, f3, f4, f5, f6, f7⟩ := KEY.out w' hw; go_simp; rfl
    case d3xo1 => obtain ⟨f0, f1, f2, f3, f4, f5, f6, f7⟩ := KEY.out w' hw; go_simp; rfl
    case d3xo2 => obtain ⟨f0, f1, f2, f3, f4, f5, f6, f7⟩ := KEY.out w' hw; go_simp; rfl
    case d3xo3 => obtain ⟨f0, f1, f2, f3, f4, f5, f6, f7⟩ := KEY.out w' hw; go_simp; rfl
    case d3xo4 => obtain ⟨f0, f1, f2, f3, f4, f5, f6, f7⟩ := KEY.out w' hw; go_simp; rfl
    case d3xo5 => obtain ⟨f0, f1, f2, f3, f4, f5, f6, f7⟩ := KEY.out w' hw; go_simp; rfl
    case d3xo6 => obtain ⟨f0, f1, f2, f3, f4, f5, f6, f7⟩ := KEY.out w' hw; go_simp; rfl
    case d3xo7 => obtain ⟨f0, f1, f2, f3, f4, f5, f6, f7⟩ := KEY.out w' hw; go_simp; rfl
    case d3xo8 => obtain ⟨f0, f1, f2, f3, f4, f5, f6, f7⟩ := KEY.out w' hw; go_simp; rfl
  case d3xFin =>
    intro w1 hw1
    have HI1 := Aside0.mk hw1
    clear hw1 HI
    obtain ⟨f0, f1, f2, f3, f4, f5, f6, f7⟩ := KEY.out w1 HI1.out
    go_wp2
    clear f0 f1 f2 f3 f4 f5 f6 f7
    refine wp_region_det (vs := [?d4xv0, ?d4xv1, ?d4xv2, ?d4xv3, ?d4xv4, ?d4xv5, ?d4xv6, ?d4xv7, ?d4xv8, ?d4xv9, ?d4xv10, ?d4xv11]) (fun w' => TIn W1 w b m x rs B mt mn vT vN vS u g t w') rfl (by kernel_rfl) (putAll_put (by simp only [Act.put, List.setIfInBounds_toArray, List.set_cons_zero, List.set_cons_succ]; rfl) (putAll_put (by simp only [Act.put, List.setIfInBounds_toArray, List.set_cons_zero, List.set_cons_succ]; rfl) (putAll_put (by simp only [Act.put, List.setIfInBounds_toArray, List.set_cons_zero, List.set_cons_succ]; rfl) (putAll_put (by simp only [Act.put, List.setIfInBounds_toArray, List.set_cons_zero, List.set_cons_succ]; rfl) (putAll_put (by simp only [Act.put, List.setIfInBounds_toArray, List.set_cons_zero, List.set_cons_succ]; rfl) (putAll_put (by simp only [Act.put, List.setIfInBounds_toArray, List.set_cons_zero, List.set_cons_succ]; rfl) (putAll_put (by simp only [Act.put, List.setIfInBounds_toArray, List.set_cons_zero, List.set_cons_succ]; rfl) (putAll_put (by simp only [Act.put, List.setIfInBounds_toArray, List.set_cons_zero, List.set_cons_succ]; rfl) (putAll_put (by simp only [Act.put, List.setIfInBounds_toArray, List.set_cons_zero, List.set_cons_succ]; rfl) (putAll_put (by simp only [Act.put, List.setIfInBounds_toArray, List.set_cons_zero, List.set_cons_succ]; rfl) (putAll_put (by simp only [Act.put, List.setIfInBounds_toArray, List.set_cons_zero, List.set_cons_succ]; rfl) (putAll_put (by simp only [Act.put, List.setIfInBounds_toArray, List.set_cons_zero, List.set_cons_succ]; rfl) (putAll_nil _))))))))))))) (HI1.out.drew) ?d4xOps ?d4xFin
    case d4xOps =>
      refine ⟨fun w' hw => ?d4xo0, fun w' hw => ?d4xo1, fun w' hw => ?d4xo2, fun w' hw => ?d4xo3, fun w' hw => ?d4xo4, fun w' hw => ?d4xo5, fun w' hw => ?d4xo6, fun w' hw => ?d4xo7, fun w' hw => ?d4xo8, fun w' hw => ?d4xo9, fun w' hw => ?d4xo10, fun w' hw => ?d4xo11, trivial⟩
      case d4xo0 => obtain ⟨f0, f1, f2, f3, f4, f5, f6, f7⟩ := KEY.out w' hw; go_simp; rfl
      case d4xo1 => obtain ⟨f0, f1, f2, f3, f4, f5, f6, f7⟩ := KEY.out w' hw; go_simp; rfl
      case d4xo2 => obtain ⟨f0, f1, f2, f3, f4, f5, f6, f7⟩ := KEY.out w' hw; go_simp; rfl
      case d4xo3 => obtain ⟨f0, f1, f2, f3, f4, f5, f6, f7⟩ := KEY.out w' hw; go_simp; rfl
      case d4xo4 => obtain ⟨f0, f1, f2, f3, f4, f5, f6, f7⟩ := KEY.out w' hw; go_simp; rfl
      case d4xo5 => obtain ⟨f0, f1, f2, f3, f4, f5, f6, f7⟩ := KEY.out w' hw; go_simp; rfl
      case d4xo6 => obtain ⟨f0, f1, f2, f3, f4, f5, f6, f7⟩ := KEY.out w' hw; go_simp; rfl
      case d4xo7 => obtain ⟨f0, f1, f2, f3, f4, f5, f6, f7⟩ := KEY.out w' hw; go_simp; rfl
      case d4xo8 => obtain ⟨f0, f1, f2, f3, f4, f5, f6, f7⟩ := KEY.out w' hw; go_simp; rfl
      case d4xo9 => obtain ⟨f0, f1, f2, f3, f4, f5, f6, f7⟩ := KEY.out w' hw; go_simp; rfl
      case d4xo10 => obtain ⟨f0, f1, f2, f3, f4, f5, f6, f7⟩ := KEY.out w' hw; go_simp; rfl
      case d4xo11 => obtain ⟨f0, f1, f2, f3, f4, f5, f6, f7⟩ := KEY.out w' hw; go_simp; rfl
    case d4xFin =>
      intro w2 hw2
      have HI2 := Aside0.mk hw2
      clear hw2 HI1
      have f5 := (KEY.out _ HI2.out).2.2.2.2.2.1
      go_wp2_with (go_at_call 99; ((with_reducible refine (gread_fail _ _ _).mono ?_); rintro e w' ⟨⟨older, rfl, ho⟩, rfl⟩))
      refine ⟨rfl, ?_⟩
      rw [HR.out]
      exact ⟨⟨older, rfl, ho⟩, _, _, HI2.out.hb, HI2.out.fr⟩
set_option maxHeartbeats 8000000 in
set_option maxRecDepth 100000 in
theorem b_symbol_fine {W1 w : World} {b m : Nat} {x : Hd} {rs : List Ru} {B mt mn : Nat} {vT vN vS : Value} {u : Bu} (h : BS W1 w b m x rs B mt mn vT vN vS u u.ts u.ns) (t : Tk) (hsz : t.s.size ≤ 10000) (k : Nat) (hu : u.ts.length ≤ 100000) {q p : Int} (hq : placeS u.ts t.s + 1 = q) (hp : (leftsN rs t.s : Int) = p) (h0 : ¬ (8 : Int) ≤ (k : Int)) (h1 : ¬ 0 < q) (h2 : t.k ≠ 2) (h3 : p ≠ 0) :
    Calls Tryz.prog 101 #[.pointer (some ⟨B, 0, none⟩), tkV t, .int .i64 k] w (TermEnd W1 w b m x rs B mt mn vT vN vS u (symbolB rs t k u.ts)) := by
  have HR : Aside0 (symbolB rs t k u.ts = .ok u.ts) := ⟨by unfold symbolB; rw [if_neg (by omega), if_neg (by omega), if_neg h2, if_neg (by omega)]⟩
  have HI : Aside0 (TIn W1 w b m x rs B mt mn vT vN vS u w.heap.size t (w.alloc (.cells #[.int .i64 t.k, .string t.s, .int .i64 t.at_] 85 (0, 0)))) := ⟨⟨h.later (below_alloc (Below.refl _ _) _), blk_new _ _, Fr.later (below_alloc (Below.refl _ _) _)⟩⟩
  have key : ∀ g w', TIn W1 w b m x rs B mt mn vT vN vS u g t w' → w'.cell? ⟨B, 0, none⟩ = some (.pointer (some ⟨b, 0, none⟩)) ∧ w'.cell? ⟨B, 1, none⟩ = some (.map (some mt)) ∧ w'.cell? ⟨b, 5, none⟩ = some (.map (some m)) ∧ w'.cell? ⟨g, 0, none⟩ = some (.int .i64 t.k) ∧ w'.cell? ⟨g, 1, none⟩ = some (.string t.s) ∧ w'.cell? ⟨g, 2, none⟩ = some (.int .i64 t.at_) ∧ (Instr.lookup 59 (.map (some mt)) (.string t.s) false).run Tryz.prog w' = .ok (.int .i64 q) w' ∧ (Instr.lookup 59 (.map (some m)) (.string t.s) false).run Tryz.prog w' = .ok (.int .i64 p) w' := fun g w' hw => by
    obtain ⟨A1, c1, A2, c2, A3, c3, A4, c4, hr, _, _, _, _⟩ := hw.hb.reads
    exact ⟨hw.hb.cells.1, hw.hb.cells.2.1, (hr w' (Below.refl _ _)).2.2.2.2.2, (blk_cell hw.bk 0).trans rfl, (blk_cell hw.bk 1).trans rfl, (blk_cell hw.bk 2).trans rfl, hq ▸ hw.hb.lookT t.s hsz, hp ▸ hw.hb.lookL t.s hsz⟩
  have KEY0 := Aside0.mk key
  clear h hsz hq hp hu key
  unfold tkV
  go_enter Tryz.func101, Tryz.ntmps101
  go_wp2
  obtain ⟨g, hgg⟩ : ∃ g, w.heap.size = g := ⟨_, rfl⟩
  rw [hgg] at HI
  have KEY := Aside0.mk (KEY0.out g)
  clear KEY0
  refine wp_region_det (vs := [?d5xv0, ?d5xv1, ?d5xv2, ?d5xv3, ?d5xv4, ?d5xv5, ?d5xv6, ?d5xv7, ?d5xv8]) (fun w' => TIn W1 w b m x rs B mt mn vT vN vS u g t w') rfl (by kernel_rfl) (putAll_put (by simp only [Act.put, List.setIfInBounds_toArray, List.set_cons_zero, List.set_cons_succ]; rfl) (putAll_put (by simp only [Act.put, List.setIfInBounds_toArray, List.set_cons_zero, List.set_cons_succ]; rfl) (putAll_put (by simp only [Act.put, List.setIfInBounds_toArray, List.set_cons_zero, List.set_cons_succ]; rfl) (putAll_put (by simp only [Act.put, List.setIfInBounds_toArray, List.set_cons_zero, List.set_cons_succ]; rfl) (putAll_put (by simp only [Act.put, List.setIfInBounds_toArray, List.set_cons_zero, List.set_cons_succ]; rfl) (putAll_put (by simp only [Act.put, List.setIfInBounds_toArray, List.set_cons_zero, List.set_cons_succ]; rfl) (putAll_put (by simp only [Act.put, List.setIfInBounds_toArray, List.set_cons_zero, List.set_cons_succ]; rfl) (putAll_put (by simp only [Act.put, List.setIfInBounds_toArray, List.set_cons_zero, List.set_cons_succ]; rfl) (putAll_put (by simp only [Act.put, List.setIfInBounds_toArray, List.set_cons_zero, List.set_cons_succ]; rfl) (putAll_nil _)))))))))) (HI.out.drew) ?d5xOps ?d5xFin
  case d5xOps =>
    refine ⟨fun w' hw => ?d5xo0, fun w' hw => ?d5xo1, fun w' hw => ?d5xo2, fun w' hw => ?d5xo3, fun w' hw => ?d5xo4, fun w' hw => ?d5xo5, fun w' hw => ?d5xo6, fun w' hw => ?d5xo7, fun w' hw => ?d5xo8, trivial⟩
    case d5xo0 => obtain ⟨f0, f1, f2, f3, f4, f5, f6, f7⟩ := KEY.out w' hw; go_simp; rfl
    case d5xo1 => obtain ⟨f0, f1, f2, f3, f4, f5, f6, f7⟩ := KEY.out w' hw; go_simp; rfl
    case d5xo2 => obtain ⟨f0, f1, f2, f3, f4, f5, f6, f7⟩ := KEY.out w' hw; go_simp; rfl
    case d5xo3 => obtain ⟨f0, f1, f2, f3, f4, f5, f6, f7⟩ := KEY.out w' hw; go_simp; rfl
    case d5xo4 => obtain ⟨f0, f1, f2, f3, f4, f5, f6, f7⟩ := KEY.out w' hw; go_simp; rfl
    case d5xo5 => obtain ⟨f0, f1, f2, f3, f4, f5, f6, f7⟩ := KEY.out w' hw; go_simp; rfl
    case d5xo6 => obtain ⟨f0, f1, f2, f3, f4, f5, f6, f7⟩ := KEY.out w' hw; go_simp; rfl
    case d5xo7 => obtain ⟨f0, f1, f2, f3, f4, f5, f6, f7⟩ := KEY.out w' hw; go_simp; rfl
    case d5xo8 => obtain ⟨f0, f1, f2, f3, f4, f5, f6, f7⟩ := KEY.out w' hw; go_simp; rfl
  case d5xFin =>
    intro w1 hw1
    have HI1 := Aside0.mk hw1
    clear hw1 HI
    obtain ⟨f0, f1, f2, f3, f4, f5, f6, f7⟩ := KEY.out w1 HI1.out
    go_wp2
    clear f0 f1 f2 f3 f4 f5 f6 f7
    refine wp_region_det (vs := [?d6xv0, ?d6xv1, ?d6xv2, ?d6xv3, ?d6xv4, ?d6xv5, ?d6xv6, ?d6xv7, ?d6xv8, ?d6xv9, ?d6xv10, ?d6xv11]) (fun w' => TIn W1 w b m x rs B mt mn vT vN vS u g t w') rfl (by kernel_rfl) (putAll_put (by simp only [Act.put, List.setIfInBounds_toArray, List.set_cons_zero, List.set_cons_succ]; rfl) (putAll_put (by simp only [Act.put, List.setIfInBounds_toArray, List.set_cons_zero, List.set_cons_succ]; rfl) (putAll_put (by simp only [Act.put, List.setIfInBounds_toArray, List.set_cons_zero, List.set_cons_succ]; rfl) (putAll_put (by simp only [Act.put, List.setIfInBounds_toArray, List.set_cons_zero, List.set_cons_succ]; rfl) (putAll_put (by simp only [Act.put, List.setIfInBounds_toArray, List.set_cons_zero, List.set_cons_succ]; rfl) (putAll_put (by simp only [Act.put, List.setIfInBounds_toArray, List.set_cons_zero, List.set_cons_succ]; rfl) (putAll_put (by simp only [Act.put, List.setIfInBounds_toArray, List.set_cons_zero, List.set_cons_succ]; rfl) (putAll_put (by simp only [Act.put, List.setIfInBounds_toArray, List.set_cons_zero, List.set_cons_succ]; rfl) (putAll_put (by simp only [Act.put, List.setIfInBounds_toArray, List.set_cons_zero, List.set_cons_succ]; rfl) (putAll_put (by simp only [Act.put, List.setIfInBounds_toArray, List.set_cons_zero, List.set_cons_succ]; rfl) (putAll_put (by simp only [Act.put, List.setIfInBounds_toArray, List.set_cons_zero, List.set_cons_succ]; rfl) (putAll_put (by simp only [Act.put, List.setIfInBounds_toArray, List.set_cons_zero, List.set_cons_succ]; rfl) (putAll_nil _))))))))))))) (HI1.out.drew) ?d6xOps ?d6xFin
    case d6xOps =>
      refine ⟨fun w' hw => ?d6xo0, fun w' hw => ?d6xo1, fun w' hw => ?d6xo2, fun w' hw => ?d6xo3, fun w' hw => ?d6xo4, fun w' hw => ?d6xo5, fun w' hw => ?d6xo6, fun w' hw => ?d6xo7, fun w' hw => ?d6xo8, fun w' hw => ?d6xo9, fun w' hw => ?d6xo10, fun w' hw => ?d6xo11, trivial⟩
      case d6xo0 => obtain ⟨f0, f1, f2, f3, f4, f5, f6, f7⟩ := KEY.out w' hw; go_simp; rfl
      case d6xo1 => obtain ⟨f0, f1, f2, f3, f4, f5, f6, f7⟩ := KEY.out w' hw; go_simp; rfl
      case d6xo2 => obtain ⟨f0, f1, f2, f3, f4, f5, f6, f7⟩ := KEY.out w' hw; go_simp; rfl
      case d6xo3 => obtain ⟨f0, f1, f2, f3, f4, f5, f6, f7⟩ := KEY.out w' hw; go_simp; rfl
      case d6xo4 => obtain ⟨f0, f1, f2, f3, f4, f5, f6, f7⟩ := KEY.out w' hw; go_simp; rfl
      case d6xo5 => obtain ⟨f0, f1, f2, f3, f4, f5, f6, f7⟩ := KEY.out w' hw; go_simp; rfl
      case d6xo6 => obtain ⟨f0, f1, f2, f3, f4, f5, f6, f7⟩ := KEY.out w' hw; go_simp; rfl
      case d6xo7 => obtain ⟨f0, f1, f2, f3, f4, f5, f6, f7⟩ := KEY.out w' hw; go_simp; rfl
      case d6xo8 => obtain ⟨f0, f1, f2, f3, f4, f5, f6, f7⟩ := KEY.out w' hw; go_simp; rfl
      case d6xo9 => obtain ⟨f0, f1, f2, f3, f4, f5, f6, f7⟩ := KEY.out w' hw; go_simp; rfl
      case d6xo10 => obtain ⟨f0, f1, f2, f3, f4, f5, f6, f7⟩ := KEY.out w' hw; go_simp; rfl
      case d6xo11 => obtain ⟨f0, f1, f2, f3, f4, f5, f6, f7⟩ := KEY.out w' hw; go_simp; rfl
    case d6xFin =>
      intro w2 hw2
      have HI2 := Aside0.mk hw2
      clear hw2 HI1
      go_wp2
      (first | go_end0 | refine bodyPost_ret (results_none rfl _ _ _) rfl ?_)
      rw [HR.out]
      exact ⟨rfl, _, HI2.out.hb, HI2.out.fr⟩
theorem b_symbol {W1 w : World} {b m : Nat} {x : Hd} {rs : List Ru} {B mt mn : Nat} {vT vN vS : Value} {u : Bu} (h : BS W1 w b m x rs B mt mn vT vN vS u u.ts u.ns) (t : Tk) (hsz : t.s.size ≤ 10000) (k : Nat) (hu : u.ts.length ≤ 100000) :
    Calls Tryz.prog 101 #[.pointer (some ⟨B, 0, none⟩), tkV t, .int .i64 k] w (TermEnd W1 w b m x rs B mt mn vT vN vS u (symbolB rs t k u.ts)) := by
  obtain ⟨q, hq⟩ : ∃ q, placeS u.ts t.s + 1 = q := ⟨_, rfl⟩
  obtain ⟨p, hp⟩ : ∃ p : Int, (leftsN rs t.s : Int) = p := ⟨_, rfl⟩
  by_cases h0 : (8 : Int) ≤ (k : Int)
  · exact b_symbol_many h t hsz k hu hq hp h0
  · by_cases h1 : 0 < q
    · exact b_symbol_old h t hsz k hu hq hp h0 h1
    · by_cases h2 : t.k = 2
      · exact b_symbol_term h t hsz k hu hq hp h0 h1 h2
      · by_cases h3 : p = 0
        · exact b_symbol_none h t hsz k hu hq hp h0 h1 h2 h3
        · exact b_symbol_fine h t hsz k hu hq hp h0 h1 h2 h3
end Go.Proofs.YtliofoikejdjeaaGreat
/- gread's builder: what is declared. -/
namespace Go.Proofs.YtliofoikejdjeaaGreat
open Go.RowKit Go.Proofs.YtliofoikejdjeaaGreatW.PrintWords Go.Proofs.YtliofoikejdjeaaGreatW.PrintLast
set_option linter.unusedVariables false
set_option linter.unusedSimpArgs false

def contD (rs : List Ru) (x : Hd) (r : List Tk) (p : Bool) (t : Tk) (ts : List ByteArray) : Except Ft (List ByteArray) :=
  if 0 ≤ placeS ts t.s then .error (8, t.at_) else
    match termB t ts with
    | .error e => .error e
    | .ok ts' => declareB rs x r p ts'
theorem declare_skip {rs : List Ru} {x : Hd} {t : Tk} {r : List Tk} {p : Bool} {ts : List ByteArray} (h : (p && decide (x.marks.headD 0 < t.at_)) = false) : declareB rs x (t :: r) p ts = contD rs x r p t ts := by
  rw [declareB]
  simp only [h]
  cases p <;> rfl
theorem declare_err {rs : List Ru} {x : Hd} {t : Tk} {r : List Tk} {ts : List ByteArray} {f : Ft} (h : x.marks.headD 0 < t.at_) (hs : startB rs x = .error f) : declareB rs x (t :: r) true ts = .error f := by
  rw [declareB]
  simp only [Bool.true_and, decide_eq_true h, if_true, hs]
theorem declare_ask {rs : List Ru} {x : Hd} {t : Tk} {r : List Tk} {ts : List ByteArray} (h : x.marks.headD 0 < t.at_) (hs : startB rs x = .ok ()) : declareB rs x (t :: r) true ts = contD rs x r false t ts := by
  rw [declareB]
  simp only [Bool.true_and, decide_eq_true h, if_true, hs]
  rfl
theorem term_len {t : Tk} {ts ts' : List ByteArray} (h : termB t ts = .ok ts') : ts'.length = ts.length + 1 := by
  unfold termB at h
  split at h
  · cases h
  · cases h
    simp
structure DIn (W1 w : World) (b m : Nat) (x : Hd) (rs : List Ru) (B mt mn : Nat) (v0 vT vN vS : Value) (u : Bu) (g : Nat) (t : Tk) (w' : World) : Prop where
  hb : BS W1 w' b m x rs B mt mn vT vN vS u u.ts u.ns
  bk : w'.heap[g]? = some (.cells #[.int .i64 t.k, .string t.s, .int .i64 t.at_] 85 (0, 0))
  fr : Fr B mt v0 vT w w'
theorem DIn.later {W1 w : World} {b m : Nat} {x : Hd} {rs : List Ru} {B mt mn : Nat} {v0 vT vN vS : Value} {u : Bu} {g : Nat} {t : Tk} {w' w'' : World} (h : DIn W1 w b m x rs B mt mn v0 vT vN vS u g t w') (hb : Below w'.heap.size w' w'') : DIn W1 w b m x rs B mt mn v0 vT vN vS u g t w'' :=
  ⟨h.hb.later hb, blk_below h.bk hb, h.fr.trans (Fr.later hb)⟩
theorem DIn.drew {W1 w : World} {b m : Nat} {x : Hd} {rs : List Ru} {B mt mn : Nat} {v0 vT vN vS : Value} {u : Bu} {g : Nat} {t : Tk} {w' : World} (h : DIn W1 w b m x rs B mt mn v0 vT vN vS u g t w') : DIn W1 w b m x rs B mt mn v0 vT vN vS u g t w'.drew := h.later (below_drew (Below.refl _ _))
set_option maxHeartbeats 16000000 in
set_option maxRecDepth 100000 in
theorem b_declare {W1 w : World} {b m : Nat} {x : Hd} {rs : List Ru} {B mt mn : Nat} {vT vN vS : Value} {u : Bu} (h : BS W1 w b m x rs B mt mn vT vN vS u u.ts u.ns) (hu : u.ts.length ≤ 10000) (hd1 : x.declared.length ≤ 10000) (hd2 : ∀ z ∈ x.declared, z.s.size ≤ 10000) (hs2 : ∀ z ∈ x.starts, z.s.size ≤ 10000) (hms : x.starts ≠ [] → x.marks ≠ []) {R : Except Ft (List ByteArray)} (hR0 : declareB rs x x.declared (!x.starts.isEmpty) u.ts = R) :
    Calls Tryz.prog 100 #[.pointer (some ⟨B, 0, none⟩)] w (TermEnd W1 w b m x rs B mt mn vT vN vS u R) := by
  obtain ⟨A1, c1, A2, c2, A3, c3, A4, c4, hr, hC1, hC2, hC3, _⟩ := h.reads
  obtain ⟨f0, f1, f2, f3, f4, f5⟩ := hr w (Below.refl _ _)
  have HR0 := Aside0.mk hR0
  have HB0 := Aside0.mk h
  have HC1 := Aside0.mk hC1
  have HC2 := Aside0.mk hC2
  have HD2 := Aside0.mk hd2
  have HS2 := Aside0.mk hs2
  have HMS := Aside0.mk hms
  have HU0 := Aside0.mk hu
  have HD1 := Aside0.mk hd1
  have HW1 := Aside0.mk h.below
  have READ : Aside0 (∀ (w' : World) (vX : Value) (u2 : Bu), BS W1 w' b m x rs B mt mn vX vN vS u2 u2.ts u2.ns → w'.cell? ⟨B, 0, none⟩ = some (.pointer (some ⟨b, 0, none⟩)) ∧ w'.cell? ⟨b, 2, none⟩ = some (.slice A2 x.marks.length c2)) := ⟨fun w' vX u2 hh => by
    obtain ⟨v0, B1, d1, B2, d2, B3, d3, B4, d4, hk, _⟩ := hh.rd.cells
    obtain ⟨v0', B1', d1', B2', d2', B3', d3', B4', d4', hk', _⟩ := h.rd.cells
    have e2 := (hr w (Below.refl _ _)).2.2.1
    have e3 := (blk_cell (blk_below hk h.below) 2).trans rfl
    have e4 := (blk_cell (blk_below hk hh.below) 2).trans rfl
    exact ⟨hh.cells.1, by rw [e4, ← e2, e3]⟩⟩
  clear h hu hd1 hd2 hs2 hms hR0 hr hC1 hC2 hC3
  go_enter Tryz.func100, Tryz.ntmps100
  go_wp2
  clear f0 f1 f2 f3 f4 f5
  go_loopg [2, 20] x.declared.length (fun gg v2 v20 wr => ∃ (k : Nat) (AP : Option Addr) (NP CP : Nat) (u2 : Bu) (vX : Value), k ≤ x.declared.length ∧ x.declared.length - k ≤ gg ∧ v2 = .slice AP NP CP ∧ v20 = .int .i64 k ∧ u2.ts.length ≤ u.ts.length + k ∧ Aside0 (declareB rs x (x.declared.drop k) (decide (0 < NP)) u2.ts = R) ∧ Aside0 (BS W1 wr b m x rs B mt mn vX vN vS u2 u2.ts u2.ns) ∧ Aside0 (Fr B mt vT vX w wr) ∧ Aside0 (0 < NP → x.starts ≠ []) ∧ Aside0 (u2.ns = u.ns ∧ u2.rs = u.rs))
  case atStart =>
    exact ⟨0, A3, x.starts.length, c3, u, vT, by omega, by omega, rfl, by go_num, by omega, ⟨by rw [List.drop_zero, ← HR0.out]; congr 1; cases x.starts <;> rfl⟩, HB0, ⟨Fr.refl _ _ _ _⟩, ⟨fun h e => by rw [e] at h; exact absurd h (by simp)⟩, ⟨rfl, rfl⟩⟩
  case round =>
    clear HR0 HB0
    obtain ⟨k, AP, NP, CP, u2, vX, hk, hgg, rfl, rfl, hlen, HR, HB, HF, HNP, HEU⟩ := hrel
    by_cases hlt : (k : Int) < (x.declared.length : Int)
    · have hkl : k < x.declared.length := by omega
      obtain ⟨t, r, hdr⟩ : ∃ t r, x.declared.drop k = t :: r := ⟨_, _, List.drop_eq_getElem_cons hkl⟩
      have hr2 : x.declared.drop (k + 1) = r := by rw [← List.drop_drop, hdr]; rfl
      have hgt : x.declared.getD k default = t := by rw [List.getD_eq_getElem?_getD, ← List.head?_drop, hdr]; rfl
      have HDR := Aside0.mk hr2
      have HSZ : Aside0 (t.s.size ≤ 10000) := ⟨HD2.out t (List.mem_of_mem_drop (hdr ▸ List.mem_cons_self : t ∈ x.declared.drop k))⟩
      have HU : Aside0 (u2.ts.length ≤ 100000) := ⟨by have := HU0.out; have := HD1.out; omega⟩
      obtain ⟨ad, rfl, k0, k1, k2⟩ := at_tok (Kd.C_below HC1.out HB.out.below) k hkl
      rw [hgt] at k0 k1 k2
      rw [hdr] at HR
      have hk1 : k + 1 ≤ x.declared.length := hkl
      obtain ⟨q, hq⟩ : ∃ q, placeS u2.ts t.s + 1 = q := ⟨_, rfl⟩
      have HQ := Aside0.mk hq
      have HI : Aside0 (DIn W1 w b m x rs B mt mn vT vX vN vS u2 wr.heap.size t (wr.alloc (.cells #[.int .i64 t.k, .string t.s, .int .i64 t.at_] 85 (0, 0)))) := ⟨⟨HB.out.later (below_alloc (Below.refl _ _) _), blk_new _ _, HF.out.trans (Fr.later (below_alloc (Below.refl _ _) _))⟩⟩
      clear hq hr2 hdr hgt HB HF
      by_cases hnp : 0 < NP
      · have HST := Aside0.mk (HNP.out hnp)
        have HMK := Aside0.mk (HMS.out HST.out)
        have hmp : 0 < x.marks.length := List.length_pos_iff.2 HMK.out
        have hmpz : (0 : Int) < (x.marks.length : Int) := by omega
        obtain ⟨a2, ea2, hm0⟩ := at_int HC2.out 0 hmp
        subst ea2
        obtain ⟨m0, hm0v⟩ : ∃ m0, x.marks.headD 0 = m0 := ⟨_, rfl⟩
        have HM0V := Aside0.mk hm0v
        have hm0b : W1.cell? a2 = some (.int .i64 m0) := by
          rw [← hm0v, show x.marks.headD 0 = x.marks.getD 0 default from by cases x.marks <;> rfl, ← hm0]
          rw [show a2.add 0 = a2 from by cases a2; simp [Addr.add]]
        have key : ∀ g w', DIn W1 w b m x rs B mt mn vT vX vN vS u2 g t w' → w'.cell? ⟨B, 0, none⟩ = some (.pointer (some ⟨b, 0, none⟩)) ∧ w'.cell? ⟨B, 1, none⟩ = some (.map (some mt)) ∧ w'.cell? ⟨b, 2, none⟩ = some (.slice (some a2) x.marks.length c2) ∧ w'.cell? a2 = some (.int .i64 m0) ∧ w'.cell? ⟨g, 1, none⟩ = some (.string t.s) ∧ w'.cell? ⟨g, 2, none⟩ = some (.int .i64 t.at_) ∧ (Instr.lookup 59 (.map (some mt)) (.string t.s) false).run Tryz.prog w' = .ok (.int .i64 q) w' := fun g w' hw =>
          ⟨(READ.out _ _ _ hw.hb).1, hw.hb.cells.2.1, (READ.out _ _ _ hw.hb).2, (hw.hb.below.cell (World.block_lt_of_cell? _ _ hm0b)).trans hm0b, (blk_cell hw.bk 1).trans rfl, (blk_cell hw.bk 2).trans rfl, HQ.out ▸ hw.hb.lookT t.s HSZ.out⟩
        have KEY0 := Aside0.mk key
        clear key hm0 hm0b hm0v
        have hnpz : (0 : Int) < (NP : Int) := by omega
        by_cases hmk : m0 < t.at_
        · have HC0 : Aside0 (x.marks.headD 0 < t.at_) := ⟨by rw [HM0V.out]; exact hmk⟩
          have HRT : Aside0 (declareB rs x (t :: r) true u2.ts = R) := ⟨by rw [← HR.out, decide_eq_true hnp]⟩
          clear HR
          go_wp2
          obtain ⟨g, hg⟩ : ∃ g, wr.heap.size = g := ⟨_, rfl⟩
          rw [hg] at HI
          have KEY := Aside0.mk (KEY0.out g)
          clear KEY0 k0 k1 k2
          refine wp_region_det (vs := [?d1xv0, ?d1xv1, ?d1xv2, ?d1xv3, ?d1xv4, ?d1xv5, ?d1xv6, ?d1xv7, ?d1xv8, ?d1xv9, ?d1xv10, ?d1xv11, ?d1xv12, ?d1xv13, ?d1xv14, ?d1xv15, ?d1xv16]) (fun w' => DIn W1 w b m x rs B mt mn vT vX vN vS u2 g t w') rfl (by kernel_rfl) (putAll_put (by simp only [Act.put, List.setIfInBounds_toArray, List.set_cons_zero, List.set_cons_succ]; rfl) (putAll_put (by simp only [Act.put, List.setIfInBounds_toArray, List.set_cons_zero, List.set_cons_succ]; rfl) (putAll_put (by simp only [Act.put, List.setIfInBounds_toArray, List.set_cons_zero, List.set_cons_succ]; rfl) (putAll_put (by simp only [Act.put, List.setIfInBounds_toArray, List.set_cons_zero, List.set_cons_succ]; rfl) (putAll_put (by simp only [Act.put, List.setIfInBounds_toArray, List.set_cons_zero, List.set_cons_succ]; rfl) (putAll_put (by simp only [Act.put, List.setIfInBounds_toArray, List.set_cons_zero, List.set_cons_succ]; rfl) (putAll_put (by simp only [Act.put, List.setIfInBounds_toArray, List.set_cons_zero, List.set_cons_succ]; rfl) (putAll_put (by simp only [Act.put, List.setIfInBounds_toArray, List.set_cons_zero, List.set_cons_succ]; rfl) (putAll_put (by simp only [Act.put, List.setIfInBounds_toArray, List.set_cons_zero, List.set_cons_succ]; rfl) (putAll_put (by simp only [Act.put, List.setIfInBounds_toArray, List.set_cons_zero, List.set_cons_succ]; rfl) (putAll_put (by simp only [Act.put, List.setIfInBounds_toArray, List.set_cons_zero, List.set_cons_succ]; rfl) (putAll_put (by simp only [Act.put, List.setIfInBounds_toArray, List.set_cons_zero, List.set_cons_succ]; rfl) (putAll_put (by simp only [Act.put, List.setIfInBounds_toArray, List.set_cons_zero, List.set_cons_succ]; rfl) (putAll_put (by simp only [Act.put, List.setIfInBounds_toArray, List.set_cons_zero, List.set_cons_succ]; rfl) (putAll_put (by simp only [Act.put, List.setIfInBounds_toArray, List.set_cons_zero, List.set_cons_succ]; rfl) (putAll_put (by simp only [Act.put, List.setIfInBounds_toArray, List.set_cons_zero, List.set_cons_succ]; rfl) (putAll_put (by simp only [Act.put, List.setIfInBounds_toArray, List.set_cons_zero, List.set_cons_succ]; rfl) (putAll_nil _)))))))))))))))))) (HI.out.drew) ?d1xOps ?d1xFin
          case d1xOps =>
            refine ⟨fun w' hw => ?d1xo0, fun w' hw => ?d1xo1, fun w' hw => ?d1xo2, fun w' hw => ?d1xo3, fun w' hw => ?d1xo4, fun w' hw => ?d1xo5, fun w' hw => ?d1xo6, fun w' hw => ?d1xo7, fun w' hw => ?d1xo8, fun w' hw => ?d1xo9, fun w' hw => ?d1xo10, fun w' hw => ?d1xo11, fun w' hw => ?d1xo12, fun w' hw => ?d1xo13, fun w' hw => ?d1xo14, fun w' hw => ?d1xo15, fun w' hw => ?d1xo16, trivial⟩
            case d1xo0 => obtain ⟨f0, f1, f2, f3, f4, f5, f6⟩ := KEY.out w' hw; go_simp; rfl
            case d1xo1 => obtain ⟨f0, f1, f2, f3, f4, f5, f6⟩ := KEY.out w' hw; go_simp; rfl
            case d1xo2 => obtain ⟨f0, f1, f2, f3, f4, f5, f6⟩ := KEY.out w' hw; go_simp; rfl
            case d1xo3 => obtain ⟨f0, f1, f2, f3, f4, f5, f6⟩ := KEY.out w' hw; go_simp; rfl
            case d1xo4 => obtain ⟨f0, f1, f2, f3, f4, f5, f6⟩ := KEY.out w' hw; go_simp; rfl
            case d1xo5 => obtain ⟨f0, f1, f2, f3, f4, f5, f6⟩ := KEY.out w' hw; go_simp; rfl
            case d1xo6 => obtain ⟨f0, f1, f2, f3, f4, f5, f6⟩ := KEY.out w' hw; go_simp; rfl
            case d1xo7 => obtain ⟨f0, f1, f2, f3, f4, f5, f6⟩ := KEY.out w' hw; go_simp; rfl
            case d1xo8 => obtain ⟨f0, f1, f2, f3, f4, f5, f6⟩ := KEY.out w' hw; go_simp; rfl
            case d1xo9 => obtain ⟨f0, f1, f2, f3, f4, f5, f6⟩ := KEY.out w' hw; go_simp; rfl
            case d1xo10 => obtain ⟨f0, f1, f2, f3, f4, f5, f6⟩ := KEY.out w' hw; go_simp; rfl
            case d1xo11 => obtain ⟨f0, f1, f2, f3, f4, f5, f6⟩ := KEY.out w' hw; go_simp; rfl
            case d1xo12 => obtain ⟨f0, f1, f2, f3, f4, f5, f6⟩ := KEY.out w' hw; go_simp; rfl
            case d1xo13 => obtain ⟨f0, f1, f2, f3, f4, f5, f6⟩ := KEY.out w' hw; go_simp; rfl
            case d1xo14 => obtain ⟨f0, f1, f2, f3, f4, f5, f6⟩ := KEY.out w' hw; go_simp; rfl
            case d1xo15 => obtain ⟨f0, f1, f2, f3, f4, f5, f6⟩ := KEY.out w' hw; go_simp; rfl
            case d1xo16 => obtain ⟨f0, f1, f2, f3, f4, f5, f6⟩ := KEY.out w' hw; go_simp; rfl
          case d1xFin =>
            intro w5 hw5
            have HI5 := Aside0.mk hw5
            clear hw5 HI
            have HS := Aside0.mk (b_start HI5.out.hb HST.out HS2.out)
            cases hS : startB rs x with
            | error f =>
              have HR2 : Aside0 (R = .error f) := ⟨by rw [← HRT.out]; exact declare_err HC0.out hS⟩
              rw [hS] at HS
              clear hS
              go_wp2_with (go_at_call 121; ((with_reducible refine HS.out.mono ?_); rintro e w2 ⟨⟨older, rfl, ho⟩, hb⟩))
              refine ⟨rfl, ?_⟩
              rw [HR2.out]
              exact ⟨⟨older, rfl, ho⟩, _, _, HI5.out.hb.later hb, (HI5.out.later hb).fr⟩
            | ok _ =>
              obtain ⟨p2, hp2⟩ : ∃ p2, p2 = false := ⟨_, rfl⟩
              have HC : Aside0 (contD rs x r p2 t u2.ts = R) := ⟨by rw [← HRT.out, hp2]; exact (declare_ask HC0.out hS).symm⟩
              rw [hS] at HS
              clear hS
              go_wp2_with (go_at_call 121; ((with_reducible refine HS.out.mono ?_); rintro e w6 ⟨rfl, hb⟩; have HI6 := Aside0.mk (HI5.out.later hb); clear hb))
              by_cases hq0 : 0 < q
              · have HR2 : Aside0 (R = .error (8, t.at_)) := ⟨by rw [← HC.out]; unfold contD; rw [if_pos (by have := HQ.out; omega)]⟩
                go_wp2
                refine wp_region_det (vs := [?d2xv0, ?d2xv1, ?d2xv2, ?d2xv3, ?d2xv4, ?d2xv5, ?d2xv6, ?d2xv7]) (fun w' => DIn W1 w b m x rs B mt mn vT vX vN vS u2 g t w') rfl (by kernel_rfl) (putAll_put (by simp only [Act.put, List.setIfInBounds_toArray, List.set_cons_zero, List.set_cons_succ]; rfl) (putAll_put (by simp only [Act.put, List.setIfInBounds_toArray, List.set_cons_zero, List.set_cons_succ]; rfl) (putAll_put (by simp only [Act.put, List.setIfInBounds_toArray, List.set_cons_zero, List.set_cons_succ]; rfl) (putAll_put (by simp only [Act.put, List.setIfInBounds_toArray, List.set_cons_zero, List.set_cons_succ]; rfl) (putAll_put (by simp only [Act.put, List.setIfInBounds_toArray, List.set_cons_zero, List.set_cons_succ]; rfl) (putAll_put (by simp only [Act.put, List.setIfInBounds_toArray, List.set_cons_zero, List.set_cons_succ]; rfl) (putAll_put (by simp only [Act.put, List.setIfInBounds_toArray, List.set_cons_zero, List.set_cons_succ]; rfl) (putAll_put (by simp only [Act.put, List.setIfInBounds_toArray, List.set_cons_zero, List.set_cons_succ]; rfl) (putAll_nil _))))))))) (HI6.out.drew) ?d2xOps ?d2xFin
                case d2xOps =>
                  refine ⟨fun w' hw => ?d2xo0, fun w' hw => ?d2xo1, fun w' hw => ?d2xo2, fun w' hw => ?d2xo3, fun w' hw => ?d2xo4, fun w' hw => ?d2xo5, fun w' hw => ?d2xo6, fun w' hw => ?d2xo7, trivial⟩
                  case d2xo0 => obtain ⟨f0, f1, f2, f3, f4, f5, f6⟩ := KEY.out w' hw; go_simp; rfl
                  case d2xo1 => obtain ⟨f0, f1, f2, f3, f4, f5, f6⟩ := KEY.out w' hw; go_simp; rfl
                  case d2xo2 => obtain ⟨f0, f1, f2, f3, f4, f5, f6⟩ := KEY.out w' hw; go_simp; rfl
                  case d2xo3 => obtain ⟨f0, f1, f2, f3, f4, f5, f6⟩ := KEY.out w' hw; go_simp; rfl
                  case d2xo4 => obtain ⟨f0, f1, f2, f3, f4, f5, f6⟩ := KEY.out w' hw; go_simp; rfl
                  case d2xo5 => obtain ⟨f0, f1, f2, f3, f4, f5, f6⟩ := KEY.out w' hw; go_simp; rfl
                  case d2xo6 => obtain ⟨f0, f1, f2, f3, f4, f5, f6⟩ := KEY.out w' hw; go_simp; rfl
                  case d2xo7 => obtain ⟨f0, f1, f2, f3, f4, f5, f6⟩ := KEY.out w' hw; go_simp; rfl
                case d2xFin =>
                  intro w7 hw7
                  obtain ⟨f0, f1, f2, f3, f4, f5, f6⟩ := KEY.out w7 hw7
                  have HI7 := Aside0.mk hw7
                  clear hw7
                  go_wp2_with (go_at_call 99; ((with_reducible refine (gread_fail _ _ _).mono ?_); rintro e w' ⟨⟨older, rfl, ho⟩, rfl⟩))
                  refine ⟨rfl, ?_⟩
                  rw [HR2.out]
                  exact ⟨⟨older, rfl, ho⟩, _, _, HI7.out.hb, HI7.out.fr⟩
              · have HPP : Aside0 (placeS u2.ts t.s = -1) := ⟨by have := placeS_ge u2.ts t.s; have := HQ.out; omega⟩
                go_wp2
                refine wp_region_det (vs := [?d3xv0, ?d3xv1, ?d3xv2, ?d3xv3, ?d3xv4, ?d3xv5, ?d3xv6, ?d3xv7]) (fun w' => DIn W1 w b m x rs B mt mn vT vX vN vS u2 g t w') rfl (by kernel_rfl) (putAll_put (by simp only [Act.put, List.setIfInBounds_toArray, List.set_cons_zero, List.set_cons_succ]; rfl) (putAll_put (by simp only [Act.put, List.setIfInBounds_toArray, List.set_cons_zero, List.set_cons_succ]; rfl) (putAll_put (by simp only [Act.put, List.setIfInBounds_toArray, List.set_cons_zero, List.set_cons_succ]; rfl) (putAll_put (by simp only [Act.put, List.setIfInBounds_toArray, List.set_cons_zero, List.set_cons_succ]; rfl) (putAll_put (by simp only [Act.put, List.setIfInBounds_toArray, List.set_cons_zero, List.set_cons_succ]; rfl) (putAll_put (by simp only [Act.put, List.setIfInBounds_toArray, List.set_cons_zero, List.set_cons_succ]; rfl) (putAll_put (by simp only [Act.put, List.setIfInBounds_toArray, List.set_cons_zero, List.set_cons_succ]; rfl) (putAll_put (by simp only [Act.put, List.setIfInBounds_toArray, List.set_cons_zero, List.set_cons_succ]; rfl) (putAll_nil _))))))))) (HI6.out.drew) ?d3xOps ?d3xFin
                case d3xOps =>
                  refine ⟨fun w' hw => ?d3xo0, fun w' hw => ?d3xo1, fun w' hw => ?d3xo2, fun w' hw => ?d3xo3, fun w' hw => ?d3xo4, fun w' hw => ?d3xo5, fun w' hw => ?d3xo6, fun w' hw => ?d3xo7, trivial⟩
                  case d3xo0 => obtain ⟨f0, f1, f2, f3, f4, f5, f6⟩ := KEY.out w' hw; go_simp; rfl
                  case d3xo1 => obtain ⟨f0, f1, f2, f3, f4, f5, f6⟩ := KEY.out w' hw; go_simp; rfl
                  case d3xo2 => obtain ⟨f0, f1, f2, f3, f4, f5, f6⟩ := KEY.out w' hw; go_simp; rfl
                  case d3xo3 => obtain ⟨f0, f1, f2, f3, f4, f5, f6⟩ := KEY.out w' hw; go_simp; rfl
                  case d3xo4 => obtain ⟨f0, f1, f2, f3, f4, f5, f6⟩ := KEY.out w' hw; go_simp; rfl
                  case d3xo5 => obtain ⟨f0, f1, f2, f3, f4, f5, f6⟩ := KEY.out w' hw; go_simp; rfl
                  case d3xo6 => obtain ⟨f0, f1, f2, f3, f4, f5, f6⟩ := KEY.out w' hw; go_simp; rfl
                  case d3xo7 => obtain ⟨f0, f1, f2, f3, f4, f5, f6⟩ := KEY.out w' hw; go_simp; rfl
                case d3xFin =>
                  intro w7 hw7
                  obtain ⟨f0, f1, f2, f3, f4, f5, f6⟩ := KEY.out w7 hw7
                  have f7 := (blk_cell hw7.bk 0).trans rfl
                  have HI7 := Aside0.mk hw7
                  clear hw7
                  have HT := Aside0.mk (b_term HI7.out.hb t HSZ.out HU.out HPP.out)
                  unfold tkV at HT
                  cases hR : termB t u2.ts with
                  | error f =>
                    have HR2 : Aside0 (R = .error f) := ⟨by rw [← HC.out]; unfold contD; rw [if_neg (by have := HQ.out; omega), hR]⟩
                    rw [hR] at HT
                    clear hR
                    go_wp2_with (go_at_call 122; ((with_reducible refine HT.out.mono ?_); rintro e w2 ⟨⟨older, rfl, ho⟩, vT', u', hb, hf⟩))
                    refine ⟨rfl, ?_⟩
                    rw [HR2.out]
                    exact ⟨⟨older, rfl, ho⟩, _, _, hb, HI7.out.fr.trans hf⟩
                  | ok ts' =>
                    have HR2 : Aside0 (declareB rs x r p2 ts' = R) := ⟨by rw [← HC.out]; unfold contD; rw [if_neg (by have := HQ.out; omega), hR]⟩
                    have HTS : Aside0 (ts'.length = u2.ts.length + 1) := ⟨term_len hR⟩
                    rw [hR] at HT
                    clear hR
                    go_wp2_with (go_at_call 122; ((with_reducible refine HT.out.mono ?_); rintro e w2 ⟨rfl, vT', h3, h4⟩; have H3 := Aside0.mk h3; have H4 := Aside0.mk h4; clear h3 h4 f0 f1 f2 f3 f4 f5 f6 f7))
                    go_roundg (x.declared.length - (k + 1))
                    case measure => omega
                    case rel => have hdl := HD1.out; exact ⟨k + 1, none, 0, 0, { u2 with ts := ts' }, vT', by omega, Nat.le_refl _, rfl, congrArg (Value.int IntKind.i64) (show wrap64 ((k : Int) + 1) = ((k + 1 : Nat) : Int) from by unfold wrap64; omega), by have := HTS.out; show ts'.length ≤ _; omega, ⟨by rw [HDR.out]; have := HR2.out; rw [hp2] at this; exact this⟩, ⟨H3.out⟩, ⟨HI7.out.fr.trans H4.out⟩, ⟨fun h => absurd h (by omega)⟩, HEU⟩
        · have HC0 : Aside0 ((true && decide (x.marks.headD 0 < t.at_)) = false) := ⟨by rw [HM0V.out]; simpa using hmk⟩
          obtain ⟨p2, hp2⟩ : ∃ p2, p2 = decide (0 < NP) := ⟨_, rfl⟩
          have HC : Aside0 (contD rs x r p2 t u2.ts = R) := ⟨by rw [← HR.out, hp2]; exact (declare_skip (by rw [decide_eq_true hnp]; exact HC0.out)).symm⟩
          clear HR
          go_wp2
          obtain ⟨g, hg⟩ : ∃ g, wr.heap.size = g := ⟨_, rfl⟩
          rw [hg] at HI
          have KEY := Aside0.mk (KEY0.out g)
          clear KEY0 k0 k1 k2
          refine wp_region_det (vs := [?d4xv0, ?d4xv1, ?d4xv2, ?d4xv3, ?d4xv4, ?d4xv5, ?d4xv6, ?d4xv7, ?d4xv8, ?d4xv9, ?d4xv10, ?d4xv11, ?d4xv12, ?d4xv13, ?d4xv14, ?d4xv15, ?d4xv16]) (fun w' => DIn W1 w b m x rs B mt mn vT vX vN vS u2 g t w') rfl (by kernel_rfl) (putAll_put (by simp only [Act.put, List.setIfInBounds_toArray, List.set_cons_zero, List.set_cons_succ]; rfl) (putAll_put (by simp only [Act.put, List.setIfInBounds_toArray, List.set_cons_zero, List.set_cons_succ]; rfl) (putAll_put (by simp only [Act.put, List.setIfInBounds_toArray, List.set_cons_zero, List.set_cons_succ]; rfl) (putAll_put (by simp only [Act.put, List.setIfInBounds_toArray, List.set_cons_zero, List.set_cons_succ]; rfl) (putAll_put (by simp only [Act.put, List.setIfInBounds_toArray, List.set_cons_zero, List.set_cons_succ]; rfl) (putAll_put (by simp only [Act.put, List.setIfInBounds_toArray, List.set_cons_zero, List.set_cons_succ]; rfl) (putAll_put (by simp only [Act.put, List.setIfInBounds_toArray, List.set_cons_zero, List.set_cons_succ]; rfl) (putAll_put (by simp only [Act.put, List.setIfInBounds_toArray, List.set_cons_zero, List.set_cons_succ]; rfl) (putAll_put (by simp only [Act.put, List.setIfInBounds_toArray, List.set_cons_zero, List.set_cons_succ]; rfl) (putAll_put (by simp only [Act.put, List.setIfInBounds_toArray, List.set_cons_zero, List.set_cons_succ]; rfl) (putAll_put (by simp only [Act.put, List.setIfInBounds_toArray, List.set_cons_zero, List.set_cons_succ]; rfl) (putAll_put (by simp only [Act.put, List.setIfInBounds_toArray, List.set_cons_zero, List.set_cons_succ]; rfl) (putAll_put (by simp only [Act.put, List.setIfInBounds_toArray, List.set_cons_zero, List.set_cons_succ]; rfl) (putAll_put (by simp only [Act.put, List.setIfInBounds_toArray, List.set_cons_zero, List.set_cons_succ]; rfl) (putAll_put (by simp only [Act.put, List.setIfInBounds_toArray, List.set_cons_zero, List.set_cons_succ]; rfl) (putAll_put (by simp only [Act.put, List.setIfInBounds_toArray, List.set_cons_zero, List.set_cons_succ]; rfl) (putAll_put (by simp only [Act.put, List.setIfInBounds_toArray, List.set_cons_zero, List.set_cons_succ]; rfl) (putAll_nil _)))))))))))))))))) (HI.out.drew) ?d4xOps ?d4xFin
          case d4xOps =>
            refine ⟨fun w' hw => ?d4xo0, fun w' hw => ?d4xo1, fun w' hw => ?d4xo2, fun w' hw => ?d4xo3, fun w' hw => ?d4xo4, fun w' hw => ?d4xo5, fun w' hw => ?d4xo6, fun w' hw => ?d4xo7, fun w' hw => ?d4xo8, fun w' hw => ?d4xo9, fun w' hw => ?d4xo10, fun w' hw => ?d4xo11, fun w' hw => ?d4xo12, fun w' hw => ?d4xo13, fun w' hw => ?d4xo14, fun w' hw => ?d4xo15, fun w' hw => ?d4xo16, trivial⟩
            case d4xo0 => obtain ⟨f0, f1, f2, f3, f4, f5, f6⟩ := KEY.out w' hw; go_simp; rfl
            case d4xo1 => obtain ⟨f0, f1, f2, f3, f4, f5, f6⟩ := KEY.out w' hw; go_simp; rfl
            case d4xo2 => obtain ⟨f0, f1, f2, f3, f4, f5, f6⟩ := KEY.out w' hw; go_simp; rfl
            case d4xo3 => obtain ⟨f0, f1, f2, f3, f4, f5, f6⟩ := KEY.out w' hw; go_simp; rfl
            case d4xo4 => obtain ⟨f0, f1, f2, f3, f4, f5, f6⟩ := KEY.out w' hw; go_simp; rfl
            case d4xo5 => obtain ⟨f0, f1, f2, f3, f4, f5, f6⟩ := KEY.out w' hw; go_simp; rfl
            case d4xo6 => obtain ⟨f0, f1, f2, f3, f4, f5, f6⟩ := KEY.out w' hw; go_simp; rfl
            case d4xo7 => obtain ⟨f0, f1, f2, f3, f4, f5, f6⟩ := KEY.out w' hw; go_simp; rfl
            case d4xo8 => obtain ⟨f0, f1, f2, f3, f4, f5, f6⟩ := KEY.out w' hw; go_simp; rfl
            case d4xo9 => obtain ⟨f0, f1, f2, f3, f4, f5, f6⟩ := KEY.out w' hw; go_simp; rfl
            case d4xo10 => obtain ⟨f0, f1, f2, f3, f4, f5, f6⟩ := KEY.out w' hw; go_simp; rfl
            case d4xo11 => obtain ⟨f0, f1, f2, f3, f4, f5, f6⟩ := KEY.out w' hw; go_simp; rfl
            case d4xo12 => obtain ⟨f0, f1, f2, f3, f4, f5, f6⟩ := KEY.out w' hw; go_simp; rfl
            case d4xo13 => obtain ⟨f0, f1, f2, f3, f4, f5, f6⟩ := KEY.out w' hw; go_simp; rfl
            case d4xo14 => obtain ⟨f0, f1, f2, f3, f4, f5, f6⟩ := KEY.out w' hw; go_simp; rfl
            case d4xo15 => obtain ⟨f0, f1, f2, f3, f4, f5, f6⟩ := KEY.out w' hw; go_simp; rfl
            case d4xo16 => obtain ⟨f0, f1, f2, f3, f4, f5, f6⟩ := KEY.out w' hw; go_simp; rfl
          case d4xFin =>
            intro w5 hw5
            have HI5 := Aside0.mk hw5
            clear hw5 HI
            by_cases hq0 : 0 < q
            · have HR2 : Aside0 (R = .error (8, t.at_)) := ⟨by rw [← HC.out]; unfold contD; rw [if_pos (by have := HQ.out; omega)]⟩
              go_wp2
              refine wp_region_det (vs := [?d5xv0, ?d5xv1, ?d5xv2, ?d5xv3, ?d5xv4, ?d5xv5, ?d5xv6, ?d5xv7]) (fun w' => DIn W1 w b m x rs B mt mn vT vX vN vS u2 g t w') rfl (by kernel_rfl) (putAll_put (by simp only [Act.put, List.setIfInBounds_toArray, List.set_cons_zero, List.set_cons_succ]; rfl) (putAll_put (by simp only [Act.put, List.setIfInBounds_toArray, List.set_cons_zero, List.set_cons_succ]; rfl) (putAll_put (by simp only [Act.put, List.setIfInBounds_toArray, List.set_cons_zero, List.set_cons_succ]; rfl) (putAll_put (by simp only [Act.put, List.setIfInBounds_toArray, List.set_cons_zero, List.set_cons_succ]; rfl) (putAll_put (by simp only [Act.put, List.setIfInBounds_toArray, List.set_cons_zero, List.set_cons_succ]; rfl) (putAll_put (by simp only [Act.put, List.setIfInBounds_toArray, List.set_cons_zero, List.set_cons_succ]; rfl) (putAll_put (by simp only [Act.put, List.setIfInBounds_toArray, List.set_cons_zero, List.set_cons_succ]; rfl) (putAll_put (by simp only [Act.put, List.setIfInBounds_toArray, List.set_cons_zero, List.set_cons_succ]; rfl) (putAll_nil _))))))))) (HI5.out.drew) ?d5xOps ?d5xFin
              case d5xOps =>
                refine ⟨fun w' hw => ?d5xo0, fun w' hw => ?d5xo1, fun w' hw => ?d5xo2, fun w' hw => ?d5xo3, fun w' hw => ?d5xo4, fun w' hw => ?d5xo5, fun w' hw => ?d5xo6, fun w' hw => ?d5xo7, trivial⟩
                case d5xo0 => obtain ⟨f0, f1, f2, f3, f4, f5, f6⟩ := KEY.out w' hw; go_simp; rfl
                case d5xo1 => obtain ⟨f0, f1, f2, f3, f4, f5, f6⟩ := KEY.out w' hw; go_simp; rfl
                case d5xo2 => obtain ⟨f0, f1, f2, f3, f4, f5, f6⟩ := KEY.out w' hw; go_simp; rfl
                case d5xo3 => obtain ⟨f0, f1, f2, f3, f4, f5, f6⟩ := KEY.out w' hw; go_simp; rfl
                case d5xo4 => obtain ⟨f0, f1, f2, f3, f4, f5, f6⟩ := KEY.out w' hw; go_simp; rfl
                case d5xo5 => obtain ⟨f0, f1, f2, f3, f4, f5, f6⟩ := KEY.out w' hw; go_simp; rfl
                case d5xo6 => obtain ⟨f0, f1, f2, f3, f4, f5, f6⟩ := KEY.out w' hw; go_simp; rfl
                case d5xo7 => obtain ⟨f0, f1, f2, f3, f4, f5, f6⟩ := KEY.out w' hw; go_simp; rfl
              case d5xFin =>
                intro w7 hw7
                obtain ⟨f0, f1, f2, f3, f4, f5, f6⟩ := KEY.out w7 hw7
                have HI7 := Aside0.mk hw7
                clear hw7
                go_wp2_with (go_at_call 99; ((with_reducible refine (gread_fail _ _ _).mono ?_); rintro e w' ⟨⟨older, rfl, ho⟩, rfl⟩))
                refine ⟨rfl, ?_⟩
                rw [HR2.out]
                exact ⟨⟨older, rfl, ho⟩, _, _, HI7.out.hb, HI7.out.fr⟩
            · have HPP : Aside0 (placeS u2.ts t.s = -1) := ⟨by have := placeS_ge u2.ts t.s; have := HQ.out; omega⟩
              go_wp2
              refine wp_region_det (vs := [?d6xv0, ?d6xv1, ?d6xv2, ?d6xv3, ?d6xv4, ?d6xv5, ?d6xv6, ?d6xv7]) (fun w' => DIn W1 w b m x rs B mt mn vT vX vN vS u2 g t w') rfl (by kernel_rfl) (putAll_put (by simp only [Act.put, List.setIfInBounds_toArray, List.set_cons_zero, List.set_cons_succ]; rfl) (putAll_put (by simp only [Act.put, List.setIfInBounds_toArray, List.set_cons_zero, List.set_cons_succ]; rfl) (putAll_put (by simp only [Act.put, List.setIfInBounds_toArray, List.set_cons_zero, List.set_cons_succ]; rfl) (putAll_put (by simp only [Act.put, List.setIfInBounds_toArray, List.set_cons_zero, List.set_cons_succ]; rfl) (putAll_put (by simp only [Act.put, List.setIfInBounds_toArray, List.set_cons_zero, List.set_cons_succ]; rfl) (putAll_put (by simp only [Act.put, List.setIfInBounds_toArray, List.set_cons_zero, List.set_cons_succ]; rfl) (putAll_put (by simp only [Act.put, List.setIfInBounds_toArray, List.set_cons_zero, List.set_cons_succ]; rfl) (putAll_put (by simp only [Act.put, List.setIfInBounds_toArray, List.set_cons_zero, List.set_cons_succ]; rfl) (putAll_nil _))))))))) (HI5.out.drew) ?d6xOps ?d6xFin
              case d6xOps =>
                refine ⟨fun w' hw => ?d6xo0, fun w' hw => ?d6xo1, fun w' hw => ?d6xo2, fun w' hw => ?d6xo3, fun w' hw => ?d6xo4, fun w' hw => ?d6xo5, fun w' hw => ?d6xo6, fun w' hw => ?d6xo7, trivial⟩
                case d6xo0 => obtain ⟨f0, f1, f2, f3, f4, f5, f6⟩ := KEY.out w' hw; go_simp; rfl
                case d6xo1 => obtain ⟨f0, f1, f2, f3, f4, f5, f6⟩ := KEY.out w' hw; go_simp; rfl
                case d6xo2 => obtain ⟨f0, f1, f2, f3, f4, f5, f6⟩ := KEY.out w' hw; go_simp; rfl
                case d6xo3 => obtain ⟨f0, f1, f2, f3, f4, f5, f6⟩ := KEY.out w' hw; go_simp; rfl
                case d6xo4 => obtain ⟨f0, f1, f2, f3, f4, f5, f6⟩ := KEY.out w' hw; go_simp; rfl
                case d6xo5 => obtain ⟨f0, f1, f2, f3, f4, f5, f6⟩ := KEY.out w' hw; go_simp; rfl
                case d6xo6 => obtain ⟨f0, f1, f2, f3, f4, f5, f6⟩ := KEY.out w' hw; go_simp; rfl
                case d6xo7 => obtain ⟨f0, f1, f2, f3, f4, f5, f6⟩ := KEY.out w' hw; go_simp; rfl
              case d6xFin =>
                intro w7 hw7
                obtain ⟨f0, f1, f2, f3, f4, f5, f6⟩ := KEY.out w7 hw7
                have f7 := (blk_cell hw7.bk 0).trans rfl
                have HI7 := Aside0.mk hw7
                clear hw7
                have HT := Aside0.mk (b_term HI7.out.hb t HSZ.out HU.out HPP.out)
                unfold tkV at HT
                cases hR : termB t u2.ts with
                | error f =>
                  have HR2 : Aside0 (R = .error f) := ⟨by rw [← HC.out]; unfold contD; rw [if_neg (by have := HQ.out; omega), hR]⟩
                  rw [hR] at HT
                  clear hR
                  go_wp2_with (go_at_call 122; ((with_reducible refine HT.out.mono ?_); rintro e w2 ⟨⟨older, rfl, ho⟩, vT', u', hb, hf⟩))
                  refine ⟨rfl, ?_⟩
                  rw [HR2.out]
                  exact ⟨⟨older, rfl, ho⟩, _, _, hb, HI7.out.fr.trans hf⟩
                | ok ts' =>
                  have HR2 : Aside0 (declareB rs x r p2 ts' = R) := ⟨by rw [← HC.out]; unfold contD; rw [if_neg (by have := HQ.out; omega), hR]⟩
                  have HTS : Aside0 (ts'.length = u2.ts.length + 1) := ⟨term_len hR⟩
                  rw [hR] at HT
                  clear hR
                  go_wp2_with (go_at_call 122; ((with_reducible refine HT.out.mono ?_); rintro e w2 ⟨rfl, vT', h3, h4⟩; have H3 := Aside0.mk h3; have H4 := Aside0.mk h4; clear h3 h4 f0 f1 f2 f3 f4 f5 f6 f7))
                  go_roundg (x.declared.length - (k + 1))
                  case measure => omega
                  case rel => have hdl := HD1.out; exact ⟨k + 1, AP, NP, CP, { u2 with ts := ts' }, vT', by omega, Nat.le_refl _, rfl, congrArg (Value.int IntKind.i64) (show wrap64 ((k : Int) + 1) = ((k + 1 : Nat) : Int) from by unfold wrap64; omega), by have := HTS.out; show ts'.length ≤ _; omega, ⟨by rw [HDR.out]; have := HR2.out; rw [hp2] at this; exact this⟩, ⟨H3.out⟩, ⟨HI7.out.fr.trans H4.out⟩, HNP, HEU⟩
      · obtain rfl : NP = 0 := by omega
        have key : ∀ g w', DIn W1 w b m x rs B mt mn vT vX vN vS u2 g t w' → w'.cell? ⟨B, 0, none⟩ = some (.pointer (some ⟨b, 0, none⟩)) ∧ w'.cell? ⟨B, 1, none⟩ = some (.map (some mt)) ∧ True ∧ True ∧ w'.cell? ⟨g, 1, none⟩ = some (.string t.s) ∧ w'.cell? ⟨g, 2, none⟩ = some (.int .i64 t.at_) ∧ (Instr.lookup 59 (.map (some mt)) (.string t.s) false).run Tryz.prog w' = .ok (.int .i64 q) w' := fun g w' hw =>
          ⟨(READ.out _ _ _ hw.hb).1, hw.hb.cells.2.1, trivial, trivial, (blk_cell hw.bk 1).trans rfl, (blk_cell hw.bk 2).trans rfl, HQ.out ▸ hw.hb.lookT t.s HSZ.out⟩
        have KEY0 := Aside0.mk key
        clear key hnp
        obtain ⟨p2, hp2⟩ : ∃ p2, p2 = decide (0 < 0) := ⟨_, rfl⟩
        have HC : Aside0 (contD rs x r p2 t u2.ts = R) := ⟨by rw [← HR.out, hp2]; exact (declare_skip rfl).symm⟩
        clear HR
        go_wp2
        obtain ⟨g, hg⟩ : ∃ g, wr.heap.size = g := ⟨_, rfl⟩
        rw [hg] at HI
        have KEY := Aside0.mk (KEY0.out g)
        clear KEY0 k0 k1 k2
        refine wp_region_det (vs := [?d7xv0, ?d7xv1, ?d7xv2, ?d7xv3, ?d7xv4, ?d7xv5, ?d7xv6, ?d7xv7, ?d7xv8, ?d7xv9, ?d7xv10, ?d7xv11, ?d7xv12, ?d7xv13, ?d7xv14, ?d7xv15, ?d7xv16]) (fun w' => DIn W1 w b m x rs B mt mn vT vX vN vS u2 g t w') rfl (by kernel_rfl) (putAll_put (by simp only [Act.put, List.setIfInBounds_toArray, List.set_cons_zero, List.set_cons_succ]; rfl) (putAll_put (by simp only [Act.put, List.setIfInBounds_toArray, List.set_cons_zero, List.set_cons_succ]; rfl) (putAll_put (by simp only [Act.put, List.setIfInBounds_toArray, List.set_cons_zero, List.set_cons_succ]; rfl) (putAll_put (by simp only [Act.put, List.setIfInBounds_toArray, List.set_cons_zero, List.set_cons_succ]; rfl) (putAll_put (by simp only [Act.put, List.setIfInBounds_toArray, List.set_cons_zero, List.set_cons_succ]; rfl) (putAll_put (by simp only [Act.put, List.setIfInBounds_toArray, List.set_cons_zero, List.set_cons_succ]; rfl) (putAll_put (by simp only [Act.put, List.setIfInBounds_toArray, List.set_cons_zero, List.set_cons_succ]; rfl) (putAll_put (by simp only [Act.put, List.setIfInBounds_toArray, List.set_cons_zero, List.set_cons_succ]; rfl) (putAll_put (by simp only [Act.put, List.setIfInBounds_toArray, List.set_cons_zero, List.set_cons_succ]; rfl) (putAll_put (by simp only [Act.put, List.setIfInBounds_toArray, List.set_cons_zero, List.set_cons_succ]; rfl) (putAll_put (by simp only [Act.put, List.setIfInBounds_toArray, List.set_cons_zero, List.set_cons_succ]; rfl) (putAll_put (by simp only [Act.put, List.setIfInBounds_toArray, List.set_cons_zero, List.set_cons_succ]; rfl) (putAll_put (by simp only [Act.put, List.setIfInBounds_toArray, List.set_cons_zero, List.set_cons_succ]; rfl) (putAll_put (by simp only [Act.put, List.setIfInBounds_toArray, List.set_cons_zero, List.set_cons_succ]; rfl) (putAll_put (by simp only [Act.put, List.setIfInBounds_toArray, List.set_cons_zero, List.set_cons_succ]; rfl) (putAll_put (by simp only [Act.put, List.setIfInBounds_toArray, List.set_cons_zero, List.set_cons_succ]; rfl) (putAll_put (by simp only [Act.put, List.setIfInBounds_toArray, List.set_cons_zero, List.set_cons_succ]; rfl) (putAll_nil _)))))))))))))))))) (HI.out.drew) ?d7xOps ?d7xFin
        case d7xOps =>
          refine ⟨fun w' hw => ?d7xo0, fun w' hw => ?d7xo1, fun w' hw => ?d7xo2, fun w' hw => ?d7xo3, fun w' hw => ?d7xo4, fun w' hw => ?d7xo5, fun w' hw => ?d7xo6, fun w' hw => ?d7xo7, fun w' hw => ?d7xo8, fun w' hw => ?d7xo9, fun w' hw => ?d7xo10, fun w' hw => ?d7xo11, fun w' hw => ?d7xo12, fun w' hw => ?d7xo13, fun w' hw => ?d7xo14, fun w' hw => ?d7xo15, fun w' hw => ?d7xo16, trivial⟩
          case d7xo0 => obtain ⟨f0, f1, f2, f3, f4, f5, f6⟩ := KEY.out w' hw; go_simp; rfl
          case d7xo1 => obtain ⟨f0, f1, f2, f3, f4, f5, f6⟩ := KEY.out w' hw; go_simp; rfl
          case d7xo2 => obtain ⟨f0, f1, f2, f3, f4, f5, f6⟩ := KEY.out w' hw; go_simp; rfl
          case d7xo3 => obtain ⟨f0, f1, f2, f3, f4, f5, f6⟩ := KEY.out w' hw; go_simp; rfl
          case d7xo4 => obtain ⟨f0, f1, f2, f3, f4, f5, f6⟩ := KEY.out w' hw; go_simp; rfl
          case d7xo5 => obtain ⟨f0, f1, f2, f3, f4, f5, f6⟩ := KEY.out w' hw; go_simp; rfl
          case d7xo6 => obtain ⟨f0, f1, f2, f3, f4, f5, f6⟩ := KEY.out w' hw; go_simp; rfl
          case d7xo7 => obtain ⟨f0, f1, f2, f3, f4, f5, f6⟩ := KEY.out w' hw; go_simp; rfl
          case d7xo8 => obtain ⟨f0, f1, f2, f3, f4, f5, f6⟩ := KEY.out w' hw; go_simp; rfl
          case d7xo9 => obtain ⟨f0, f1, f2, f3, f4, f5, f6⟩ := KEY.out w' hw; go_simp; rfl
          case d7xo10 => obtain ⟨f0, f1, f2, f3, f4, f5, f6⟩ := KEY.out w' hw; go_simp; rfl
          case d7xo11 => obtain ⟨f0, f1, f2, f3, f4, f5, f6⟩ := KEY.out w' hw; go_simp; rfl
          case d7xo12 => obtain ⟨f0, f1, f2, f3, f4, f5, f6⟩ := KEY.out w' hw; go_simp; rfl
          case d7xo13 => obtain ⟨f0, f1, f2, f3, f4, f5, f6⟩ := KEY.out w' hw; go_simp; rfl
          case d7xo14 => obtain ⟨f0, f1, f2, f3, f4, f5, f6⟩ := KEY.out w' hw; go_simp; rfl
          case d7xo15 => obtain ⟨f0, f1, f2, f3, f4, f5, f6⟩ := KEY.out w' hw; go_simp; rfl
          case d7xo16 => obtain ⟨f0, f1, f2, f3, f4, f5, f6⟩ := KEY.out w' hw; go_simp; rfl
        case d7xFin =>
          intro w5 hw5
          have HI5 := Aside0.mk hw5
          clear hw5 HI
          by_cases hq0 : 0 < q
          · have HR2 : Aside0 (R = .error (8, t.at_)) := ⟨by rw [← HC.out]; unfold contD; rw [if_pos (by have := HQ.out; omega)]⟩
            go_wp2
            refine wp_region_det (vs := [?d8xv0, ?d8xv1, ?d8xv2, ?d8xv3, ?d8xv4, ?d8xv5, ?d8xv6, ?d8xv7]) (fun w' => DIn W1 w b m x rs B mt mn vT vX vN vS u2 g t w') rfl (by kernel_rfl) (putAll_put (by simp only [Act.put, List.setIfInBounds_toArray, List.set_cons_zero, List.set_cons_succ]; rfl) (putAll_put (by simp only [Act.put, List.setIfInBounds_toArray, List.set_cons_zero, List.set_cons_succ]; rfl) (putAll_put (by simp only [Act.put, List.setIfInBounds_toArray, List.set_cons_zero, List.set_cons_succ]; rfl) (putAll_put (by simp only [Act.put, List.setIfInBounds_toArray, List.set_cons_zero, List.set_cons_succ]; rfl) (putAll_put (by simp only [Act.put, List.setIfInBounds_toArray, List.set_cons_zero, List.set_cons_succ]; rfl) (putAll_put (by simp only [Act.put, List.setIfInBounds_toArray, List.set_cons_zero, List.set_cons_succ]; rfl) (putAll_put (by simp only [Act.put, List.setIfInBounds_toArray, List.set_cons_zero, List.set_cons_succ]; rfl) (putAll_put (by simp only [Act.put, List.setIfInBounds_toArray, List.set_cons_zero, List.set_cons_succ]; rfl) (putAll_nil _))))))))) (HI5.out.drew) ?d8xOps ?d8xFin
            case d8xOps =>
              refine ⟨fun w' hw => ?d8xo0, fun w' hw => ?d8xo1, fun w' hw => ?d8xo2, fun w' hw => ?d8xo3, fun w' hw => ?d8xo4, fun w' hw => ?d8xo5, fun w' hw => ?d8xo6, fun w' hw => ?d8xo7, trivial⟩
              case d8xo0 => obtain ⟨f0, f1, f2, f3, f4, f5, f6⟩ := KEY.out w' hw; go_simp; rfl
              case d8xo1 => obtain ⟨f0, f1, f2, f3, f4, f5, f6⟩ := KEY.out w' hw; go_simp; rfl
              case d8xo2 => obtain ⟨f0, f1, f2, f3, f4, f5, f6⟩ := KEY.out w' hw; go_simp; rfl
              case d8xo3 => obtain ⟨f0, f1, f2, f3, f4, f5, f6⟩ := KEY.out w' hw; go_simp; rfl
              case d8xo4 => obtain ⟨f0, f1, f2, f3, f4, f5, f6⟩ := KEY.out w' hw; go_simp; rfl
              case d8xo5 => obtain ⟨f0, f1, f2, f3, f4, f5, f6⟩ := KEY.out w' hw; go_simp; rfl
              case d8xo6 => obtain ⟨f0, f1, f2, f3, f4, f5, f6⟩ := KEY.out w' hw; go_simp; rfl
              case d8xo7 => obtain ⟨f0, f1, f2, f3, f4, f5, f6⟩ := KEY.out w' hw; go_simp; rfl
            case d8xFin =>
              intro w7 hw7
              obtain ⟨f0, f1, f2, f3, f4, f5, f6⟩ := KEY.out w7 hw7
              have HI7 := Aside0.mk hw7
              clear hw7
              go_wp2_with (go_at_call 99; ((with_reducible refine (gread_fail _ _ _).mono ?_); rintro e w' ⟨⟨older, rfl, ho⟩, rfl⟩))
              refine ⟨rfl, ?_⟩
              rw [HR2.out]
              exact ⟨⟨older, rfl, ho⟩, _, _, HI7.out.hb, HI7.out.fr⟩
          · have HPP : Aside0 (placeS u2.ts t.s = -1) := ⟨by have := placeS_ge u2.ts t.s; have := HQ.out; omega⟩
            go_wp2
            refine wp_region_det (vs := [?d9xv0, ?d9xv1, ?d9xv2, ?d9xv3, ?d9xv4, ?d9xv5, ?d9xv6, ?d9xv7]) (fun w' => DIn W1 w b m x rs B mt mn vT vX vN vS u2 g t w') rfl (by kernel_rfl) (putAll_put (by simp only [Act.put, List.setIfInBounds_toArray, List.set_cons_zero, List.set_cons_succ]; rfl) (putAll_put (by simp only [Act.put, List.setIfInBounds_toArray, List.set_cons_zero, List.set_cons_succ]; rfl) (putAll_put (by simp only [Act.put, List.setIfInBounds_toArray, List.set_cons_zero, List.set_cons_succ]; rfl) (putAll_put (by simp only [Act.put, List.setIfInBounds_toArray, List.set_cons_zero, List.set_cons_succ]; rfl) (putAll_put (by simp only [Act.put, List.setIfInBounds_toArray, List.set_cons_zero, List.set_cons_succ]; rfl) (putAll_put (by simp only [Act.put, List.setIfInBounds_toArray, List.set_cons_zero, List.set_cons_succ]; rfl) (putAll_put (by simp only [Act.put, List.setIfInBounds_toArray, List.set_cons_zero, List.set_cons_succ]; rfl) (putAll_put (by simp only [Act.put, List.setIfInBounds_toArray, List.set_cons_zero, List.set_cons_succ]; rfl) (putAll_nil _))))))))) (HI5.out.drew) ?d9xOps ?d9xFin
            case d9xOps =>
              refine ⟨fun w' hw => ?d9xo0, fun w' hw => ?d9xo1, fun w' hw => ?d9xo2, fun w' hw => ?d9xo3, fun w' hw => ?d9xo4, fun w' hw => ?d9xo5, fun w' hw => ?d9xo6, fun w' hw => ?d9xo7, trivial⟩
              case d9xo0 => obtain ⟨f0, f1, f2, f3, f4, f5, f6⟩ := KEY.out w' hw; go_simp; rfl
              case d9xo1 => obtain ⟨f0, f1, f2, f3, f4, f5, f6⟩ := KEY.out w' hw; go_simp; rfl
              case d9xo2 => obtain ⟨f0, f1, f2, f3, f4, f5, f6⟩ := KEY.out w' hw; go_simp; rfl
              case d9xo3 => obtain ⟨f0, f1, f2, f3, f4, f5, f6⟩ := KEY.out w' hw; go_simp; rfl
              case d9xo4 => obtain ⟨f0, f1, f2, f3, f4, f5, f6⟩ := KEY.out w' hw; go_simp; rfl
              case d9xo5 => obtain ⟨f0, f1, f2, f3, f4, f5, f6⟩ := KEY.out w' hw; go_simp; rfl
              case d9xo6 => obtain ⟨f0, f1, f2, f3, f4, f5, f6⟩ := KEY.out w' hw; go_simp; rfl
              case d9xo7 => obtain ⟨f0, f1, f2, f3, f4, f5, f6⟩ := KEY.out w' hw; go_simp; rfl
            case d9xFin =>
              intro w7 hw7
              obtain ⟨f0, f1, f2, f3, f4, f5, f6⟩ := KEY.out w7 hw7
              have f7 := (blk_cell hw7.bk 0).trans rfl
              have HI7 := Aside0.mk hw7
              clear hw7
              have HT := Aside0.mk (b_term HI7.out.hb t HSZ.out HU.out HPP.out)
              unfold tkV at HT
              cases hR : termB t u2.ts with
              | error f =>
                have HR2 : Aside0 (R = .error f) := ⟨by rw [← HC.out]; unfold contD; rw [if_neg (by have := HQ.out; omega), hR]⟩
                rw [hR] at HT
                clear hR
                go_wp2_with (go_at_call 122; ((with_reducible refine HT.out.mono ?_); rintro e w2 ⟨⟨older, rfl, ho⟩, vT', u', hb, hf⟩))
                refine ⟨rfl, ?_⟩
                rw [HR2.out]
                exact ⟨⟨older, rfl, ho⟩, _, _, hb, HI7.out.fr.trans hf⟩
              | ok ts' =>
                have HR2 : Aside0 (declareB rs x r p2 ts' = R) := ⟨by rw [← HC.out]; unfold contD; rw [if_neg (by have := HQ.out; omega), hR]⟩
                have HTS : Aside0 (ts'.length = u2.ts.length + 1) := ⟨term_len hR⟩
                rw [hR] at HT
                clear hR
                go_wp2_with (go_at_call 122; ((with_reducible refine HT.out.mono ?_); rintro e w2 ⟨rfl, vT', h3, h4⟩; have H3 := Aside0.mk h3; have H4 := Aside0.mk h4; clear h3 h4 f0 f1 f2 f3 f4 f5 f6 f7))
                go_roundg (x.declared.length - (k + 1))
                case measure => omega
                case rel => have hdl := HD1.out; exact ⟨k + 1, AP, 0, CP, { u2 with ts := ts' }, vT', by omega, Nat.le_refl _, rfl, congrArg (Value.int IntKind.i64) (show wrap64 ((k : Int) + 1) = ((k + 1 : Nat) : Int) from by unfold wrap64; omega), by have := HTS.out; show ts'.length ≤ _; omega, ⟨by rw [HDR.out]; have := HR2.out; rw [hp2] at this; exact this⟩, ⟨H3.out⟩, ⟨HI7.out.fr.trans H4.out⟩, HNP, HEU⟩
    · obtain rfl : k = x.declared.length := by omega
      have HRE : Aside0 ((if decide (0 < NP) then (match startB rs x with | .ok _ => .ok u2.ts | .error e => .error e) else .ok u2.ts) = R) := ⟨by rw [← HR.out, List.drop_length]; rfl⟩
      have hu2 : u2 = { u with ts := u2.ts } := by
        obtain ⟨e1, e2⟩ := HEU.out
        cases u2
        simp only at e1 e2
        rw [e1, e2]
      have HU2 := Aside0.mk hu2
      clear HR hu2
      by_cases hnp : 0 < NP
      · have HST := Aside0.mk (HNP.out hnp)
        have HS := Aside0.mk (b_start HB.out HST.out HS2.out)
        have hnpz : (0 : Int) < (NP : Int) := by omega
        cases hS : startB rs x with
        | error f =>
          have HR2 : Aside0 (R = .error f) := ⟨by rw [← HRE.out, decide_eq_true hnp, hS]; rfl⟩
          rw [hS] at HS
          clear hS
          go_wp2_with (go_at_call 121; ((with_reducible refine HS.out.mono ?_); rintro e w2 ⟨⟨older, rfl, ho⟩, hb⟩))
          refine ⟨rfl, ?_⟩
          rw [HR2.out]
          exact ⟨⟨older, rfl, ho⟩, _, _, HB.out.later hb, HF.out.trans (Fr.later hb)⟩
        | ok _ =>
          have HR2 : Aside0 (R = .ok u2.ts) := ⟨by rw [← HRE.out, decide_eq_true hnp, hS]; rfl⟩
          rw [hS] at HS
          clear hS
          go_wp2_with (go_at_call 121; ((with_reducible refine HS.out.mono ?_); rintro e w6 ⟨rfl, hb⟩; have HB6 := Aside0.mk (HB.out.later hb); have HF6 := Aside0.mk (HF.out.trans (Fr.later hb)); clear hb))
          (first | go_end0 | refine bodyPost_ret (results_none rfl _ _ _) rfl ?_)
          rw [HR2.out]
          exact ⟨rfl, _, by rw [← HU2.out]; have := HB6.out; rw [HEU.out.1] at this; exact this, HF6.out⟩
      · have hnpz : ¬ (0 : Int) < (NP : Int) := by omega
        have HR2 : Aside0 (R = .ok u2.ts) := ⟨by rw [← HRE.out, decide_eq_false hnp]; rfl⟩
        go_wp2
        (first | go_end0 | refine bodyPost_ret (results_none rfl _ _ _) rfl ?_)
        rw [HR2.out]
        exact ⟨rfl, _, by rw [← HU2.out]; have := HB.out; rw [HEU.out.1] at this; exact this, HF.out⟩
end Go.Proofs.YtliofoikejdjeaaGreat
/- gread's builder: the declarations, behind the deferred closure. -/
namespace Go.Proofs.YtliofoikejdjeaaGreat
open Go.RowKit Go.Proofs.YtliofoikejdjeaaGreatW.PrintWords Go.Proofs.YtliofoikejdjeaaGreatW.PrintLast
set_option linter.unusedVariables false
set_option linter.unusedSimpArgs false
theorem taWr (x : Value) (w : World) : (Instr.typeAssert (.iface 56 x) 20 56 true).run Tryz.prog w = .ok (.tuple #[x, .bool true]) w := by kernel_rfl
theorem taWrNil (w : World) : (Instr.typeAssert .nilIface 20 56 true).run Tryz.prog w = .ok (.tuple #[.agg #[.int .i64 0, .int .i64 0], .bool false]) w := by kernel_rfl
set_option maxHeartbeats 4000000 in
set_option maxRecDepth 100000 in
theorem heads1_own {W1 w : World} {b m : Nat} {x : Hd} {rs : List Ru} {B mt mn : Nat} {vT vN vS : Value} {u : Bu} {tm nm : List ByteArray} (h : BS W1 w b m x rs B mt mn vT vN vS u tm nm) {g : Nat} (hg : w.heap[g]? = some (.cells #[.pointer (some ⟨B, 0, none⟩)] 63 (0, 0))) {e p s : Int} {older : List PanicEntry} (hs : secondB x = s) (h1 : s ≤ 8192) (h2 : s < p) :
    CallsD Tryz.prog 97 #[.pointer (some ⟨g, 0, none⟩)] (.panicking ({ v := .iface 56 (.agg #[.int .i64 e, .int .i64 p]), recovered := false } :: older)) w fun ev u' w' => Panics (8, s) ev ∧ u' = .panicking ({ v := .iface 56 (.agg #[.int .i64 e, .int .i64 p]), recovered := true } :: older) ∧ Below w.heap.size w w' := by
  have c0 : w.cell? ⟨g, 0, none⟩ = some (.pointer (some ⟨B, 0, none⟩)) := (blk_cell hg 0).trans rfl
  have hgl := blk_lt hg
  have HBW : Aside0 (Below w.heap.size w (w.alloc (.cells #[.int .i64 e, .int .i64 p] 56 (0, 0)))) := ⟨below_alloc (Below.refl _ _) _⟩
  have SEC : Aside0 (∀ w', Below w.heap.size w w' → Calls Tryz.prog 98 #[.pointer (some ⟨B, 0, none⟩)] w' fun ev w'' => ev = .returned (.int .i64 s) ∧ w'' = w') := ⟨fun w' hw => hs ▸ b_second (h.later hw)⟩
  clear h hg hs
  refine callsD_of_wpS Tryz.func97 rfl fun c₀ cs hu => ?_
  apply wpS_seq
  apply wpS_region
  simp [wpOpsS, go_sem, recoverD, hu, Tryz.ntmps97, Exit.thenS]
  simp only [← List.toArray_replicate, List.replicate, List.setIfInBounds_toArray, List.set_cons_zero, List.set_cons_succ, List.append_toArray, List.cons_append, List.nil_append]
  have ta := fun x W => taWr x W
  refine wpS_of_wp ?_
  go_wp2_with (first | (go_at_call 98; ((with_reducible refine (SEC.out _ ?_).mono ?_); (first | exact HBW.out | skip)); rintro e2 w' ⟨rfl, rfl⟩) | (go_at_call 99; ((with_reducible refine (gread_fail _ _ _).mono ?_); rintro e2 w' ⟨⟨older2, rfl, ho⟩, rfl⟩)))
  exact ⟨rfl, _, rfl, ⟨older2, rfl, ho⟩, rfl, HBW.out⟩
set_option maxHeartbeats 4000000 in
set_option maxRecDepth 100000 in
theorem heads1_old0 {W1 w : World} {b m : Nat} {x : Hd} {rs : List Ru} {B mt mn : Nat} {vT vN vS : Value} {u : Bu} {tm nm : List ByteArray} (h : BS W1 w b m x rs B mt mn vT vN vS u tm nm) {g : Nat} (hg : w.heap[g]? = some (.cells #[.pointer (some ⟨B, 0, none⟩)] 63 (0, 0))) {e p s : Int} {older : List PanicEntry} (hs : secondB x = s) (h1 : ¬ s ≤ 8192) :
    CallsD Tryz.prog 97 #[.pointer (some ⟨g, 0, none⟩)] (.panicking ({ v := .iface 56 (.agg #[.int .i64 e, .int .i64 p]), recovered := false } :: older)) w fun ev u' w' => Panics (e, p) ev ∧ u' = .panicking ({ v := .iface 56 (.agg #[.int .i64 e, .int .i64 p]), recovered := true } :: older) ∧ Below w.heap.size w w' := by
  have c0 : w.cell? ⟨g, 0, none⟩ = some (.pointer (some ⟨B, 0, none⟩)) := (blk_cell hg 0).trans rfl
  have hgl := blk_lt hg
  have HBW : Aside0 (Below w.heap.size w (w.alloc (.cells #[.int .i64 e, .int .i64 p] 56 (0, 0)))) := ⟨below_alloc (Below.refl _ _) _⟩
  have SEC : Aside0 (∀ w', Below w.heap.size w w' → Calls Tryz.prog 98 #[.pointer (some ⟨B, 0, none⟩)] w' fun ev w'' => ev = .returned (.int .i64 s) ∧ w'' = w') := ⟨fun w' hw => hs ▸ b_second (h.later hw)⟩
  clear h hg hs
  refine callsD_of_wpS Tryz.func97 rfl fun c₀ cs hu => ?_
  apply wpS_seq
  apply wpS_region
  simp [wpOpsS, go_sem, recoverD, hu, Tryz.ntmps97, Exit.thenS]
  simp only [← List.toArray_replicate, List.replicate, List.setIfInBounds_toArray, List.set_cons_zero, List.set_cons_succ, List.append_toArray, List.cons_append, List.nil_append]
  have ta := fun x W => taWr x W
  refine wpS_of_wp ?_
  go_wp2_with (first | (go_at_call 98; ((with_reducible refine (SEC.out _ ?_).mono ?_); (first | exact HBW.out | skip)); rintro e2 w' ⟨rfl, rfl⟩) | (go_at_call 99; ((with_reducible refine (gread_fail _ _ _).mono ?_); rintro e2 w' ⟨⟨older2, rfl, ho⟩, rfl⟩)))
  exact ⟨rfl, _, rfl, ⟨[], rfl, rfl⟩, rfl, HBW.out⟩
set_option maxHeartbeats 4000000 in
set_option maxRecDepth 100000 in
theorem heads1_old1 {W1 w : World} {b m : Nat} {x : Hd} {rs : List Ru} {B mt mn : Nat} {vT vN vS : Value} {u : Bu} {tm nm : List ByteArray} (h : BS W1 w b m x rs B mt mn vT vN vS u tm nm) {g : Nat} (hg : w.heap[g]? = some (.cells #[.pointer (some ⟨B, 0, none⟩)] 63 (0, 0))) {e p s : Int} {older : List PanicEntry} (hs : secondB x = s) (h1 : s ≤ 8192) (h2 : ¬ s < p) :
    CallsD Tryz.prog 97 #[.pointer (some ⟨g, 0, none⟩)] (.panicking ({ v := .iface 56 (.agg #[.int .i64 e, .int .i64 p]), recovered := false } :: older)) w fun ev u' w' => Panics (e, p) ev ∧ u' = .panicking ({ v := .iface 56 (.agg #[.int .i64 e, .int .i64 p]), recovered := true } :: older) ∧ Below w.heap.size w w' := by
  have c0 : w.cell? ⟨g, 0, none⟩ = some (.pointer (some ⟨B, 0, none⟩)) := (blk_cell hg 0).trans rfl
  have hgl := blk_lt hg
  have HBW : Aside0 (Below w.heap.size w (w.alloc (.cells #[.int .i64 e, .int .i64 p] 56 (0, 0)))) := ⟨below_alloc (Below.refl _ _) _⟩
  have SEC : Aside0 (∀ w', Below w.heap.size w w' → Calls Tryz.prog 98 #[.pointer (some ⟨B, 0, none⟩)] w' fun ev w'' => ev = .returned (.int .i64 s) ∧ w'' = w') := ⟨fun w' hw => hs ▸ b_second (h.later hw)⟩
  clear h hg hs
  refine callsD_of_wpS Tryz.func97 rfl fun c₀ cs hu => ?_
  apply wpS_seq
  apply wpS_region
  simp [wpOpsS, go_sem, recoverD, hu, Tryz.ntmps97, Exit.thenS]
  simp only [← List.toArray_replicate, List.replicate, List.setIfInBounds_toArray, List.set_cons_zero, List.set_cons_succ, List.append_toArray, List.cons_append, List.nil_append]
  have ta := fun x W => taWr x W
  refine wpS_of_wp ?_
  go_wp2_with (first | (go_at_call 98; ((with_reducible refine (SEC.out _ ?_).mono ?_); (first | exact HBW.out | skip)); rintro e2 w' ⟨rfl, rfl⟩) | (go_at_call 99; ((with_reducible refine (gread_fail _ _ _).mono ?_); rintro e2 w' ⟨⟨older2, rfl, ho⟩, rfl⟩)))
  exact ⟨rfl, _, rfl, ⟨[], rfl, rfl⟩, rfl, HBW.out⟩
set_option maxHeartbeats 4000000 in
set_option maxRecDepth 100000 in
theorem heads1_retown {W1 w : World} {b m : Nat} {x : Hd} {rs : List Ru} {B mt mn : Nat} {vT vN vS : Value} {u : Bu} {tm nm : List ByteArray} (h : BS W1 w b m x rs B mt mn vT vN vS u tm nm) {g : Nat} (hg : w.heap[g]? = some (.cells #[.pointer (some ⟨B, 0, none⟩)] 63 (0, 0))) {e p s : Int} {older : List PanicEntry} (hs : secondB x = s) (h1 : s ≤ 8192) :
    CallsD Tryz.prog 97 #[.pointer (some ⟨g, 0, none⟩)] (.returning) w fun ev u' w' => Panics (8, s) ev ∧ u' = .returning ∧ Below w.heap.size w w' := by
  have c0 : w.cell? ⟨g, 0, none⟩ = some (.pointer (some ⟨B, 0, none⟩)) := (blk_cell hg 0).trans rfl
  have hgl := blk_lt hg
  have HBW : Aside0 (Below w.heap.size w (w.alloc (.cells #[.int .i64 0, .int .i64 0] 56 (0, 0)))) := ⟨below_alloc (Below.refl _ _) _⟩
  have SEC : Aside0 (∀ w', Below w.heap.size w w' → Calls Tryz.prog 98 #[.pointer (some ⟨B, 0, none⟩)] w' fun ev w'' => ev = .returned (.int .i64 s) ∧ w'' = w') := ⟨fun w' hw => hs ▸ b_second (h.later hw)⟩
  clear h hg hs
  refine callsD_of_wpS Tryz.func97 rfl fun c₀ cs hu => ?_
  apply wpS_seq
  apply wpS_region
  simp [wpOpsS, go_sem, recoverD, hu, Tryz.ntmps97, Exit.thenS]
  simp only [← List.toArray_replicate, List.replicate, List.setIfInBounds_toArray, List.set_cons_zero, List.set_cons_succ, List.append_toArray, List.cons_append, List.nil_append]
  have ta := fun W => taWrNil W
  refine wpS_of_wp ?_
  go_wp2_with (first | (go_at_call 98; ((with_reducible refine (SEC.out _ ?_).mono ?_); (first | exact HBW.out | skip)); rintro e2 w' ⟨rfl, rfl⟩) | (go_at_call 99; ((with_reducible refine (gread_fail _ _ _).mono ?_); rintro e2 w' ⟨⟨older2, rfl, ho⟩, rfl⟩)))
  exact ⟨rfl, .returning, (by cases c₀; simp_all), ⟨older2, rfl, ho⟩, rfl, HBW.out⟩
set_option maxHeartbeats 4000000 in
set_option maxRecDepth 100000 in
theorem heads1_ret {W1 w : World} {b m : Nat} {x : Hd} {rs : List Ru} {B mt mn : Nat} {vT vN vS : Value} {u : Bu} {tm nm : List ByteArray} (h : BS W1 w b m x rs B mt mn vT vN vS u tm nm) {g : Nat} (hg : w.heap[g]? = some (.cells #[.pointer (some ⟨B, 0, none⟩)] 63 (0, 0))) {e p s : Int} {older : List PanicEntry} (hs : secondB x = s) (h1 : ¬ s ≤ 8192) :
    CallsD Tryz.prog 97 #[.pointer (some ⟨g, 0, none⟩)] (.returning) w fun ev u' w' => ev = .returned (.tuple #[]) ∧ u' = .returning ∧ Below w.heap.size w w' := by
  have c0 : w.cell? ⟨g, 0, none⟩ = some (.pointer (some ⟨B, 0, none⟩)) := (blk_cell hg 0).trans rfl
  have hgl := blk_lt hg
  have HBW : Aside0 (Below w.heap.size w (w.alloc (.cells #[.int .i64 0, .int .i64 0] 56 (0, 0)))) := ⟨below_alloc (Below.refl _ _) _⟩
  have SEC : Aside0 (∀ w', Below w.heap.size w w' → Calls Tryz.prog 98 #[.pointer (some ⟨B, 0, none⟩)] w' fun ev w'' => ev = .returned (.int .i64 s) ∧ w'' = w') := ⟨fun w' hw => hs ▸ b_second (h.later hw)⟩
  clear h hg hs
  refine callsD_of_wpS Tryz.func97 rfl fun c₀ cs hu => ?_
  apply wpS_seq
  apply wpS_region
  simp [wpOpsS, go_sem, recoverD, hu, Tryz.ntmps97, Exit.thenS]
  simp only [← List.toArray_replicate, List.replicate, List.setIfInBounds_toArray, List.set_cons_zero, List.set_cons_succ, List.append_toArray, List.cons_append, List.nil_append]
  have ta := fun W => taWrNil W
  refine wpS_of_wp ?_
  go_wp2_with (first | (go_at_call 98; ((with_reducible refine (SEC.out _ ?_).mono ?_); (first | exact HBW.out | skip)); rintro e2 w' ⟨rfl, rfl⟩) | (go_at_call 99; ((with_reducible refine (gread_fail _ _ _).mono ?_); rintro e2 w' ⟨⟨older2, rfl, ho⟩, rfl⟩)))
  exact ⟨rfl, .returning, (by cases c₀; simp_all), _, results_none rfl _ _ _, rfl, rfl, HBW.out⟩
theorem panics_raised {f : Ft} {ev : List PanicEntry} {v : Value} {older : List PanicEntry} (h : Panics f (.panicked ev)) (ho : older.dropWhile (fun x => !x.goexit) = []) : Panics f (.panicked (ev ++ ({ v := v, recovered := true } :: older))) := by
  obtain ⟨o2, e, h2⟩ := h
  injection e with e
  subst e
  refine ⟨o2 ++ ({ v := v, recovered := true } :: older), rfl, ?_⟩
  rw [List.dropWhile_append, h2]
  simpa using ho
def HeadsEnd (W1 w : World) (b m : Nat) (x : Hd) (rs : List Ru) (B mt mn : Nat) (vT vN vS : Value) (u : Bu) (R : Except Ft (List ByteArray)) (e : Ending) (w' : World) : Prop :=
  match R with
  | .error f => Panics f e ∧ Below W1.heap.size W1 w'
  | .ok ts' => e = .returned (.tuple #[]) ∧ ∃ vT', BS W1 w' b m x rs B mt mn vT' vN vS { u with ts := ts' } ts' u.ns ∧ Fr B mt vT vT' w w'
theorem heads1_panic {W1 w : World} {b m : Nat} {x : Hd} {rs : List Ru} {B mt mn : Nat} {vT vN vS : Value} {u : Bu} {tm nm : List ByteArray} (h : BS W1 w b m x rs B mt mn vT vN vS u tm nm) {g : Nat} (hg : w.heap[g]? = some (.cells #[.pointer (some ⟨B, 0, none⟩)] 63 (0, 0))) (f : Ft) (older : List PanicEntry) :
    CallsD Tryz.prog 97 #[.pointer (some ⟨g, 0, none⟩)] (.panicking ({ v := wrongV f.1 f.2, recovered := false } :: older)) w fun ev u' w' => Panics (if secondB x ≤ 8192 ∧ secondB x < f.2 then (8, secondB x) else f) ev ∧ u' = .panicking ({ v := wrongV f.1 f.2, recovered := true } :: older) ∧ Below w.heap.size w w' := by
  obtain ⟨e, p⟩ := f
  by_cases h1 : secondB x ≤ 8192
  · by_cases h2 : secondB x < p
    · rw [if_pos ⟨h1, h2⟩]
      exact heads1_own h hg rfl h1 h2
    · rw [if_neg (fun h => h2 h.2)]
      exact heads1_old1 h hg rfl h1 h2
  · rw [if_neg (fun h => h1 h.1)]
    exact heads1_old0 h hg rfl h1
set_option maxHeartbeats 4000000 in
set_option maxRecDepth 100000 in
theorem b_heads {W1 w : World} {b m : Nat} {x : Hd} {rs : List Ru} {B mt mn : Nat} {vT vN vS : Value} {u : Bu} (h : BS W1 w b m x rs B mt mn vT vN vS u u.ts u.ns) (hu : u.ts = []) (hd1 : x.declared.length ≤ 10000) (hd2 : ∀ z ∈ x.declared, z.s.size ≤ 10000) (hs2 : ∀ z ∈ x.starts, z.s.size ≤ 10000) (hms : x.starts ≠ [] → x.marks ≠ []) :
    Calls Tryz.prog 63 #[.pointer (some ⟨B, 0, none⟩)] w (HeadsEnd W1 w b m x rs B mt mn vT vN vS u (headsB rs x)) := by
  have hmf : ∀ (fn : Fn) (first cap : Array Value) (w : World), (Instr.makeFunc fn first cap).run Tryz.prog w = .ok (.func fn first cap) w := fun _ _ _ _ => rfl
  have hb1 := below_alloc (Below.refl w.heap.size w) (.cells #[.pointer (some ⟨B, 0, none⟩)] 63 (0, 0))
  have HF0 := Aside0.mk (Fr.later (B := B) (mt := mt) (v := vT) hb1)
  have HBK := Aside0.mk (blk_new w (.cells #[.pointer (some ⟨B, 0, none⟩)] 63 (0, 0)))
  have HB := Aside0.mk (h.later hb1)
  have hgB : w.heap.size ≠ B := by have := blk_lt h.blk; omega
  have hgm : w.heap.size ≠ mt := by obtain ⟨n1, f1, c1, h1, _⟩ := h.mt_; have := h1.lt; omega
  have HGV : Aside0 (some w.heap.size ≠ vT.ownBlock) := ⟨fun e => by have := Kd.R_lt h.ts _ e.symm; omega⟩
  have HGB := Aside0.mk hgB
  have HGM := Aside0.mk hgm
  obtain ⟨R, hR⟩ : ∃ R, declareB rs x x.declared (!x.starts.isEmpty) u.ts = R := ⟨_, rfl⟩
  have HD := Aside0.mk (b_declare HB.out (by rw [hu]; simp) hd1 hd2 hs2 hms hR)
  rw [hu] at hR
  have HR := Aside0.mk hR
  clear h hb1 hu hd1 hd2 hs2 hms hgB hgm hR
  have HST : Aside0 (∀ w2 vT', Fr B mt vT vT' (w.alloc (.cells #[.pointer (some ⟨B, 0, none⟩)] 63 (0, 0))) w2 → w2.heap[w.heap.size]? = some (.cells #[.pointer (some ⟨B, 0, none⟩)] 63 (0, 0))) := ⟨fun w2 vT' hf => (hf.block _ (by simp) HGB.out HGM.out HGV.out).trans HBK.out⟩
  cases R with
  | error f =>
    have HRV : Aside0 (headsB rs x = .error (if secondB x ≤ 8192 ∧ secondB x < f.2 then (8, secondB x) else f)) := ⟨by unfold headsB; rw [HR.out]; simp only; split <;> rfl⟩
    go_enter_defers Tryz.func63, Tryz.ntmps63
    go_wp2_with (go_at_call 100; ((with_reducible refine HD.out.mono ?_); rintro e w2 ⟨⟨older, rfl, ho⟩, vT', u', hb, hf⟩))
    refine leaves_cons (f := 97) (args := #[.pointer (some ⟨w.heap.size, 0, none⟩)]) (by simp) (by simp [go_sem]) ?_
    refine (heads1_panic hb (HST.out _ _ hf) f older).mono ?_
    rintro e u'' w'' ⟨hp, rfl, hw⟩
    obtain ⟨o2, rfl, ho2⟩ := hp
    show HeadsEnd _ _ _ _ _ _ _ _ _ _ _ _ _ _ (.panicked _) _
    rw [HRV.out]
    exact ⟨panics_raised ⟨o2, rfl, ho2⟩ ho, hb.below.trans (hw.mono hb.below.size)⟩
  | ok ts =>
    go_enter_defers Tryz.func63, Tryz.ntmps63
    go_wp2_with (go_at_call 100; ((with_reducible refine HD.out.mono ?_); rintro e w2 ⟨rfl, vT', hb, hf⟩))
    refine leaves_cons (f := 97) (args := #[.pointer (some ⟨w.heap.size, 0, none⟩)]) (by simp) (by simp [go_sem]) ?_
    by_cases h1 : secondB x ≤ 8192
    · have HRV : Aside0 (headsB rs x = .error (8, secondB x)) := ⟨by unfold headsB; rw [HR.out]; exact if_pos h1⟩
      refine (heads1_retown hb (HST.out _ _ hf) rfl h1 (e := 0) (p := 0) (older := [])).mono ?_
      rintro e u'' w'' ⟨hp, rfl, hw⟩
      obtain ⟨o2, rfl, ho2⟩ := hp
      show HeadsEnd _ _ _ _ _ _ _ _ _ _ _ _ _ _ (.panicked _) _
      rw [HRV.out]
      exact ⟨⟨o2, rfl, ho2⟩, hb.below.trans (hw.mono hb.below.size)⟩
    · have HRV : Aside0 (headsB rs x = .ok ts) := ⟨by unfold headsB; rw [HR.out]; exact if_neg h1⟩
      refine (heads1_ret hb (HST.out _ _ hf) rfl h1 (e := 0) (p := 0) (older := [])).mono ?_
      rintro e u'' w'' ⟨rfl, rfl, hw⟩
      refine ⟨_, results_none rfl _ _ _, ?_⟩
      rw [HRV.out]
      exact ⟨rfl, _, hb.later hw, HF0.out.trans (hf.trans (Fr.later hw))⟩

end Go.Proofs.YtliofoikejdjeaaGreat
/- gread's builder: the state while a side is put together. -/
namespace Go.Proofs.YtliofoikejdjeaaGreat
open Go.RowKit Go.Proofs.YtliofoikejdjeaaGreatW.PrintWords
set_option linter.unusedVariables false
set_option linter.unusedSimpArgs false
/-- A row of strings has no rows of its own: its condition speaks of its own block alone. -/
theorem R_flat {w : World} {e base : Nat} {ok ok' : Nat → Prop} {v : Value} {xs : List ByteArray} (h : Kd.R Kd.string e w base ok v xs) (hk : ∀ k, v.ownBlock = some k → ok' k) : Kd.R Kd.string e w base ok' v xs := ⟨hk, h.2⟩
structure SS (W1 w : World) (b m : Nat) (x : Hd) (rs : List Ru) (B mt mn : Nat) (v0 vT vN vS : Value) (u : Bu) (g0 g1 : Nat) (sv : Value) (sp : Int) (vr : Value) (r : List ByteArray) (wr : World) : Prop where
  hb : BS W1 wr b m x rs B mt mn vT vN vS u u.ts u.ns
  fr : Fr B mt v0 vT w wr
  ns : Kd.R Kd.string 9 wr W1.heap.size (fun k => k < w.heap.size ∧ some k ≠ vT.ownBlock) vN u.ns
  rs_ : Kd.R kStrs 22 wr W1.heap.size (fun k => (k < w.heap.size ∧ some k ≠ vN.ownBlock) ∧ some k ≠ vT.ownBlock) vS u.rs
  rule : Kd.R Kd.string 9 wr w.heap.size (fun k => some k ≠ vT.ownBlock) vr r
  bk0 : wr.heap[g0]? = some (.cells #[sv, .int .i64 sp] 96 (0, 0))
  bk1 : wr.heap[g1]? = some (.cells #[vr] 22 (0, 0))
  h0 : w.heap.size ≤ g0
  h1 : w.heap.size ≤ g1
  hw : W1.heap.size ≤ w.heap.size
section
variable {W1 w wr w1 : World} {b m : Nat} {x : Hd} {rs : List Ru} {B mt mn : Nat} {v0 vT vN vS : Value} {u : Bu} {g0 g1 : Nat} {sv : Value} {sp : Int} {vr : Value} {r : List ByteArray}
theorem SS.later (h : SS W1 w b m x rs B mt mn v0 vT vN vS u g0 g1 sv sp vr r wr) (hb : Below wr.heap.size wr w1) : SS W1 w b m x rs B mt mn v0 vT vN vS u g0 g1 sv sp vr r w1 :=
  ⟨h.hb.later hb, h.fr.trans (Fr.later hb), Kd.R_below h.ns hb, Kd.R_below h.rs_ hb, Kd.R_below h.rule hb, blk_below h.bk0 hb, blk_below h.bk1 hb, h.h0, h.h1, h.hw⟩
/-- A symbol was looked at: a terminal more, or none. -/
theorem SS.symbol (h : SS W1 w b m x rs B mt mn v0 vT vN vS u g0 g1 sv sp vr r wr) {vT' : Value} {ts' : List ByteArray} (hb : BS W1 w1 b m x rs B mt mn vT' vN vS { u with ts := ts' } ts' u.ns) (hf : Fr B mt vT vT' wr w1) : SS W1 w b m x rs B mt mn v0 vT' vN vS { u with ts := ts' } g0 g1 sv sp vr r w1 := by
  obtain ⟨n, f, c, hm, _⟩ := h.hb.mt_
  have n0 := Kd.R_ne h.hb.ts h.bk0 (by decide)
  have n1 := Kd.R_ne h.hb.ts h.bk1 (by decide)
  have B0 : g0 ≠ B := fun e => by
    subst e
    have := h.hb.blk
    rw [h.bk0] at this
    injection this with this
    injection this with _ this
    exact absurd this (by decide)
  have B1 : g1 ≠ B := fun e => by
    subst e
    have := h.hb.blk
    rw [h.bk1] at this
    injection this with this
    injection this with _ this
    exact absurd this (by decide)
  refine ⟨hb, h.fr.trans hf, hf.row h.hb.blk hm (by decide) h.ns, hf.row h.hb.blk hm (by decide) h.rs_, ?_, ?_, ?_, h.h0, h.h1, h.hw⟩
  · exact Kd.R_mono (hf.row (ok := fun _ => True) h.hb.blk hm (by decide) (Kd.R_mono h.rule (fun k hk => ⟨trivial, hk⟩))) (fun k hk => hk.2)
  · exact (hf.block g0 (blk_lt h.bk0) B0 (fun e => hm.ne h.bk0 e.symm) n0).trans h.bk0
  · exact (hf.block g1 (blk_lt h.bk1) B1 (fun e => hm.ne h.bk1 e.symm) n1).trans h.bk1
/-- A name more in the rule. -/
theorem SS.app (h : SS W1 w b m x rs B mt mn v0 vT vN vS u g0 g1 sv sp vr r wr) {vr' : Value} {r' : List ByteArray} (ho : Kd.R Kd.string 9 w1 w.heap.size (fun k => some k ≠ vT.ownBlock) vr' r') (hg : wr.grownBy w1 vr.ownBlock) :
    w1.heap[g1]? = some (.cells #[vr] 22 (0, 0)) ∧ SS W1 w b m x rs B mt mn v0 vT vN vS u g0 g1 sv sp vr' r' (w1.setCell ⟨g1, 0, none⟩ vr') := by
  have hbase : ∀ k, vr.ownBlock = some k → w.heap.size ≤ k := fun k hk => Kd.R_base h.rule k hk
  have k0 := blk_grown h.bk0 hg (Kd.R_ne h.rule h.bk0 (by decide))
  have k1 := blk_grown h.bk1 hg (Kd.R_ne h.rule h.bk1 (by decide))
  have kB := blk_grown h.hb.blk hg (Kd.R_ne h.rule h.hb.blk (by decide))
  have hB1 : B ≠ g1 := fun e => by
    subst e
    rw [kB] at k1
    injection k1 with k1
    injection k1 with _ k1
    exact absurd k1 (by decide)
  have h01 : g0 ≠ g1 := fun e => by
    subst e
    rw [k0] at k1
    injection k1 with k1
    injection k1 with _ k1
    exact absurd k1 (by decide)
  obtain ⟨n1, f1, c1, hm1, hm1'⟩ := h.hb.mt_
  obtain ⟨n2, f2, c2, hm2, hm2'⟩ := h.hb.mn_
  have hts : Kd.R Kd.string 9 w1 W1.heap.size (fun k => some k ≠ vN.ownBlock ∧ some k ≠ vr.ownBlock) vT u.ts :=
    Kd.R_grown (R_flat (ok' := fun k => some k ≠ vN.ownBlock ∧ some k ≠ vr.ownBlock) h.hb.ts (fun k hk => ⟨h.hb.ts.1 k hk, fun e => h.rule.1 k e.symm hk.symm⟩)) hg (fun k hk => hk.2)
  have hns := Kd.R_grown h.ns hg (fun k hk e => by have := hbase k e.symm; omega)
  have hrs := Kd.R_grown h.rs_ hg (fun k hk e => by have := hbase k e.symm; have := hk.1.1; omega)
  have hrs2 := Kd.R_far (p := ⟨g1, 0, none⟩) hrs (fun k hk => by have := hk.1.1; have := h.h1; show k ≠ g1; omega) vr'
  refine ⟨k1, ⟨h.hb.rd, (Below.grown h.hb.below hg h.hb.below.size (fun k hk => Nat.le_trans h.hw (hbase k hk))).setCell (p := ⟨g1, 0, none⟩) (Nat.le_trans h.hw h.h1) vr', h.hb.hB, blk_far (p := ⟨g1, 0, none⟩) kB hB1 vr', Kd.R_set (Kd.R_mono hts (fun k hk => hk.1)) k1 (by decide) 0 vr', Kd.R_set (Kd.R_mono hns (fun k hk => hk.2)) k1 (by decide) 0 vr', Kd.R_mono hrs2 (fun k hk => ⟨hk.1.2, hk.2⟩), ⟨n1, f1, c1, (hm1.own h.rule hg).same (Below.heap_setCell w1 ⟨g1, 0, none⟩ vr' mt (hm1.ne h.bk1)), hm1'⟩, ⟨n2, f2, c2, (hm2.own h.rule hg).same (Below.heap_setCell w1 ⟨g1, 0, none⟩ vr' mn (hm2.ne h.bk1)), hm2'⟩, h.hb.hmt, h.hb.hmn, h.hb.hne⟩, ⟨hg.os.trans h.fr.os, hg.tape.trans h.fr.tape, hg.output.trans h.fr.output, by simpa using Nat.le_trans h.fr.size hg.size, fun k hk hB hm hv => ?_, h.fr.hat⟩, Kd.R_set hns k1 (by decide) 0 vr', hrs2, Kd.R_set ho k1 (by decide) 0 vr', blk_far (p := ⟨g1, 0, none⟩) k0 h01 vr', blk_set k1 0 vr', h.h0, h.h1, h.hw⟩
  exact (Below.heap_setCell w1 ⟨g1, 0, none⟩ vr' k (by have := h.h1; show k ≠ g1; omega)).trans ((hg.block k (Nat.lt_of_lt_of_le hk h.fr.size) (fun e => by have := hbase k e.symm; omega)).trans (h.fr.block k hk hB hm hv))
end
end Go.Proofs.YtliofoikejdjeaaGreat
