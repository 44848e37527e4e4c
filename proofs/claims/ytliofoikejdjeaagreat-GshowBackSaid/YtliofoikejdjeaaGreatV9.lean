/- Texts laid one behind the other: B3, B4. -/
import Derived.Test.YtliofoikejdjeaaGreatV8
import Derived.Test.YtliofoikejdjeaaGreatV2
import Derived.Test.YtliofoikejdjeaaGreatWTab
/- gread's builder: a left side. -/
namespace Go.Proofs.YtliofoikejdjeaaGreat
open Go.RowKit Go.Proofs.YtliofoikejdjeaaGreatW.PrintWords Go.Proofs.YtliofoikejdjeaaGreatW.PrintLast
set_option linter.unusedVariables false
set_option linter.unusedSimpArgs false
def blaT : Bool × List (List Nat × List Nat) := (true, [([], []), ([], []), ([1], [1]), ([2], [2]), ([3], [3]), ([4], [4]), ([], []), ([6], [6]), ([7], [7]), ([5, 8], [5, 8]), ([0, 0, 1, 2, 3, 4, 5, 6, 7, 8, 9], [0]), ([10, 0, 1, 2, 3, 4, 5, 6, 7, 8, 9], [10]), ([11, 0, 1, 2, 3, 4, 5, 6, 7, 8, 9], [11]), ([12, 9, 9, 0, 1, 2, 3, 4, 5, 6, 7, 8, 9], [9, 12])])
def blaB : List Nat := [0, 0, 2, 6, 14, 30, 0, 64, 192, 510, 1023, 2047, 4095, 8191]
theorem blaTab : rtab .any (opsOf Tryz.f64 7) = blaT := by kernel_rfl
theorem blaBits : waitsOk blaT.2 blaB = true := by kernel_rfl
def blmT : Bool × List (List Nat × List Nat) := (true, [([], []), ([0], [0]), ([1], [1]), ([2], [2]), ([], []), ([4], [4]), ([], []), ([6], [6]), ([7], [7]), ([8], [8]), ([9], [9]), ([10], [10]), ([3, 5, 11, 0, 1, 2, 3, 4, 5, 6, 7, 8, 9, 10, 11], [3, 5, 11])])
def blmB : List Nat := [0, 1, 3, 7, 0, 16, 0, 64, 192, 448, 960, 1984, 4095]
theorem blmTab : rtab .any (opsOf Tryz.f64 8) = blmT := by kernel_rfl
theorem blmBits : waitsOk blmT.2 blmB = true := by kernel_rfl
def LeftEnd (W1 w : World) (b m : Nat) (x : Hd) (rs : List Ru) (B mt mn : Nat) (vT vN vS : Value) (u : Bu) (R : Except Ft (List ByteArray)) (e : Ending) (w' : World) : Prop :=
  match R with
  | .error f => Panics f e ∧ Below W1.heap.size W1 w'
  | .ok ns' => e = .returned (.tuple #[]) ∧ ∃ vN', BS W1 w' b m x rs B mt mn vT vN' vS { u with ns := ns' } u.ts ns' ∧ Fr B mn vN vN' w w'
theorem placeS_ge (xs : List ByteArray) (s : ByteArray) : -1 ≤ placeS xs s := by
  unfold placeS idxF
  cases xs.findIdx? (fun x => decide (x = s)) <;> simp <;> omega
/-- A method's world: the builder's state, the boxed token. -/
structure LIn (W1 w : World) (b m : Nat) (x : Hd) (rs : List Ru) (B mt mn : Nat) (vT vN vS : Value) (u : Bu) (g : Nat) (t : Tk) (w' : World) : Prop where
  hb : BS W1 w' b m x rs B mt mn vT vN vS u u.ts u.ns
  bk : w'.heap[g]? = some (.cells #[.int .i64 t.k, .string t.s, .int .i64 t.at_] 85 (0, 0))
  fr : Fr B mn vN vN w w'
theorem LIn.drew {W1 w : World} {b m : Nat} {x : Hd} {rs : List Ru} {B mt mn : Nat} {vT vN vS : Value} {u : Bu} {g : Nat} {t : Tk} {w' : World} (h : LIn W1 w b m x rs B mt mn vT vN vS u g t w') : LIn W1 w b m x rs B mt mn vT vN vS u g t w'.drew :=
  ⟨h.hb.later (below_drew (Below.refl _ _)), blk_drew h.bk, h.fr.trans (Fr.later (below_drew (Below.refl _ _)))⟩
set_option maxHeartbeats 8000000 in
set_option maxRecDepth 100000 in
theorem b_left_dup {W1 w : World} {b m : Nat} {x : Hd} {rs : List Ru} {B mt mn : Nat} {vT vN vS : Value} {u : Bu} (h : BS W1 w b m x rs B mt mn vT vN vS u u.ts u.ns) (t : Tk) (hsz : t.s.size ≤ 10000) (d : Nat) {q p : Int} (hq : placeS u.ts t.s + 1 = q) (hp : placeS u.ns t.s + 1 = p) (h0 : 0 < q) (h00 : q ≤ (d : Int)) :
    Calls Tryz.prog 64 #[.pointer (some ⟨B, 0, none⟩), tkV t, .int .i64 d] w (LeftEnd W1 w b m x rs B mt mn vT vN vS u (leftB t d u.ts u.ns)) := by
  have HR : Aside0 (leftB t d u.ts u.ns = .error (8, t.at_)) := ⟨by unfold leftB; rw [if_pos (by omega)]⟩
  have hgB0 : w.heap.size ≠ B := by have := blk_lt h.blk; omega
  have HGB := Aside0.mk hgB0
  have HI : Aside0 (LIn W1 w b m x rs B mt mn vT vN vS u w.heap.size t (w.alloc (.cells #[.int .i64 t.k, .string t.s, .int .i64 t.at_] 85 (0, 0)))) := ⟨⟨h.later (below_alloc (Below.refl _ _) _), blk_new _ _, Fr.later (below_alloc (Below.refl _ _) _)⟩⟩
  have key : ∀ g w', LIn W1 w b m x rs B mt mn vT vN vS u g t w' → w'.cell? ⟨B, 1, none⟩ = some (.map (some mt)) ∧ w'.cell? ⟨B, 2, none⟩ = some (.map (some mn)) ∧ w'.cell? ⟨g, 1, none⟩ = some (.string t.s) ∧ (Instr.lookup 59 (.map (some mt)) (.string t.s) false).run Tryz.prog w' = .ok (.int .i64 q) w' ∧ (Instr.lookup 59 (.map (some mn)) (.string t.s) false).run Tryz.prog w' = .ok (.int .i64 p) w' := fun g w' hw =>
    ⟨hw.hb.cells.2.1, hw.hb.cells.2.2.1, (blk_cell hw.bk 1).trans rfl, hq ▸ hw.hb.lookT t.s hsz, hp ▸ hw.hb.lookN t.s hsz⟩
  have KEY0 := Aside0.mk key
  have HSZ : Aside0 (t.s.size ≤ 140737488351232) := ⟨by omega⟩
  have HPQ : Aside0 (p < 1 → -1 ≤ placeS u.ns t.s → placeS u.ns t.s = -1) := ⟨fun _ _ => by omega⟩
  clear h hsz hq hp key hgB0
  unfold tkV
  go_enter Tryz.func64, Tryz.ntmps64
  go_wp2
  obtain ⟨g, hgg⟩ : ∃ g, w.heap.size = g := ⟨_, rfl⟩
  rw [hgg] at HI HGB
  have KEY := Aside0.mk (KEY0.out g)
  clear KEY0
  refine wp_region_det (vs := [?d1xv0, ?d1xv1, ?d1xv2, ?d1xv3, ?d1xv4, ?d1xv5, ?d1xv6, ?d1xv7]) (fun w' => LIn W1 w b m x rs B mt mn vT vN vS u g t w') rfl (by kernel_rfl) (putAll_put (by simp only [Act.put, List.setIfInBounds_toArray, List.set_cons_zero, List.set_cons_succ]; rfl) (putAll_put (by simp only [Act.put, List.setIfInBounds_toArray, List.set_cons_zero, List.set_cons_succ]; rfl) (putAll_put (by simp only [Act.put, List.setIfInBounds_toArray, List.set_cons_zero, List.set_cons_succ]; rfl) (putAll_put (by simp only [Act.put, List.setIfInBounds_toArray, List.set_cons_zero, List.set_cons_succ]; rfl) (putAll_put (by simp only [Act.put, List.setIfInBounds_toArray, List.set_cons_zero, List.set_cons_succ]; rfl) (putAll_put (by simp only [Act.put, List.setIfInBounds_toArray, List.set_cons_zero, List.set_cons_succ]; rfl) (putAll_put (by simp only [Act.put, List.setIfInBounds_toArray, List.set_cons_zero, List.set_cons_succ]; rfl) (putAll_put (by simp only [Act.put, List.setIfInBounds_toArray, List.set_cons_zero, List.set_cons_succ]; rfl) (putAll_nil _))))))))) (HI.out.drew) ?d1xOps ?d1xFin
  case d1xOps =>
    refine ⟨fun w' hw => ?d1xo0, fun w' hw => ?d1xo1, fun w' hw => ?d1xo2, fun w' hw => ?d1xo3, fun w' hw => ?d1xo4, fun w' hw => ?d1xo5, fun w' hw => ?d1xo6, fun w' hw => ?d1xo7, trivial⟩
    case d1xo0 => obtain ⟨f0, f1, f2, f3, f4⟩ := KEY.out w' hw; go_simp; rfl
    case d1xo1 => obtain ⟨f0, f1, f2, f3, f4⟩ := KEY.out w' hw; go_simp; rfl
    case d1xo2 => obtain ⟨f0, f1, f2, f3, f4⟩ := KEY.out w' hw; go_simp; rfl
    case d1xo3 => obtain ⟨f0, f1, f2, f3, f4⟩ := KEY.out w' hw; go_simp; rfl
    case d1xo4 => obtain ⟨f0, f1, f2, f3, f4⟩ := KEY.out w' hw; go_simp; rfl
    case d1xo5 => obtain ⟨f0, f1, f2, f3, f4⟩ := KEY.out w' hw; go_simp; rfl
    case d1xo6 => obtain ⟨f0, f1, f2, f3, f4⟩ := KEY.out w' hw; go_simp; rfl
    case d1xo7 => obtain ⟨f0, f1, f2, f3, f4⟩ := KEY.out w' hw; go_simp; rfl
  case d1xFin =>
    intro w1 hw1
    have c2 := (blk_cell hw1.bk 2).trans rfl
    have HI1 := Aside0.mk hw1
    clear hw1 HI
    go_wp2_with (go_at_call 99; ((with_reducible refine (gread_fail _ _ _).mono ?_); rintro e w' ⟨⟨older, rfl, ho⟩, rfl⟩))
    refine ⟨rfl, ?_⟩
    rw [HR.out]
    exact ⟨⟨older, rfl, ho⟩, HI1.out.hb.below⟩
set_option maxHeartbeats 8000000 in
set_option maxRecDepth 100000 in
theorem b_left_old0 {W1 w : World} {b m : Nat} {x : Hd} {rs : List Ru} {B mt mn : Nat} {vT vN vS : Value} {u : Bu} (h : BS W1 w b m x rs B mt mn vT vN vS u u.ts u.ns) (t : Tk) (hsz : t.s.size ≤ 10000) (d : Nat) {q p : Int} (hq : placeS u.ts t.s + 1 = q) (hp : placeS u.ns t.s + 1 = p) (h0 : ¬ 0 < q) (h1 : 0 < p) :
    Calls Tryz.prog 64 #[.pointer (some ⟨B, 0, none⟩), tkV t, .int .i64 d] w (LeftEnd W1 w b m x rs B mt mn vT vN vS u (leftB t d u.ts u.ns)) := by
  have HR : Aside0 (leftB t d u.ts u.ns = .ok u.ns) := ⟨by unfold leftB; rw [if_neg (by omega), if_pos (by omega)]⟩
  have hgB0 : w.heap.size ≠ B := by have := blk_lt h.blk; omega
  have HGB := Aside0.mk hgB0
  have HI : Aside0 (LIn W1 w b m x rs B mt mn vT vN vS u w.heap.size t (w.alloc (.cells #[.int .i64 t.k, .string t.s, .int .i64 t.at_] 85 (0, 0)))) := ⟨⟨h.later (below_alloc (Below.refl _ _) _), blk_new _ _, Fr.later (below_alloc (Below.refl _ _) _)⟩⟩
  have key : ∀ g w', LIn W1 w b m x rs B mt mn vT vN vS u g t w' → w'.cell? ⟨B, 1, none⟩ = some (.map (some mt)) ∧ w'.cell? ⟨B, 2, none⟩ = some (.map (some mn)) ∧ w'.cell? ⟨g, 1, none⟩ = some (.string t.s) ∧ (Instr.lookup 59 (.map (some mt)) (.string t.s) false).run Tryz.prog w' = .ok (.int .i64 q) w' ∧ (Instr.lookup 59 (.map (some mn)) (.string t.s) false).run Tryz.prog w' = .ok (.int .i64 p) w' := fun g w' hw =>
    ⟨hw.hb.cells.2.1, hw.hb.cells.2.2.1, (blk_cell hw.bk 1).trans rfl, hq ▸ hw.hb.lookT t.s hsz, hp ▸ hw.hb.lookN t.s hsz⟩
  have KEY0 := Aside0.mk key
  have HSZ : Aside0 (t.s.size ≤ 140737488351232) := ⟨by omega⟩
  have HPQ : Aside0 (p < 1 → -1 ≤ placeS u.ns t.s → placeS u.ns t.s = -1) := ⟨fun _ _ => by omega⟩
  clear h hsz hq hp key hgB0
  unfold tkV
  go_enter Tryz.func64, Tryz.ntmps64
  go_wp2
  obtain ⟨g, hgg⟩ : ∃ g, w.heap.size = g := ⟨_, rfl⟩
  rw [hgg] at HI HGB
  have KEY := Aside0.mk (KEY0.out g)
  clear KEY0
  refine wp_region_det (vs := [?d2xv0, ?d2xv1, ?d2xv2, ?d2xv3, ?d2xv4, ?d2xv5, ?d2xv6, ?d2xv7]) (fun w' => LIn W1 w b m x rs B mt mn vT vN vS u g t w') rfl (by kernel_rfl) (putAll_put (by simp only [Act.put, List.setIfInBounds_toArray, List.set_cons_zero, List.set_cons_succ]; rfl) (putAll_put (by simp only [Act.put, List.setIfInBounds_toArray, List.set_cons_zero, List.set_cons_succ]; rfl) (putAll_put (by simp only [Act.put, List.setIfInBounds_toArray, List.set_cons_zero, List.set_cons_succ]; rfl) (putAll_put (by simp only [Act.put, List.setIfInBounds_toArray, List.set_cons_zero, List.set_cons_succ]; rfl) (putAll_put (by simp only [Act.put, List.setIfInBounds_toArray, List.set_cons_zero, List.set_cons_succ]; rfl) (putAll_put (by simp only [Act.put, List.setIfInBounds_toArray, List.set_cons_zero, List.set_cons_succ]; rfl) (putAll_put (by simp only [Act.put, List.setIfInBounds_toArray, List.set_cons_zero, List.set_cons_succ]; rfl) (putAll_put (by simp only [Act.put, List.setIfInBounds_toArray, List.set_cons_zero, List.set_cons_succ]; rfl) (putAll_nil _))))))))) (HI.out.drew) ?d2xOps ?d2xFin
  case d2xOps =>
    refine ⟨fun w' hw => ?d2xo0, fun w' hw => ?d2xo1, fun w' hw => ?d2xo2, fun w' hw => ?d2xo3, fun w' hw => ?d2xo4, fun w' hw => ?d2xo5, fun w' hw => ?d2xo6, fun w' hw => ?d2xo7, trivial⟩
    case d2xo0 => obtain ⟨f0, f1, f2, f3, f4⟩ := KEY.out w' hw; go_simp; rfl
    case d2xo1 => obtain ⟨f0, f1, f2, f3, f4⟩ := KEY.out w' hw; go_simp; rfl
    case d2xo2 => obtain ⟨f0, f1, f2, f3, f4⟩ := KEY.out w' hw; go_simp; rfl
    case d2xo3 => obtain ⟨f0, f1, f2, f3, f4⟩ := KEY.out w' hw; go_simp; rfl
    case d2xo4 => obtain ⟨f0, f1, f2, f3, f4⟩ := KEY.out w' hw; go_simp; rfl
    case d2xo5 => obtain ⟨f0, f1, f2, f3, f4⟩ := KEY.out w' hw; go_simp; rfl
    case d2xo6 => obtain ⟨f0, f1, f2, f3, f4⟩ := KEY.out w' hw; go_simp; rfl
    case d2xo7 => obtain ⟨f0, f1, f2, f3, f4⟩ := KEY.out w' hw; go_simp; rfl
  case d2xFin =>
    intro w1 hw1
    have c2 := (blk_cell hw1.bk 2).trans rfl
    have HI1 := Aside0.mk hw1
    clear hw1 HI
    go_wp2
    clear c2
    refine wp_region_det (vs := [?d3xv0, ?d3xv1, ?d3xv2, ?d3xv3, ?d3xv4, ?d3xv5, ?d3xv6, ?d3xv7]) (fun w' => LIn W1 w b m x rs B mt mn vT vN vS u g t w') rfl (by kernel_rfl) (putAll_put (by simp only [Act.put, List.setIfInBounds_toArray, List.set_cons_zero, List.set_cons_succ]; rfl) (putAll_put (by simp only [Act.put, List.setIfInBounds_toArray, List.set_cons_zero, List.set_cons_succ]; rfl) (putAll_put (by simp only [Act.put, List.setIfInBounds_toArray, List.set_cons_zero, List.set_cons_succ]; rfl) (putAll_put (by simp only [Act.put, List.setIfInBounds_toArray, List.set_cons_zero, List.set_cons_succ]; rfl) (putAll_put (by simp only [Act.put, List.setIfInBounds_toArray, List.set_cons_zero, List.set_cons_succ]; rfl) (putAll_put (by simp only [Act.put, List.setIfInBounds_toArray, List.set_cons_zero, List.set_cons_succ]; rfl) (putAll_put (by simp only [Act.put, List.setIfInBounds_toArray, List.set_cons_zero, List.set_cons_succ]; rfl) (putAll_put (by simp only [Act.put, List.setIfInBounds_toArray, List.set_cons_zero, List.set_cons_succ]; rfl) (putAll_nil _))))))))) (HI1.out.drew) ?d3xOps ?d3xFin
    case d3xOps =>
      refine ⟨fun w' hw => ?d3xo0, fun w' hw => ?d3xo1, fun w' hw => ?d3xo2, fun w' hw => ?d3xo3, fun w' hw => ?d3xo4, fun w' hw => ?d3xo5, fun w' hw => ?d3xo6, fun w' hw => ?d3xo7, trivial⟩
      case d3xo0 => obtain ⟨f0, f1, f2, f3, f4⟩ := KEY.out w' hw; go_simp; rfl
      case d3xo1 => obtain ⟨f0, f1, f2, f3, f4⟩ := KEY.out w' hw; go_simp; rfl
      case d3xo2 => obtain ⟨f0, f1, f2, f3, f4⟩ := KEY.out w' hw; go_simp; rfl
      case d3xo3 => obtain ⟨f0, f1, f2, f3, f4⟩ := KEY.out w' hw; go_simp; rfl
      case d3xo4 => obtain ⟨f0, f1, f2, f3, f4⟩ := KEY.out w' hw; go_simp; rfl
      case d3xo5 => obtain ⟨f0, f1, f2, f3, f4⟩ := KEY.out w' hw; go_simp; rfl
      case d3xo6 => obtain ⟨f0, f1, f2, f3, f4⟩ := KEY.out w' hw; go_simp; rfl
      case d3xo7 => obtain ⟨f0, f1, f2, f3, f4⟩ := KEY.out w' hw; go_simp; rfl
    case d3xFin =>
      intro w2 hw2
      have HI2 := Aside0.mk hw2
      clear hw2 HI1
      go_wp2
      (first | go_end0 | refine bodyPost_ret (results_none rfl _ _ _) rfl ?_)
      rw [HR.out]
      exact ⟨rfl, _, HI2.out.hb, HI2.out.fr⟩
set_option maxHeartbeats 8000000 in
set_option maxRecDepth 100000 in
theorem b_left_full0 {W1 w : World} {b m : Nat} {x : Hd} {rs : List Ru} {B mt mn : Nat} {vT vN vS : Value} {u : Bu} (h : BS W1 w b m x rs B mt mn vT vN vS u u.ts u.ns) (t : Tk) (hsz : t.s.size ≤ 10000) (d : Nat) {q p : Int} (hq : placeS u.ts t.s + 1 = q) (hp : placeS u.ns t.s + 1 = p) (h0 : ¬ 0 < q) (h1 : ¬ 0 < p) (h2 : 120 ≤ u.ns.length) (hu : u.ns.length ≤ 100000) :
    Calls Tryz.prog 64 #[.pointer (some ⟨B, 0, none⟩), tkV t, .int .i64 d] w (LeftEnd W1 w b m x rs B mt mn vT vN vS u (leftB t d u.ts u.ns)) := by
  have HR : Aside0 (leftB t d u.ts u.ns = .error (7, t.at_)) := ⟨by unfold leftB; rw [if_neg (by omega), if_neg (by omega), if_pos (by omega)]⟩
  have hgB0 : w.heap.size ≠ B := by have := blk_lt h.blk; omega
  have HGB := Aside0.mk hgB0
  have HI : Aside0 (LIn W1 w b m x rs B mt mn vT vN vS u w.heap.size t (w.alloc (.cells #[.int .i64 t.k, .string t.s, .int .i64 t.at_] 85 (0, 0)))) := ⟨⟨h.later (below_alloc (Below.refl _ _) _), blk_new _ _, Fr.later (below_alloc (Below.refl _ _) _)⟩⟩
  have key : ∀ g w', LIn W1 w b m x rs B mt mn vT vN vS u g t w' → w'.cell? ⟨B, 1, none⟩ = some (.map (some mt)) ∧ w'.cell? ⟨B, 2, none⟩ = some (.map (some mn)) ∧ w'.cell? ⟨g, 1, none⟩ = some (.string t.s) ∧ (Instr.lookup 59 (.map (some mt)) (.string t.s) false).run Tryz.prog w' = .ok (.int .i64 q) w' ∧ (Instr.lookup 59 (.map (some mn)) (.string t.s) false).run Tryz.prog w' = .ok (.int .i64 p) w' := fun g w' hw =>
    ⟨hw.hb.cells.2.1, hw.hb.cells.2.2.1, (blk_cell hw.bk 1).trans rfl, hq ▸ hw.hb.lookT t.s hsz, hp ▸ hw.hb.lookN t.s hsz⟩
  have KEY0 := Aside0.mk key
  have HSZ : Aside0 (t.s.size ≤ 140737488351232) := ⟨by omega⟩
  have HPQ : Aside0 (p < 1 → -1 ≤ placeS u.ns t.s → placeS u.ns t.s = -1) := ⟨fun _ _ => by omega⟩
  have HPP : Aside0 (placeS u.ns t.s = -1) := ⟨by have := placeS_ge u.ns t.s; omega⟩
  have hl2 : (120 : Int) ≤ (u.ns.length : Int) := by omega
  clear h2 hu
  clear h hsz hq hp key hgB0
  unfold tkV
  go_enter Tryz.func64, Tryz.ntmps64
  go_wp2
  obtain ⟨g, hgg⟩ : ∃ g, w.heap.size = g := ⟨_, rfl⟩
  rw [hgg] at HI HGB
  have KEY := Aside0.mk (KEY0.out g)
  clear KEY0
  refine wp_region_det (vs := [?d4xv0, ?d4xv1, ?d4xv2, ?d4xv3, ?d4xv4, ?d4xv5, ?d4xv6, ?d4xv7]) (fun w' => LIn W1 w b m x rs B mt mn vT vN vS u g t w') rfl (by kernel_rfl) (putAll_put (by simp only [Act.put, List.setIfInBounds_toArray, List.set_cons_zero, List.set_cons_succ]; rfl) (putAll_put (by simp only [Act.put, List.setIfInBounds_toArray, List.set_cons_zero, List.set_cons_succ]; rfl) (putAll_put (by simp only [Act.put, List.setIfInBounds_toArray, List.set_cons_zero, List.set_cons_succ]; rfl) (putAll_put (by simp only [Act.put, List.setIfInBounds_toArray, List.set_cons_zero, List.set_cons_succ]; rfl) (putAll_put (by simp only [Act.put, List.setIfInBounds_toArray, List.set_cons_zero, List.set_cons_succ]; rfl) (putAll_put (by simp only [Act.put, List.setIfInBounds_toArray, List.set_cons_zero, List.set_cons_succ]; rfl) (putAll_put (by simp only [Act.put, List.setIfInBounds_toArray, List.set_cons_zero, List.set_cons_succ]; rfl) (putAll_put (by simp only [Act.put, List.setIfInBounds_toArray, List.set_cons_zero, List.set_cons_succ]; rfl) (putAll_nil _))))))))) (HI.out.drew) ?d4xOps ?d4xFin
  case d4xOps =>
    refine ⟨fun w' hw => ?d4xo0, fun w' hw => ?d4xo1, fun w' hw => ?d4xo2, fun w' hw => ?d4xo3, fun w' hw => ?d4xo4, fun w' hw => ?d4xo5, fun w' hw => ?d4xo6, fun w' hw => ?d4xo7, trivial⟩
    case d4xo0 => obtain ⟨f0, f1, f2, f3, f4⟩ := KEY.out w' hw; go_simp; rfl
    case d4xo1 => obtain ⟨f0, f1, f2, f3, f4⟩ := KEY.out w' hw; go_simp; rfl
    case d4xo2 => obtain ⟨f0, f1, f2, f3, f4⟩ := KEY.out w' hw; go_simp; rfl
    case d4xo3 => obtain ⟨f0, f1, f2, f3, f4⟩ := KEY.out w' hw; go_simp; rfl
    case d4xo4 => obtain ⟨f0, f1, f2, f3, f4⟩ := KEY.out w' hw; go_simp; rfl
    case d4xo5 => obtain ⟨f0, f1, f2, f3, f4⟩ := KEY.out w' hw; go_simp; rfl
    case d4xo6 => obtain ⟨f0, f1, f2, f3, f4⟩ := KEY.out w' hw; go_simp; rfl
    case d4xo7 => obtain ⟨f0, f1, f2, f3, f4⟩ := KEY.out w' hw; go_simp; rfl
  case d4xFin =>
    intro w1 hw1
    have c2 := (blk_cell hw1.bk 2).trans rfl
    have HI1 := Aside0.mk hw1
    clear hw1 HI
    go_wp2
    clear c2
    refine wp_region_det (vs := [?d5xv0, ?d5xv1, ?d5xv2, ?d5xv3, ?d5xv4, ?d5xv5, ?d5xv6, ?d5xv7]) (fun w' => LIn W1 w b m x rs B mt mn vT vN vS u g t w') rfl (by kernel_rfl) (putAll_put (by simp only [Act.put, List.setIfInBounds_toArray, List.set_cons_zero, List.set_cons_succ]; rfl) (putAll_put (by simp only [Act.put, List.setIfInBounds_toArray, List.set_cons_zero, List.set_cons_succ]; rfl) (putAll_put (by simp only [Act.put, List.setIfInBounds_toArray, List.set_cons_zero, List.set_cons_succ]; rfl) (putAll_put (by simp only [Act.put, List.setIfInBounds_toArray, List.set_cons_zero, List.set_cons_succ]; rfl) (putAll_put (by simp only [Act.put, List.setIfInBounds_toArray, List.set_cons_zero, List.set_cons_succ]; rfl) (putAll_put (by simp only [Act.put, List.setIfInBounds_toArray, List.set_cons_zero, List.set_cons_succ]; rfl) (putAll_put (by simp only [Act.put, List.setIfInBounds_toArray, List.set_cons_zero, List.set_cons_succ]; rfl) (putAll_put (by simp only [Act.put, List.setIfInBounds_toArray, List.set_cons_zero, List.set_cons_succ]; rfl) (putAll_nil _))))))))) (HI1.out.drew) ?d5xOps ?d5xFin
    case d5xOps =>
      refine ⟨fun w' hw => ?d5xo0, fun w' hw => ?d5xo1, fun w' hw => ?d5xo2, fun w' hw => ?d5xo3, fun w' hw => ?d5xo4, fun w' hw => ?d5xo5, fun w' hw => ?d5xo6, fun w' hw => ?d5xo7, trivial⟩
      case d5xo0 => obtain ⟨f0, f1, f2, f3, f4⟩ := KEY.out w' hw; go_simp; rfl
      case d5xo1 => obtain ⟨f0, f1, f2, f3, f4⟩ := KEY.out w' hw; go_simp; rfl
      case d5xo2 => obtain ⟨f0, f1, f2, f3, f4⟩ := KEY.out w' hw; go_simp; rfl
      case d5xo3 => obtain ⟨f0, f1, f2, f3, f4⟩ := KEY.out w' hw; go_simp; rfl
      case d5xo4 => obtain ⟨f0, f1, f2, f3, f4⟩ := KEY.out w' hw; go_simp; rfl
      case d5xo5 => obtain ⟨f0, f1, f2, f3, f4⟩ := KEY.out w' hw; go_simp; rfl
      case d5xo6 => obtain ⟨f0, f1, f2, f3, f4⟩ := KEY.out w' hw; go_simp; rfl
      case d5xo7 => obtain ⟨f0, f1, f2, f3, f4⟩ := KEY.out w' hw; go_simp; rfl
    case d5xFin =>
      intro w2 hw2
      have HI2 := Aside0.mk hw2
      clear hw2 HI1
      obtain ⟨Av, cv, ev⟩ := Kd.R_slice HI2.out.hb.ns
      have c2 := (blk_cell HI2.out.bk 2).trans rfl
      have c0 := (blk_cell HI2.out.hb.blk 4).trans rfl
      rw [ev] at c0
      clear ev
      go_wp2_with (go_at_call 99; ((with_reducible refine (gread_fail _ _ _).mono ?_); rintro e w' ⟨⟨older, rfl, ho⟩, rfl⟩))
      refine ⟨rfl, ?_⟩
      rw [HR.out]
      exact ⟨⟨older, rfl, ho⟩, HI2.out.hb.below⟩
set_option maxHeartbeats 8000000 in
set_option maxRecDepth 100000 in
theorem b_left_new0 {W1 w : World} {b m : Nat} {x : Hd} {rs : List Ru} {B mt mn : Nat} {vT vN vS : Value} {u : Bu} (h : BS W1 w b m x rs B mt mn vT vN vS u u.ts u.ns) (t : Tk) (hsz : t.s.size ≤ 10000) (d : Nat) {q p : Int} (hq : placeS u.ts t.s + 1 = q) (hp : placeS u.ns t.s + 1 = p) (h0 : ¬ 0 < q) (h1 : ¬ 0 < p) (h2 : u.ns.length < 120) :
    Calls Tryz.prog 64 #[.pointer (some ⟨B, 0, none⟩), tkV t, .int .i64 d] w (LeftEnd W1 w b m x rs B mt mn vT vN vS u (leftB t d u.ts u.ns)) := by
  have HR : Aside0 (leftB t d u.ts u.ns = .ok (u.ns ++ [t.s])) := ⟨by unfold leftB; rw [if_neg (by omega), if_neg (by omega), if_neg (by omega)]⟩
  have hgB0 : w.heap.size ≠ B := by have := blk_lt h.blk; omega
  have HGB := Aside0.mk hgB0
  have HI : Aside0 (LIn W1 w b m x rs B mt mn vT vN vS u w.heap.size t (w.alloc (.cells #[.int .i64 t.k, .string t.s, .int .i64 t.at_] 85 (0, 0)))) := ⟨⟨h.later (below_alloc (Below.refl _ _) _), blk_new _ _, Fr.later (below_alloc (Below.refl _ _) _)⟩⟩
  have key : ∀ g w', LIn W1 w b m x rs B mt mn vT vN vS u g t w' → w'.cell? ⟨B, 1, none⟩ = some (.map (some mt)) ∧ w'.cell? ⟨B, 2, none⟩ = some (.map (some mn)) ∧ w'.cell? ⟨g, 1, none⟩ = some (.string t.s) ∧ (Instr.lookup 59 (.map (some mt)) (.string t.s) false).run Tryz.prog w' = .ok (.int .i64 q) w' ∧ (Instr.lookup 59 (.map (some mn)) (.string t.s) false).run Tryz.prog w' = .ok (.int .i64 p) w' := fun g w' hw =>
    ⟨hw.hb.cells.2.1, hw.hb.cells.2.2.1, (blk_cell hw.bk 1).trans rfl, hq ▸ hw.hb.lookT t.s hsz, hp ▸ hw.hb.lookN t.s hsz⟩
  have KEY0 := Aside0.mk key
  have HSZ : Aside0 (t.s.size ≤ 140737488351232) := ⟨by omega⟩
  have HPQ : Aside0 (p < 1 → -1 ≤ placeS u.ns t.s → placeS u.ns t.s = -1) := ⟨fun _ _ => by omega⟩
  have HPP : Aside0 (placeS u.ns t.s = -1) := ⟨by have := placeS_ge u.ns t.s; omega⟩
  have HL : Aside0 (u.ns.length < 120) := ⟨h2⟩
  have hl2 : ¬ (120 : Int) ≤ (u.ns.length : Int) := by omega
  clear h2
  clear h hsz hq hp key hgB0
  unfold tkV
  go_enter Tryz.func64, Tryz.ntmps64
  go_wp2
  obtain ⟨g, hgg⟩ : ∃ g, w.heap.size = g := ⟨_, rfl⟩
  rw [hgg] at HI HGB
  have KEY := Aside0.mk (KEY0.out g)
  clear KEY0
  refine wp_region_det (vs := [?d6xv0, ?d6xv1, ?d6xv2, ?d6xv3, ?d6xv4, ?d6xv5, ?d6xv6, ?d6xv7]) (fun w' => LIn W1 w b m x rs B mt mn vT vN vS u g t w') rfl (by kernel_rfl) (putAll_put (by simp only [Act.put, List.setIfInBounds_toArray, List.set_cons_zero, List.set_cons_succ]; rfl) (putAll_put (by simp only [Act.put, List.setIfInBounds_toArray, List.set_cons_zero, List.set_cons_succ]; rfl) (putAll_put (by simp only [Act.put, List.setIfInBounds_toArray, List.set_cons_zero, List.set_cons_succ]; rfl) (putAll_put (by simp only [Act.put, List.setIfInBounds_toArray, List.set_cons_zero, List.set_cons_succ]; rfl) (putAll_put (by simp only [Act.put, List.setIfInBounds_toArray, List.set_cons_zero, List.set_cons_succ]; rfl) (putAll_put (by simp only [Act.put, List.setIfInBounds_toArray, List.set_cons_zero, List.set_cons_succ]; rfl) (putAll_put (by simp only [Act.put, List.setIfInBounds_toArray, List.set_cons_zero, List.set_cons_succ]; rfl) (putAll_put (by simp only [Act.put, List.setIfInBounds_toArray, List.set_cons_zero, List.set_cons_succ]; rfl) (putAll_nil _))))))))) (HI.out.drew) ?d6xOps ?d6xFin
  case d6xOps =>
    refine ⟨fun w' hw => ?d6xo0, fun w' hw => ?d6xo1, fun w' hw => ?d6xo2, fun w' hw => ?d6xo3, fun w' hw => ?d6xo4, fun w' hw => ?d6xo5, fun w' hw => ?d6xo6, fun w' hw => ?d6xo7, trivial⟩
    case d6xo0 => obtain ⟨f0, f1, f2, f3, f4⟩ := KEY.out w' hw; go_simp; rfl
    case d6xo1 => obtain ⟨f0, f1, f2, f3, f4⟩ := KEY.out w' hw; go_simp; rfl
    case d6xo2 => obtain ⟨f0, f1, f2, f3, f4⟩ := KEY.out w' hw; go_simp; rfl
    case d6xo3 => obtain ⟨f0, f1, f2, f3, f4⟩ := KEY.out w' hw; go_simp; rfl
    case d6xo4 => obtain ⟨f0, f1, f2, f3, f4⟩ := KEY.out w' hw; go_simp; rfl
    case d6xo5 => obtain ⟨f0, f1, f2, f3, f4⟩ := KEY.out w' hw; go_simp; rfl
    case d6xo6 => obtain ⟨f0, f1, f2, f3, f4⟩ := KEY.out w' hw; go_simp; rfl
    case d6xo7 => obtain ⟨f0, f1, f2, f3, f4⟩ := KEY.out w' hw; go_simp; rfl
  case d6xFin =>
    intro w1 hw1
    have c2 := (blk_cell hw1.bk 2).trans rfl
    have HI1 := Aside0.mk hw1
    clear hw1 HI
    go_wp2
    clear c2
    refine wp_region_det (vs := [?d7xv0, ?d7xv1, ?d7xv2, ?d7xv3, ?d7xv4, ?d7xv5, ?d7xv6, ?d7xv7]) (fun w' => LIn W1 w b m x rs B mt mn vT vN vS u g t w') rfl (by kernel_rfl) (putAll_put (by simp only [Act.put, List.setIfInBounds_toArray, List.set_cons_zero, List.set_cons_succ]; rfl) (putAll_put (by simp only [Act.put, List.setIfInBounds_toArray, List.set_cons_zero, List.set_cons_succ]; rfl) (putAll_put (by simp only [Act.put, List.setIfInBounds_toArray, List.set_cons_zero, List.set_cons_succ]; rfl) (putAll_put (by simp only [Act.put, List.setIfInBounds_toArray, List.set_cons_zero, List.set_cons_succ]; rfl) (putAll_put (by simp only [Act.put, List.setIfInBounds_toArray, List.set_cons_zero, List.set_cons_succ]; rfl) (putAll_put (by simp only [Act.put, List.setIfInBounds_toArray, List.set_cons_zero, List.set_cons_succ]; rfl) (putAll_put (by simp only [Act.put, List.setIfInBounds_toArray, List.set_cons_zero, List.set_cons_succ]; rfl) (putAll_put (by simp only [Act.put, List.setIfInBounds_toArray, List.set_cons_zero, List.set_cons_succ]; rfl) (putAll_nil _))))))))) (HI1.out.drew) ?d7xOps ?d7xFin
    case d7xOps =>
      refine ⟨fun w' hw => ?d7xo0, fun w' hw => ?d7xo1, fun w' hw => ?d7xo2, fun w' hw => ?d7xo3, fun w' hw => ?d7xo4, fun w' hw => ?d7xo5, fun w' hw => ?d7xo6, fun w' hw => ?d7xo7, trivial⟩
      case d7xo0 => obtain ⟨f0, f1, f2, f3, f4⟩ := KEY.out w' hw; go_simp; rfl
      case d7xo1 => obtain ⟨f0, f1, f2, f3, f4⟩ := KEY.out w' hw; go_simp; rfl
      case d7xo2 => obtain ⟨f0, f1, f2, f3, f4⟩ := KEY.out w' hw; go_simp; rfl
      case d7xo3 => obtain ⟨f0, f1, f2, f3, f4⟩ := KEY.out w' hw; go_simp; rfl
      case d7xo4 => obtain ⟨f0, f1, f2, f3, f4⟩ := KEY.out w' hw; go_simp; rfl
      case d7xo5 => obtain ⟨f0, f1, f2, f3, f4⟩ := KEY.out w' hw; go_simp; rfl
      case d7xo6 => obtain ⟨f0, f1, f2, f3, f4⟩ := KEY.out w' hw; go_simp; rfl
      case d7xo7 => obtain ⟨f0, f1, f2, f3, f4⟩ := KEY.out w' hw; go_simp; rfl
    case d7xFin =>
      intro w2 hw2
      have HI2 := Aside0.mk hw2
      clear hw2 HI1
      obtain ⟨Av, cv, ev⟩ := Kd.R_slice HI2.out.hb.ns
      have c2 := (blk_cell HI2.out.bk 2).trans rfl
      have c0 := (blk_cell HI2.out.hb.blk 4).trans rfl
      rw [ev] at c0
      have HB := Aside0.mk HI2.out.hb
      have BK := Aside0.mk HI2.out.bk
      have HF := Aside0.mk HI2.out.fr
      clear HI2
      go_wp2
      clear c0 c2 hl2 ev
      have hgB := HGB.out
      have n1_ := Aside0.mk (HB.out.later (below_drew (Below.refl _ _)))
      have n2_ := Aside0.mk (blk_drew BK.out)
      have n3_ := Aside0.mk (HF.out.trans (Fr.later (below_drew (Below.refl _ _))))
      clear HB BK HF
      have HB := n1_
      have BK := n2_
      have HF := n3_
      clear n1_ n2_ n3_
      refine start_ (n := 14) (S := fun w' => w'.cell? ⟨B, 4, none⟩ = some vN ∧ w'.cell? ⟨g, 1, none⟩ = some (.string t.s)) (ds := [13]) #[false, false, false, false, false, false, false, false, false, false, false, false, false, false] (by kernel_rfl) rfl rfl ⟨HB.out.cells.2.2.2.2.1, (blk_cell BK.out 1).trans rfl⟩ (fun hHeld => ?_)
      refine with_tabW blaTab blaBits (fun HT_ HW_ => ?_)
      generalize World.drew _ = w5 at HB BK HF hHeld ⊢
      refine pure_ (i := 0) (N := (some 42)) (v := ?_) (a' := ?_) #[true, false, false, false, false, false, false, false, false, false, false, false, false, false] rfl rfl (any_of HT_.out (by kernel_rfl)) (fun _ _ _ h => h) (Or.inl ⟨by rfl, ?_⟩) ?_ ?_
      rotate_left
      · intro w'
        go_simp
        with_reducible rfl
      rotate_left
      · simp only [Act.put, List.setIfInBounds_toArray, List.set_cons_zero, List.set_cons_succ, i64_w, i32_w]
        rfl
      refine pure_ (i := 1) (N := (some 43)) (v := ?_) (a' := ?_) #[true, true, false, false, false, false, false, false, false, false, false, false, false, false] rfl rfl (any_of HT_.out (by kernel_rfl)) (fun _ _ _ h => h) (Or.inl ⟨by rfl, ?_⟩) ?_ ?_
      rotate_left
      · intro w'
        go_simp
        with_reducible rfl
      rotate_left
      · simp only [Act.put, List.setIfInBounds_toArray, List.set_cons_zero, List.set_cons_succ, i64_w, i32_w]
        rfl
      refine pure_ (i := 2) (N := (some 44)) (v := ?_) (a' := ?_) #[true, true, true, false, false, false, false, false, false, false, false, false, false, false] rfl rfl (any_of HT_.out (by kernel_rfl)) (fun _ _ _ h => h) (Or.inl ⟨by rfl, ?_⟩) ?_ ?_
      rotate_left
      · intro w'
        go_simp
        with_reducible rfl
      rotate_left
      · simp only [Act.put, List.setIfInBounds_toArray, List.set_cons_zero, List.set_cons_succ, i64_w, i32_w]
        rfl
      refine pure_ (i := 3) (N := (some 45)) (v := ?_) (a' := ?_) #[true, true, true, true, false, false, false, false, false, false, false, false, false, false] rfl rfl (any_of HT_.out (by kernel_rfl)) (fun _ _ _ h => h) (Or.inl ⟨by rfl, ?_⟩) ?_ ?_
      rotate_left
      · intro w'
        go_simp
        with_reducible rfl
      rotate_left
      · simp only [Act.put, List.setIfInBounds_toArray, List.set_cons_zero, List.set_cons_succ, i64_w, i32_w]
        rfl
      refine pure_ (i := 4) (N := (some 46)) (v := ?_) (a' := ?_) #[true, true, true, true, true, false, false, false, false, false, false, false, false, false] rfl rfl (any_of HT_.out (by kernel_rfl)) (fun _ _ _ h => h) (Or.inl ⟨by rfl, ?_⟩) ?_ ?_
      rotate_left
      · intro w'
        go_simp
        with_reducible rfl
      rotate_left
      · simp only [Act.put, List.setIfInBounds_toArray, List.set_cons_zero, List.set_cons_succ, i64_w, i32_w]
        rfl
      refine take_ (i := 5) (N := (some 47)) (v := ?_) (a' := ?_) #[true, true, true, true, true, true, false, false, false, false, false, false, false, false] rfl rfl (take_ofW HT_.out HW_.out (by kernel_rfl)) (fun _ _ _ h => h) (Or.inl ⟨by rfl, ?_⟩) hHeld ?_ ?_
      rotate_left
      · rintro w' ⟨s0, s1⟩
        go_simp
        with_reducible rfl
      rotate_left
      · simp only [Act.put, List.setIfInBounds_toArray, List.set_cons_zero, List.set_cons_succ, i64_w, i32_w]
        rfl
      refine pure_ (i := 6) (N := (some 48)) (v := ?_) (a' := ?_) #[true, true, true, true, true, true, true, false, false, false, false, false, false, false] rfl rfl (any_of HT_.out (by kernel_rfl)) (fun _ _ _ h => h) (Or.inl ⟨by rfl, ?_⟩) ?_ ?_
      rotate_left
      · intro w'
        go_simp
        with_reducible rfl
      rotate_left
      · simp only [Act.put, List.setIfInBounds_toArray, List.set_cons_zero, List.set_cons_succ, i64_w, i32_w]
        rfl
      refine take_ (i := 7) (N := (some 49)) (v := ?_) (a' := ?_) #[true, true, true, true, true, true, true, true, false, false, false, false, false, false] rfl rfl (take_ofW HT_.out HW_.out (by kernel_rfl)) (fun _ _ _ h => h) (Or.inl ⟨by rfl, ?_⟩) hHeld ?_ ?_
      rotate_left
      · rintro w' ⟨s0, s1⟩
        go_simp
        with_reducible rfl
      rotate_left
      · simp only [Act.put, List.setIfInBounds_toArray, List.set_cons_zero, List.set_cons_succ, i64_w, i32_w]
        rfl
      refine one_ (i := 8) (N := (some 50)) #[true, true, true, true, true, true, true, true, true, false, false, false, false, false] rfl rfl (one_of HT_.out (by kernel_rfl)) (by decide) (fun K hK => ?_)
      refine Kd.R_lit_step Kd.string (w0 := w5) w5.heap.size 9 ?hg (N := 50) ?hd (xs := [t.s]) (inner := [.string t.s]) (ok := fun _ => True) (okp := fun _ => True) ?hr ?hp (fun _ hk => hk) trivial (Below.refl _ _) (Nat.le_refl _) (by simp) ?_; (case hd => rfl); (case hg => rfl); (case hr => first | (go_simp; done) | (go_simp; rfl)); (case hp => exact (Reps.snoc (Reps.none _ _) rfl rfl))
      intro vL w7 ho hb hg hnew
      obtain ⟨A8, c8, e8, l8, C8⟩ := Kd.R_reads ho
      subst e8
      have HX := Aside0.mk C8
      have hgn := grown_none hg
      have n1_ := Aside0.mk (HB.out.later hgn)
      have n2_ := Aside0.mk (blk_below BK.out hgn)
      have n3_ := Aside0.mk (HF.out.trans (Fr.later hgn))
      clear HB BK HF ho hb hg hnew C8 l8 hgn
      have HB := n1_
      have BK := n2_
      have HF := n3_
      clear n1_ n2_ n3_
      refine hK.out _ _ ⟨HB.out.cells.2.2.2.2.1, (blk_cell BK.out 1).trans rfl⟩ (fun hHeld => ?_)
      clear hK K
      refine norm_ (a' := ?_) ?_ ?_
      rotate_left
      · show Act.put _ (some 50) _ = _
        simp only [Act.put, List.setIfInBounds_toArray, List.set_cons_zero, List.set_cons_succ, i64_w, i32_w]
        rfl
      refine one_ (i := 9) (N := (some 51)) #[true, true, true, true, true, true, true, true, true, true, false, false, false, false] rfl rfl (one_of HT_.out (by kernel_rfl)) (by decide) (fun K hK => ?_)
      refine Kd.R_append_rows_step Kd.string (w0 := w7) W1.heap.size (by rfl) (.tmp 47) (.tmp 50) 22 9 (.string ⟨#[]⟩) 16 rfl Tryz.underlying22 info9 rfl (by decide) (by omega) vN u.ns [t.s] _ _ _ (fun k => some k ≠ vT.ownBlock) (fun _ => False) rfl rfl HB.out.ns HX.out (fun _ _ h => h) (fun _ h => h.elim) (fun k hk he => by have := Kd.R_lt HB.out.ts k he.symm; omega) (Below.refl _ _) HB.out.below.size ?aL ?_
      case aL => have := HL.out; simp only [List.length_cons, List.length_nil]; omega
      intro vX w8 ho hb hg hat
      have n1_ := Aside0.mk (HB.out.putN ho hg hat)
      have n2_ := Aside0.mk (blk_grown BK.out hg (Kd.R_ne HB.out.ns BK.out (by decide)))
      have HF2 : Aside0 (∀ i v1, Fr B mn vN vX w (w8.setCell ⟨B, i, none⟩ v1)) := ⟨fun i v1 => HF.out.put hg hat⟩
      have HSL := Aside0.mk (Kd.R_slice ho)
      clear HB BK HF HX ho hb hg hat
      have HP := n1_
      have BK := n2_
      clear n1_ n2_
      refine hK.out _ _ ⟨(blk_cell HP.out.1 4).trans rfl, (blk_cell BK.out 1).trans rfl⟩ (fun hHeld => ?_)
      clear hK K
      refine norm_ (a' := ?_) ?_ ?_
      rotate_left
      · show Act.put _ (some 51) _ = _
        simp only [Act.put, List.setIfInBounds_toArray, List.set_cons_zero, List.set_cons_succ, i64_w, i32_w]
        rfl
      refine pure_ (i := 10) (N := (some 52)) (v := ?_) (a' := ?_) #[true, true, true, true, true, true, true, true, true, true, true, false, false, false] rfl rfl (any_of HT_.out (by kernel_rfl)) (fun _ _ _ h => h) (Or.inl ⟨by rfl, ?_⟩) ?_ ?_
      rotate_left
      · intro w'
        go_simp
        with_reducible rfl
      rotate_left
      · simp only [Act.put, List.setIfInBounds_toArray, List.set_cons_zero, List.set_cons_succ, i64_w, i32_w]
        rfl
      refine pure_ (i := 11) (N := (some 53)) (v := ?_) (a' := ?_) #[true, true, true, true, true, true, true, true, true, true, true, true, false, false] rfl rfl (any_of HT_.out (by kernel_rfl)) (fun _ _ _ h => h) (Or.inl ⟨by rfl, ?_⟩) ?_ ?_
      rotate_left
      · intro w'
        go_simp
        with_reducible rfl
      rotate_left
      · simp only [Act.put, List.setIfInBounds_toArray, List.set_cons_zero, List.set_cons_succ, i64_w, i32_w]
        rfl
      refine pure_ (i := 12) (N := (some 54)) (v := ?_) (a' := ?_) #[true, true, true, true, true, true, true, true, true, true, true, true, true, false] rfl rfl (any_of HT_.out (by kernel_rfl)) (fun _ _ _ h => h) (Or.inl ⟨by rfl, ?_⟩) ?_ ?_
      rotate_left
      · intro w'
        go_simp
        with_reducible rfl
      rotate_left
      · simp only [Act.put, List.setIfInBounds_toArray, List.set_cons_zero, List.set_cons_succ, i64_w, i32_w]
        rfl
      refine last_ (i := 13) (N := none) #[true, true, true, true, true, true, true, true, true, true, true, true, true, true] rfl rfl (one_of HT_.out (by kernel_rfl)) (by decide) (fun K hK => ?_)
      have f0 := (blk_cell HP.out.1 4).trans rfl
      have f1 := blk_frozen HP.out.1 4
      refine skip_ (by rfl) rfl (w1 := w8.setCell ⟨B, 4, none⟩ vX) ?hrun ?_; (case hrun => obtain ⟨An, cn, en⟩ : ∃ An cn, vX = .slice An (u.ns ++ [t.s]).length cn := HSL.out; subst en; first | (go_simp; done) | (go_simp; rfl))
      have HB := Aside0.mk HP.out.2
      have HF := Aside0.mk (HF2.out 4 vX)
      have n1_ := Aside0.mk (blk_far (p := ⟨B, 4, none⟩) BK.out hgB vX)
      clear f0 f1 HP HF2 BK
      have BK := n1_
      clear n1_
      refine hK.out _ _ ?_
      clear hK K
      refine done_ (done_of HT_.out (by kernel_rfl)) ?_
      go_wp2
      have n1_ := Aside0.mk (HB.out.later (below_drew (Below.refl _ _)))
      have n2_ := Aside0.mk (blk_drew BK.out)
      have n3_ := Aside0.mk (HF.out.trans (v1 := vX) (v2 := vX) (Fr.later (below_drew (Below.refl _ _))))
      clear HB BK HF
      have HB := n1_
      have BK := n2_
      have HF := n3_
      clear n1_ n2_ n3_
      obtain ⟨An, cn, en⟩ : ∃ An cn, vX = .slice An (u.ns ++ [t.s]).length cn := HSL.out
      clear HSL
      obtain ⟨N, hN⟩ : ∃ N, (u.ns ++ [t.s]).length = N := ⟨_, rfl⟩
      have hN2 : N = u.ns.length + 1 := by rw [← hN, List.length_append]; rfl
      have HNW : Aside0 ((Lit.int .i64 (N : Int)).wf = true) := ⟨by
        have e1 : IntKind.i64.min = -9223372036854775808 := rfl
        have e2 : IntKind.i64.max = 9223372036854775807 := rfl
        have := HL.out
        simp [Lit.wf, e1, e2]
        omega⟩
      have HPL : Aside0 (∀ ff : ByteArray → Option Int, (∀ s, (ff s).getD 0 = placeS u.ns s + 1) → ∀ s, ((fun u => if u = t.s then some (N : Int) else ff u) s).getD 0 = placeS (u.ns ++ [t.s]) s + 1) := ⟨fun ff hff s => by
        rw [place_snoc _ _ _ HPP.out]
        by_cases e : s = t.s
        · simp only [if_pos e, Option.getD_some, hN2]
        · simp only [if_neg e]
          exact hff s⟩
      rw [hN] at en
      have HEN := Aside0.mk en
      clear hN2 en
      refine start_ (n := 13) (S := fun w' => w'.cell? ⟨B, 2, none⟩ = some (.map (some mn)) ∧ w'.cell? ⟨g, 1, none⟩ = some (.string t.s) ∧ w'.cell? ⟨B, 4, none⟩ = some (.slice An N cn)) (ds := [12]) #[false, false, false, false, false, false, false, false, false, false, false, false, false] (by kernel_rfl) rfl rfl ⟨HB.out.cells.2.2.1, (blk_cell BK.out 1).trans rfl, (HB.out.cells.2.2.2.2.1).trans (congrArg some HEN.out)⟩ (fun hHeld => ?_)
      refine with_tabW blmTab blmBits (fun HT_ HW_ => ?_)
      generalize World.drew _ = w5 at HB BK HF hHeld ⊢
      refine pure_ (i := 0) (N := (some 55)) (v := ?_) (a' := ?_) #[true, false, false, false, false, false, false, false, false, false, false, false, false] rfl rfl (any_of HT_.out (by kernel_rfl)) (fun _ _ _ h => h) (Or.inl ⟨by rfl, ?_⟩) ?_ ?_
      rotate_left
      · intro w'
        go_simp
        with_reducible rfl
      rotate_left
      · simp only [Act.put, List.setIfInBounds_toArray, List.set_cons_zero, List.set_cons_succ, i64_w, i32_w]
        rfl
      refine pure_ (i := 1) (N := (some 56)) (v := ?_) (a' := ?_) #[true, true, false, false, false, false, false, false, false, false, false, false, false] rfl rfl (any_of HT_.out (by kernel_rfl)) (fun _ _ _ h => h) (Or.inl ⟨by rfl, ?_⟩) ?_ ?_
      rotate_left
      · intro w'
        go_simp
        with_reducible rfl
      rotate_left
      · simp only [Act.put, List.setIfInBounds_toArray, List.set_cons_zero, List.set_cons_succ, i64_w, i32_w]
        rfl
      refine pure_ (i := 2) (N := (some 57)) (v := ?_) (a' := ?_) #[true, true, true, false, false, false, false, false, false, false, false, false, false] rfl rfl (any_of HT_.out (by kernel_rfl)) (fun _ _ _ h => h) (Or.inl ⟨by rfl, ?_⟩) ?_ ?_
      rotate_left
      · intro w'
        go_simp
        with_reducible rfl
      rotate_left
      · simp only [Act.put, List.setIfInBounds_toArray, List.set_cons_zero, List.set_cons_succ, i64_w, i32_w]
        rfl
      refine take_ (i := 3) (N := (some 58)) (v := ?_) (a' := ?_) #[true, true, true, true, false, false, false, false, false, false, false, false, false] rfl rfl (take_ofW HT_.out HW_.out (by kernel_rfl)) (fun _ _ _ h => h) (Or.inl ⟨by rfl, ?_⟩) hHeld ?_ ?_
      rotate_left
      · rintro w' ⟨s0, s1, s2⟩
        go_simp
        with_reducible rfl
      rotate_left
      · simp only [Act.put, List.setIfInBounds_toArray, List.set_cons_zero, List.set_cons_succ, i64_w, i32_w]
        rfl
      refine pure_ (i := 4) (N := (some 59)) (v := ?_) (a' := ?_) #[true, true, true, true, true, false, false, false, false, false, false, false, false] rfl rfl (any_of HT_.out (by kernel_rfl)) (fun _ _ _ h => h) (Or.inl ⟨by rfl, ?_⟩) ?_ ?_
      rotate_left
      · intro w'
        go_simp
        with_reducible rfl
      rotate_left
      · simp only [Act.put, List.setIfInBounds_toArray, List.set_cons_zero, List.set_cons_succ, i64_w, i32_w]
        rfl
      refine take_ (i := 5) (N := (some 60)) (v := ?_) (a' := ?_) #[true, true, true, true, true, true, false, false, false, false, false, false, false] rfl rfl (take_ofW HT_.out HW_.out (by kernel_rfl)) (fun _ _ _ h => h) (Or.inl ⟨by rfl, ?_⟩) hHeld ?_ ?_
      rotate_left
      · rintro w' ⟨s0, s1, s2⟩
        go_simp
        with_reducible rfl
      rotate_left
      · simp only [Act.put, List.setIfInBounds_toArray, List.set_cons_zero, List.set_cons_succ, i64_w, i32_w]
        rfl
      refine pure_ (i := 6) (N := (some 61)) (v := ?_) (a' := ?_) #[true, true, true, true, true, true, true, false, false, false, false, false, false] rfl rfl (any_of HT_.out (by kernel_rfl)) (fun _ _ _ h => h) (Or.inl ⟨by rfl, ?_⟩) ?_ ?_
      rotate_left
      · intro w'
        go_simp
        with_reducible rfl
      rotate_left
      · simp only [Act.put, List.setIfInBounds_toArray, List.set_cons_zero, List.set_cons_succ, i64_w, i32_w]
        rfl
      refine pure_ (i := 7) (N := (some 62)) (v := ?_) (a' := ?_) #[true, true, true, true, true, true, true, true, false, false, false, false, false] rfl rfl (any_of HT_.out (by kernel_rfl)) (fun _ _ _ h => h) (Or.inl ⟨by rfl, ?_⟩) ?_ ?_
      rotate_left
      · intro w'
        go_simp
        with_reducible rfl
      rotate_left
      · simp only [Act.put, List.setIfInBounds_toArray, List.set_cons_zero, List.set_cons_succ, i64_w, i32_w]
        rfl
      refine pure_ (i := 8) (N := (some 63)) (v := ?_) (a' := ?_) #[true, true, true, true, true, true, true, true, true, false, false, false, false] rfl rfl (any_of HT_.out (by kernel_rfl)) (fun _ _ _ h => h) (Or.inl ⟨by rfl, ?_⟩) ?_ ?_
      rotate_left
      · intro w'
        go_simp
        with_reducible rfl
      rotate_left
      · simp only [Act.put, List.setIfInBounds_toArray, List.set_cons_zero, List.set_cons_succ, i64_w, i32_w]
        rfl
      refine pure_ (i := 9) (N := (some 64)) (v := ?_) (a' := ?_) #[true, true, true, true, true, true, true, true, true, true, false, false, false] rfl rfl (any_of HT_.out (by kernel_rfl)) (fun _ _ _ h => h) (Or.inl ⟨by rfl, ?_⟩) ?_ ?_
      rotate_left
      · intro w'
        go_simp
        with_reducible rfl
      rotate_left
      · simp only [Act.put, List.setIfInBounds_toArray, List.set_cons_zero, List.set_cons_succ, i64_w, i32_w]
        rfl
      refine take_ (i := 10) (N := (some 65)) (v := ?_) (a' := ?_) #[true, true, true, true, true, true, true, true, true, true, true, false, false] rfl rfl (take_ofW HT_.out HW_.out (by kernel_rfl)) (fun _ _ _ h => h) (Or.inl ⟨by rfl, ?_⟩) hHeld ?_ ?_
      rotate_left
      · rintro w' ⟨s0, s1, s2⟩
        go_simp
        with_reducible rfl
      rotate_left
      · simp only [Act.put, List.setIfInBounds_toArray, List.set_cons_zero, List.set_cons_succ, i64_w, i32_w]
        rfl
      refine pure_ (i := 11) (N := (some 66)) (v := ?_) (a' := ?_) #[true, true, true, true, true, true, true, true, true, true, true, true, false] rfl rfl (any_of HT_.out (by kernel_rfl)) (fun _ _ _ h => h) (Or.inl ⟨by rfl, ?_⟩) ?_ ?_
      rotate_left
      · intro w'
        go_simp
        with_reducible rfl
      rotate_left
      · simp only [Act.put, List.setIfInBounds_toArray, List.set_cons_zero, List.set_cons_succ, i64_w, i32_w]
        rfl
      refine last_ (i := 12) (N := none) #[true, true, true, true, true, true, true, true, true, true, true, true, true] rfl rfl (one_of HT_.out (by kernel_rfl)) (by decide) (fun K hK => ?_)
      obtain ⟨nn, ff, cc, hmp, hff, hnn⟩ := HB.out.mn_
      obtain ⟨w6, hrun_, hm6, hg6⟩ := msi_upd hmp (by have := HL.out; omega) t.s HSZ.out (N : Int) HNW.out 59 Tryz.underlying59
      refine skip_ (by rfl) rfl (w1 := w6) ?hrun ?_; (case hrun => first | (go_simp; done) | (go_simp; rfl))
      have n1_ := Aside0.mk (HB.out.mapN hm6 (HPL.out ff hff) (nm' := u.ns ++ [t.s]) (by rw [List.length_append]; exact Nat.succ_le_succ hnn) hg6)
      have n3_ := Aside0.mk (HF.out.map hg6)
      clear HB HF BK hmp hff hnn hm6 hg6 hrun_
      have HB := n1_
      have HF := n3_
      clear n1_ n3_
      refine hK.out _ _ ?_
      clear hK K
      refine done_ (done_of HT_.out (by kernel_rfl)) ?_
      go_wp2
      (first | go_end0 | refine bodyPost_ret (results_none rfl _ _ _) rfl ?_)
      rw [HR.out]
      exact ⟨rfl, _, HB.out, HF.out⟩
set_option maxHeartbeats 8000000 in
set_option maxRecDepth 100000 in
theorem b_left_old1 {W1 w : World} {b m : Nat} {x : Hd} {rs : List Ru} {B mt mn : Nat} {vT vN vS : Value} {u : Bu} (h : BS W1 w b m x rs B mt mn vT vN vS u u.ts u.ns) (t : Tk) (hsz : t.s.size ≤ 10000) (d : Nat) {q p : Int} (hq : placeS u.ts t.s + 1 = q) (hp : placeS u.ns t.s + 1 = p) (h0 : 0 < q) (h00 : ¬ q ≤ (d : Int)) (h1 : 0 < p) :
    Calls Tryz.prog 64 #[.pointer (some ⟨B, 0, none⟩), tkV t, .int .i64 d] w (LeftEnd W1 w b m x rs B mt mn vT vN vS u (leftB t d u.ts u.ns)) := by
  have HR : Aside0 (leftB t d u.ts u.ns = .ok u.ns) := ⟨by unfold leftB; rw [if_neg (by omega), if_pos (by omega)]⟩
  have hgB0 : w.heap.size ≠ B := by have := blk_lt h.blk; omega
  have HGB := Aside0.mk hgB0
  have HI : Aside0 (LIn W1 w b m x rs B mt mn vT vN vS u w.heap.size t (w.alloc (.cells #[.int .i64 t.k, .string t.s, .int .i64 t.at_] 85 (0, 0)))) := ⟨⟨h.later (below_alloc (Below.refl _ _) _), blk_new _ _, Fr.later (below_alloc (Below.refl _ _) _)⟩⟩
  have key : ∀ g w', LIn W1 w b m x rs B mt mn vT vN vS u g t w' → w'.cell? ⟨B, 1, none⟩ = some (.map (some mt)) ∧ w'.cell? ⟨B, 2, none⟩ = some (.map (some mn)) ∧ w'.cell? ⟨g, 1, none⟩ = some (.string t.s) ∧ (Instr.lookup 59 (.map (some mt)) (.string t.s) false).run Tryz.prog w' = .ok (.int .i64 q) w' ∧ (Instr.lookup 59 (.map (some mn)) (.string t.s) false).run Tryz.prog w' = .ok (.int .i64 p) w' := fun g w' hw =>
    ⟨hw.hb.cells.2.1, hw.hb.cells.2.2.1, (blk_cell hw.bk 1).trans rfl, hq ▸ hw.hb.lookT t.s hsz, hp ▸ hw.hb.lookN t.s hsz⟩
  have KEY0 := Aside0.mk key
  have HSZ : Aside0 (t.s.size ≤ 140737488351232) := ⟨by omega⟩
  have HPQ : Aside0 (p < 1 → -1 ≤ placeS u.ns t.s → placeS u.ns t.s = -1) := ⟨fun _ _ => by omega⟩
  clear h hsz hq hp key hgB0
  unfold tkV
  go_enter Tryz.func64, Tryz.ntmps64
  go_wp2
  obtain ⟨g, hgg⟩ : ∃ g, w.heap.size = g := ⟨_, rfl⟩
  rw [hgg] at HI HGB
  have KEY := Aside0.mk (KEY0.out g)
  clear KEY0
  refine wp_region_det (vs := [?d8xv0, ?d8xv1, ?d8xv2, ?d8xv3, ?d8xv4, ?d8xv5, ?d8xv6, ?d8xv7]) (fun w' => LIn W1 w b m x rs B mt mn vT vN vS u g t w') rfl (by kernel_rfl) (putAll_put (by simp only [Act.put, List.setIfInBounds_toArray, List.set_cons_zero, List.set_cons_succ]; rfl) (putAll_put (by simp only [Act.put, List.setIfInBounds_toArray, List.set_cons_zero, List.set_cons_succ]; rfl) (putAll_put (by simp only [Act.put, List.setIfInBounds_toArray, List.set_cons_zero, List.set_cons_succ]; rfl) (putAll_put (by simp only [Act.put, List.setIfInBounds_toArray, List.set_cons_zero, List.set_cons_succ]; rfl) (putAll_put (by simp only [Act.put, List.setIfInBounds_toArray, List.set_cons_zero, List.set_cons_succ]; rfl) (putAll_put (by simp only [Act.put, List.setIfInBounds_toArray, List.set_cons_zero, List.set_cons_succ]; rfl) (putAll_put (by simp only [Act.put, List.setIfInBounds_toArray, List.set_cons_zero, List.set_cons_succ]; rfl) (putAll_put (by simp only [Act.put, List.setIfInBounds_toArray, List.set_cons_zero, List.set_cons_succ]; rfl) (putAll_nil _))))))))) (HI.out.drew) ?d8xOps ?d8xFin
  case d8xOps =>
    refine ⟨fun w' hw => ?d8xo0, fun w' hw => ?d8xo1, fun w' hw => ?d8xo2, fun w' hw => ?d8xo3, fun w' hw => ?d8xo4, fun w' hw => ?d8xo5, fun w' hw => ?d8xo6, fun w' hw => ?d8xo7, trivial⟩
    case d8xo0 => obtain ⟨f0, f1, f2, f3, f4⟩ := KEY.out w' hw; go_simp; rfl
    case d8xo1 => obtain ⟨f0, f1, f2, f3, f4⟩ := KEY.out w' hw; go_simp; rfl
    case d8xo2 => obtain ⟨f0, f1, f2, f3, f4⟩ := KEY.out w' hw; go_simp; rfl
    case d8xo3 => obtain ⟨f0, f1, f2, f3, f4⟩ := KEY.out w' hw; go_simp; rfl
    case d8xo4 => obtain ⟨f0, f1, f2, f3, f4⟩ := KEY.out w' hw; go_simp; rfl
    case d8xo5 => obtain ⟨f0, f1, f2, f3, f4⟩ := KEY.out w' hw; go_simp; rfl
    case d8xo6 => obtain ⟨f0, f1, f2, f3, f4⟩ := KEY.out w' hw; go_simp; rfl
    case d8xo7 => obtain ⟨f0, f1, f2, f3, f4⟩ := KEY.out w' hw; go_simp; rfl
  case d8xFin =>
    intro w1 hw1
    have c2 := (blk_cell hw1.bk 2).trans rfl
    have HI1 := Aside0.mk hw1
    clear hw1 HI
    go_wp2
    clear c2
    refine wp_region_det (vs := [?d9xv0, ?d9xv1, ?d9xv2, ?d9xv3, ?d9xv4, ?d9xv5, ?d9xv6, ?d9xv7]) (fun w' => LIn W1 w b m x rs B mt mn vT vN vS u g t w') rfl (by kernel_rfl) (putAll_put (by simp only [Act.put, List.setIfInBounds_toArray, List.set_cons_zero, List.set_cons_succ]; rfl) (putAll_put (by simp only [Act.put, List.setIfInBounds_toArray, List.set_cons_zero, List.set_cons_succ]; rfl) (putAll_put (by simp only [Act.put, List.setIfInBounds_toArray, List.set_cons_zero, List.set_cons_succ]; rfl) (putAll_put (by simp only [Act.put, List.setIfInBounds_toArray, List.set_cons_zero, List.set_cons_succ]; rfl) (putAll_put (by simp only [Act.put, List.setIfInBounds_toArray, List.set_cons_zero, List.set_cons_succ]; rfl) (putAll_put (by simp only [Act.put, List.setIfInBounds_toArray, List.set_cons_zero, List.set_cons_succ]; rfl) (putAll_put (by simp only [Act.put, List.setIfInBounds_toArray, List.set_cons_zero, List.set_cons_succ]; rfl) (putAll_put (by simp only [Act.put, List.setIfInBounds_toArray, List.set_cons_zero, List.set_cons_succ]; rfl) (putAll_nil _))))))))) (HI1.out.drew) ?d9xOps ?d9xFin
    case d9xOps =>
      refine ⟨fun w' hw => ?d9xo0, fun w' hw => ?d9xo1, fun w' hw => ?d9xo2, fun w' hw => ?d9xo3, fun w' hw => ?d9xo4, fun w' hw => ?d9xo5, fun w' hw => ?d9xo6, fun w' hw => ?d9xo7, trivial⟩
      case d9xo0 => obtain ⟨f0, f1, f2, f3, f4⟩ := KEY.out w' hw; go_simp; rfl
      case d9xo1 => obtain ⟨f0, f1, f2, f3, f4⟩ := KEY.out w' hw; go_simp; rfl
      case d9xo2 => obtain ⟨f0, f1, f2, f3, f4⟩ := KEY.out w' hw; go_simp; rfl
      case d9xo3 => obtain ⟨f0, f1, f2, f3, f4⟩ := KEY.out w' hw; go_simp; rfl
      case d9xo4 => obtain ⟨f0, f1, f2, f3, f4⟩ := KEY.out w' hw; go_simp; rfl
      case d9xo5 => obtain ⟨f0, f1, f2, f3, f4⟩ := KEY.out w' hw; go_simp; rfl
      case d9xo6 => obtain ⟨f0, f1, f2, f3, f4⟩ := KEY.out w' hw; go_simp; rfl
      case d9xo7 => obtain ⟨f0, f1, f2, f3, f4⟩ := KEY.out w' hw; go_simp; rfl
    case d9xFin =>
      intro w2 hw2
      have HI2 := Aside0.mk hw2
      clear hw2 HI1
      go_wp2
      (first | go_end0 | refine bodyPost_ret (results_none rfl _ _ _) rfl ?_)
      rw [HR.out]
      exact ⟨rfl, _, HI2.out.hb, HI2.out.fr⟩
set_option maxHeartbeats 8000000 in
set_option maxRecDepth 100000 in
theorem b_left_full1 {W1 w : World} {b m : Nat} {x : Hd} {rs : List Ru} {B mt mn : Nat} {vT vN vS : Value} {u : Bu} (h : BS W1 w b m x rs B mt mn vT vN vS u u.ts u.ns) (t : Tk) (hsz : t.s.size ≤ 10000) (d : Nat) {q p : Int} (hq : placeS u.ts t.s + 1 = q) (hp : placeS u.ns t.s + 1 = p) (h0 : 0 < q) (h00 : ¬ q ≤ (d : Int)) (h1 : ¬ 0 < p) (h2 : 120 ≤ u.ns.length) (hu : u.ns.length ≤ 100000) :
    Calls Tryz.prog 64 #[.pointer (some ⟨B, 0, none⟩), tkV t, .int .i64 d] w (LeftEnd W1 w b m x rs B mt mn vT vN vS u (leftB t d u.ts u.ns)) := by
  have HR : Aside0 (leftB t d u.ts u.ns = .error (7, t.at_)) := ⟨by unfold leftB; rw [if_neg (by omega), if_neg (by omega), if_pos (by omega)]⟩
  have hgB0 : w.heap.size ≠ B := by have := blk_lt h.blk; omega
  have HGB := Aside0.mk hgB0
  have HI : Aside0 (LIn W1 w b m x rs B mt mn vT vN vS u w.heap.size t (w.alloc (.cells #[.int .i64 t.k, .string t.s, .int .i64 t.at_] 85 (0, 0)))) := ⟨⟨h.later (below_alloc (Below.refl _ _) _), blk_new _ _, Fr.later (below_alloc (Below.refl _ _) _)⟩⟩
  have key : ∀ g w', LIn W1 w b m x rs B mt mn vT vN vS u g t w' → w'.cell? ⟨B, 1, none⟩ = some (.map (some mt)) ∧ w'.cell? ⟨B, 2, none⟩ = some (.map (some mn)) ∧ w'.cell? ⟨g, 1, none⟩ = some (.string t.s) ∧ (Instr.lookup 59 (.map (some mt)) (.string t.s) false).run Tryz.prog w' = .ok (.int .i64 q) w' ∧ (Instr.lookup 59 (.map (some mn)) (.string t.s) false).run Tryz.prog w' = .ok (.int .i64 p) w' := fun g w' hw =>
    ⟨hw.hb.cells.2.1, hw.hb.cells.2.2.1, (blk_cell hw.bk 1).trans rfl, hq ▸ hw.hb.lookT t.s hsz, hp ▸ hw.hb.lookN t.s hsz⟩
  have KEY0 := Aside0.mk key
  have HSZ : Aside0 (t.s.size ≤ 140737488351232) := ⟨by omega⟩
  have HPQ : Aside0 (p < 1 → -1 ≤ placeS u.ns t.s → placeS u.ns t.s = -1) := ⟨fun _ _ => by omega⟩
  have HPP : Aside0 (placeS u.ns t.s = -1) := ⟨by have := placeS_ge u.ns t.s; omega⟩
  have hl2 : (120 : Int) ≤ (u.ns.length : Int) := by omega
  clear h2 hu
  clear h hsz hq hp key hgB0
  unfold tkV
  go_enter Tryz.func64, Tryz.ntmps64
  go_wp2
  obtain ⟨g, hgg⟩ : ∃ g, w.heap.size = g := ⟨_, rfl⟩
  rw [hgg] at HI HGB
  have KEY := Aside0.mk (KEY0.out g)
  clear KEY0
  refine wp_region_det (vs := [?d10xv0, ?d10xv1, ?d10xv2, ?d10xv3, ?d10xv4, ?d10xv5, ?d10xv6, ?d10xv7]) (fun w' => LIn W1 w b m x rs B mt mn vT vN vS u g t w') rfl (by kernel_rfl) (putAll_put (by simp only [Act.put, List.setIfInBounds_toArray, List.set_cons_zero, List.set_cons_succ]; rfl) (putAll_put (by simp only [Act.put, List.setIfInBounds_toArray, List.set_cons_zero, List.set_cons_succ]; rfl) (putAll_put (by simp only [Act.put, List.setIfInBounds_toArray, List.set_cons_zero, List.set_cons_succ]; rfl) (putAll_put (by simp only [Act.put, List.setIfInBounds_toArray, List.set_cons_zero, List.set_cons_succ]; rfl) (putAll_put (by simp only [Act.put, List.setIfInBounds_toArray, List.set_cons_zero, List.set_cons_succ]; rfl) (putAll_put (by simp only [Act.put, List.setIfInBounds_toArray, List.set_cons_zero, List.set_cons_succ]; rfl) (putAll_put (by simp only [Act.put, List.setIfInBounds_toArray, List.set_cons_zero, List.set_cons_succ]; rfl) (putAll_put (by simp only [Act.put, List.setIfInBounds_toArray, List.set_cons_zero, List.set_cons_succ]; rfl) (putAll_nil _))))))))) (HI.out.drew) ?d10xOps ?d10xFin
  case d10xOps =>
    refine ⟨fun w' hw => ?d10xo0, fun w' hw => ?d10xo1, fun w' hw => ?d10xo2, fun w' hw => ?d10xo3, fun w' hw => ?d10xo4, fun w' hw => ?d10xo5, fun w' hw => ?d10xo6, fun w' hw => ?d10xo7, trivial⟩
    case d10xo0 => obtain ⟨f0, f1, f2, f3, f4⟩ := KEY.out w' hw; go_simp; rfl
    case d10xo1 => obtain ⟨f0, f1, f2, f3, f4⟩ := KEY.out w' hw; go_simp; rfl
    case d10xo2 => obtain ⟨f0, f1, f2, f3, f4⟩ := KEY.out w' hw; go_simp; rfl
    case d10xo3 => obtain ⟨f0, f1, f2, f3, f4⟩ := KEY.out w' hw; go_simp; rfl
    case d10xo4 => obtain ⟨f0, f1, f2, f3, f4⟩ := KEY.out w' hw; go_simp; rfl
    case d10xo5 => obtain ⟨f0, f1, f2, f3, f4⟩ := KEY.out w' hw; go_simp; rfl
    case d10xo6 => obtain ⟨f0, f1, f2, f3, f4⟩ := KEY.out w' hw; go_simp; rfl
    case d10xo7 => obtain ⟨f0, f1, f2, f3, f4⟩ := KEY.out w' hw; go_simp; rfl
  case d10xFin =>
    intro w1 hw1
    have c2 := (blk_cell hw1.bk 2).trans rfl
    have HI1 := Aside0.mk hw1
    clear hw1 HI
    go_wp2
    clear c2
    refine wp_region_det (vs := [?d11xv0, ?d11xv1, ?d11xv2, ?d11xv3, ?d11xv4, ?d11xv5, ?d11xv6, ?d11xv7]) (fun w' => LIn W1 w b m x rs B mt mn vT vN vS u g t w') rfl (by kernel_rfl) (putAll_put (by simp only [Act.put, List.setIfInBounds_toArray, List.set_cons_zero, List.set_cons_succ]; rfl) (putAll_put (by simp only [Act.put, List.setIfInBounds_toArray, List.set_cons_zero, List.set_cons_succ]; rfl) (putAll_put (by simp only [Act.put, List.setIfInBounds_toArray, List.set_cons_zero, List.set_cons_succ]; rfl) (putAll_put (by simp only [Act.put, List.setIfInBounds_toArray, List.set_cons_zero, List.set_cons_succ]; rfl) (putAll_put (by simp only [Act.put, List.setIfInBounds_toArray, List.set_cons_zero, List.set_cons_succ]; rfl) (putAll_put (by simp only [Act.put, List.setIfInBounds_toArray, List.set_cons_zero, List.set_cons_succ]; rfl) (putAll_put (by simp only [Act.put, List.setIfInBounds_toArray, List.set_cons_zero, List.set_cons_succ]; rfl) (putAll_put (by simp only [Act.put, List.setIfInBounds_toArray, List.set_cons_zero, List.set_cons_succ]; rfl) (putAll_nil _))))))))) (HI1.out.drew) ?d11xOps ?d11xFin
    case d11xOps =>
      refine ⟨fun w' hw => ?d11xo0, fun w' hw => ?d11xo1, fun w' hw => ?d11xo2, fun w' hw => ?d11xo3, fun w' hw => ?d11xo4, fun w' hw => ?d11xo5, fun w' hw => ?d11xo6, fun w' hw => ?d11xo7, trivial⟩
      case d11xo0 => obtain ⟨f0, f1, f2, f3, f4⟩ := KEY.out w' hw; go_simp; rfl
      case d11xo1 => obtain ⟨f0, f1, f2, f3, f4⟩ := KEY.out w' hw; go_simp; rfl
      case d11xo2 => obtain ⟨f0, f1, f2, f3, f4⟩ := KEY.out w' hw; go_simp; rfl
      case d11xo3 => obtain ⟨f0, f1, f2, f3, f4⟩ := KEY.out w' hw; go_simp; rfl
      case d11xo4 => obtain ⟨f0, f1, f2, f3, f4⟩ := KEY.out w' hw; go_simp; rfl
      case d11xo5 => obtain ⟨f0, f1, f2, f3, f4⟩ := KEY.out w' hw; go_simp; rfl
      case d11xo6 => obtain ⟨f0, f1, f2, f3, f4⟩ := KEY.out w' hw; go_simp; rfl
      case d11xo7 => obtain ⟨f0, f1, f2, f3, f4⟩ := KEY.out w' hw; go_simp; rfl
    case d11xFin =>
      intro w2 hw2
      have HI2 := Aside0.mk hw2
      clear hw2 HI1
      obtain ⟨Av, cv, ev⟩ := Kd.R_slice HI2.out.hb.ns
      have c2 := (blk_cell HI2.out.bk 2).trans rfl
      have c0 := (blk_cell HI2.out.hb.blk 4).trans rfl
      rw [ev] at c0
      clear ev
      go_wp2_with (go_at_call 99; ((with_reducible refine (gread_fail _ _ _).mono ?_); rintro e w' ⟨⟨older, rfl, ho⟩, rfl⟩))
      refine ⟨rfl, ?_⟩
      rw [HR.out]
      exact ⟨⟨older, rfl, ho⟩, HI2.out.hb.below⟩
set_option maxHeartbeats 8000000 in
set_option maxRecDepth 100000 in
theorem b_left_new1 {W1 w : World} {b m : Nat} {x : Hd} {rs : List Ru} {B mt mn : Nat} {vT vN vS : Value} {u : Bu} (h : BS W1 w b m x rs B mt mn vT vN vS u u.ts u.ns) (t : Tk) (hsz : t.s.size ≤ 10000) (d : Nat) {q p : Int} (hq : placeS u.ts t.s + 1 = q) (hp : placeS u.ns t.s + 1 = p) (h0 : 0 < q) (h00 : ¬ q ≤ (d : Int)) (h1 : ¬ 0 < p) (h2 : u.ns.length < 120) :
    Calls Tryz.prog 64 #[.pointer (some ⟨B, 0, none⟩), tkV t, .int .i64 d] w (LeftEnd W1 w b m x rs B mt mn vT vN vS u (leftB t d u.ts u.ns)) := by
  have HR : Aside0 (leftB t d u.ts u.ns = .ok (u.ns ++ [t.s])) := ⟨by unfold leftB; rw [if_neg (by omega), if_neg (by omega), if_neg (by omega)]⟩
  have hgB0 : w.heap.size ≠ B := by have := blk_lt h.blk; omega
  have HGB := Aside0.mk hgB0
  have HI : Aside0 (LIn W1 w b m x rs B mt mn vT vN vS u w.heap.size t (w.alloc (.cells #[.int .i64 t.k, .string t.s, .int .i64 t.at_] 85 (0, 0)))) := ⟨⟨h.later (below_alloc (Below.refl _ _) _), blk_new _ _, Fr.later (below_alloc (Below.refl _ _) _)⟩⟩
  have key : ∀ g w', LIn W1 w b m x rs B mt mn vT vN vS u g t w' → w'.cell? ⟨B, 1, none⟩ = some (.map (some mt)) ∧ w'.cell? ⟨B, 2, none⟩ = some (.map (some mn)) ∧ w'.cell? ⟨g, 1, none⟩ = some (.string t.s) ∧ (Instr.lookup 59 (.map (some mt)) (.string t.s) false).run Tryz.prog w' = .ok (.int .i64 q) w' ∧ (Instr.lookup 59 (.map (some mn)) (.string t.s) false).run Tryz.prog w' = .ok (.int .i64 p) w' := fun g w' hw =>
    ⟨hw.hb.cells.2.1, hw.hb.cells.2.2.1, (blk_cell hw.bk 1).trans rfl, hq ▸ hw.hb.lookT t.s hsz, hp ▸ hw.hb.lookN t.s hsz⟩
  have KEY0 := Aside0.mk key
  have HSZ : Aside0 (t.s.size ≤ 140737488351232) := ⟨by omega⟩
  have HPQ : Aside0 (p < 1 → -1 ≤ placeS u.ns t.s → placeS u.ns t.s = -1) := ⟨fun _ _ => by omega⟩
  have HPP : Aside0 (placeS u.ns t.s = -1) := ⟨by have := placeS_ge u.ns t.s; omega⟩
  have HL : Aside0 (u.ns.length < 120) := ⟨h2⟩
  have hl2 : ¬ (120 : Int) ≤ (u.ns.length : Int) := by omega
  clear h2
  clear h hsz hq hp key hgB0
  unfold tkV
  go_enter Tryz.func64, Tryz.ntmps64
  go_wp2
  obtain ⟨g, hgg⟩ : ∃ g, w.heap.size = g := ⟨_, rfl⟩
  rw [hgg] at HI HGB
  have KEY := Aside0.mk (KEY0.out g)
  clear KEY0
  refine wp_region_det (vs := [?d12xv0, ?d12xv1, ?d12xv2, ?d12xv3, ?d12xv4, ?d12xv5, ?d12xv6, ?d12xv7]) (fun w' => LIn W1 w b m x rs B mt mn vT vN vS u g t w') rfl (by kernel_rfl) (putAll_put (by simp only [Act.put, List.setIfInBounds_toArray, List.set_cons_zero, List.set_cons_succ]; rfl) (putAll_put (by simp only [Act.put, List.setIfInBounds_toArray, List.set_cons_zero, List.set_cons_succ]; rfl) (putAll_put (by simp only [Act.put, List.setIfInBounds_toArray, List.set_cons_zero, List.set_cons_succ]; rfl) (putAll_put (by simp only [Act.put, List.setIfInBounds_toArray, List.set_cons_zero, List.set_cons_succ]; rfl) (putAll_put (by simp only [Act.put, List.setIfInBounds_toArray, List.set_cons_zero, List.set_cons_succ]; rfl) (putAll_put (by simp only [Act.put, List.setIfInBounds_toArray, List.set_cons_zero, List.set_cons_succ]; rfl) (putAll_put (by simp only [Act.put, List.setIfInBounds_toArray, List.set_cons_zero, List.set_cons_succ]; rfl) (putAll_put (by simp only [Act.put, List.setIfInBounds_toArray, List.set_cons_zero, List.set_cons_succ]; rfl) (putAll_nil _))))))))) (HI.out.drew) ?d12xOps ?d12xFin
  case d12xOps =>
    refine ⟨fun w' hw => ?d12xo0, fun w' hw => ?d12xo1, fun w' hw => ?d12xo2, fun w' hw => ?d12xo3, fun w' hw => ?d12xo4, fun w' hw => ?d12xo5, fun w' hw => ?d12xo6, fun w' hw => ?d12xo7, trivial⟩
    case d12xo0 => obtain ⟨f0, f1, f2, f3, f4⟩ := KEY.out w' hw; go_simp; rfl
    case d12xo1 => obtain ⟨f0, f1, f2, f3, f4⟩ := KEY.out w' hw; go_simp; rfl
    case d12xo2 => obtain ⟨f0, f1, f2, f3, f4⟩ := KEY.out w' hw; go_simp; rfl
    case d12xo3 => obtain ⟨f0, f1, f2, f3, f4⟩ := KEY.out w' hw; go_simp; rfl
    case d12xo4 => obtain ⟨f0, f1, f2, f3, f4⟩ := KEY.out w' hw; go_simp; rfl
    case d12xo5 => obtain ⟨f0, f1, f2, f3, f4⟩ := KEY.out w' hw; go_simp; rfl
    case d12xo6 => obtain ⟨f0, f1, f2, f3, f4⟩ := KEY.out w' hw; go_simp; rfl
    case d12xo7 => obtain ⟨f0, f1, f2, f3, f4⟩ := KEY.out w' hw; go_simp; rfl
  case d12xFin =>
    intro w1 hw1
    have c2 := (blk_cell hw1.bk 2).trans rfl
    have HI1 := Aside0.mk hw1
    clear hw1 HI
    go_wp2
    clear c2
    refine wp_region_det (vs := [?d13xv0, ?d13xv1, ?d13xv2, ?d13xv3, ?d13xv4, ?d13xv5, ?d13xv6, ?d13xv7]) (fun w' => LIn W1 w b m x rs B mt mn vT vN vS u g t w') rfl (by kernel_rfl) (putAll_put (by simp only [Act.put, List.setIfInBounds_toArray, List.set_cons_zero, List.set_cons_succ]; rfl) (putAll_put (by simp only [Act.put, List.setIfInBounds_toArray, List.set_cons_zero, List.set_cons_succ]; rfl) (putAll_put (by simp only [Act.put, List.setIfInBounds_toArray, List.set_cons_zero, List.set_cons_succ]; rfl) (putAll_put (by simp only [Act.put, List.setIfInBounds_toArray, List.set_cons_zero, List.set_cons_succ]; rfl) (putAll_put (by simp only [Act.put, List.setIfInBounds_toArray, List.set_cons_zero, List.set_cons_succ]; rfl) (putAll_put (by simp only [Act.put, List.setIfInBounds_toArray, List.set_cons_zero, List.set_cons_succ]; rfl) (putAll_put (by simp only [Act.put, List.setIfInBounds_toArray, List.set_cons_zero, List.set_cons_succ]; rfl) (putAll_put (by simp only [Act.put, List.setIfInBounds_toArray, List.set_cons_zero, List.set_cons_succ]; rfl) (putAll_nil _))))))))) (HI1.out.drew) ?d13xOps ?d13xFin
    case d13xOps =>
      refine ⟨fun w' hw => ?d13xo0, fun w' hw => ?d13xo1, fun w' hw => ?d13xo2, fun w' hw => ?d13xo3, fun w' hw => ?d13xo4, fun w' hw => ?d13xo5, fun w' hw => ?d13xo6, fun w' hw => ?d13xo7, trivial⟩
      case d13xo0 => obtain ⟨f0, f1, f2, f3, f4⟩ := KEY.out w' hw; go_simp; rfl
      case d13xo1 => obtain ⟨f0, f1, f2, f3, f4⟩ := KEY.out w' hw; go_simp; rfl
      case d13xo2 => obtain ⟨f0, f1, f2, f3, f4⟩ := KEY.out w' hw; go_simp; rfl
      case d13xo3 => obtain ⟨f0, f1, f2, f3, f4⟩ := KEY.out w' hw; go_simp; rfl
      case d13xo4 => obtain ⟨f0, f1, f2, f3, f4⟩ := KEY.out w' hw; go_simp; rfl
      case d13xo5 => obtain ⟨f0, f1, f2, f3, f4⟩ := KEY.out w' hw; go_simp; rfl
      case d13xo6 => obtain ⟨f0, f1, f2, f3, f4⟩ := KEY.out w' hw; go_simp; rfl
      case d13xo7 => obtain ⟨f0, f1, f2, f3, f4⟩ := KEY.out w' hw; go_simp; rfl
    case d13xFin =>
      intro w2 hw2
      have HI2 := Aside0.mk hw2
      clear hw2 HI1
      obtain ⟨Av, cv, ev⟩ := Kd.R_slice HI2.out.hb.ns
      have c2 := (blk_cell HI2.out.bk 2).trans rfl
      have c0 := (blk_cell HI2.out.hb.blk 4).trans rfl
      rw [ev] at c0
      have HB := Aside0.mk HI2.out.hb
      have BK := Aside0.mk HI2.out.bk
      have HF := Aside0.mk HI2.out.fr
      clear HI2
      go_wp2
      clear c0 c2 hl2 ev
      have hgB := HGB.out
      have n1_ := Aside0.mk (HB.out.later (below_drew (Below.refl _ _)))
      have n2_ := Aside0.mk (blk_drew BK.out)
      have n3_ := Aside0.mk (HF.out.trans (Fr.later (below_drew (Below.refl _ _))))
      clear HB BK HF
      have HB := n1_
      have BK := n2_
      have HF := n3_
      clear n1_ n2_ n3_
      refine start_ (n := 14) (S := fun w' => w'.cell? ⟨B, 4, none⟩ = some vN ∧ w'.cell? ⟨g, 1, none⟩ = some (.string t.s)) (ds := [13]) #[false, false, false, false, false, false, false, false, false, false, false, false, false, false] (by kernel_rfl) rfl rfl ⟨HB.out.cells.2.2.2.2.1, (blk_cell BK.out 1).trans rfl⟩ (fun hHeld => ?_)
      refine with_tabW blaTab blaBits (fun HT_ HW_ => ?_)
      generalize World.drew _ = w5 at HB BK HF hHeld ⊢
      refine pure_ (i := 0) (N := (some 42)) (v := ?_) (a' := ?_) #[true, false, false, false, false, false, false, false, false, false, false, false, false, false] rfl rfl (any_of HT_.out (by kernel_rfl)) (fun _ _ _ h => h) (Or.inl ⟨by rfl, ?_⟩) ?_ ?_
      rotate_left
      · intro w'
        go_simp
        with_reducible rfl
      rotate_left
      · simp only [Act.put, List.setIfInBounds_toArray, List.set_cons_zero, List.set_cons_succ, i64_w, i32_w]
        rfl
      refine pure_ (i := 1) (N := (some 43)) (v := ?_) (a' := ?_) #[true, true, false, false, false, false, false, false, false, false, false, false, false, false] rfl rfl (any_of HT_.out (by kernel_rfl)) (fun _ _ _ h => h) (Or.inl ⟨by rfl, ?_⟩) ?_ ?_
      rotate_left
      · intro w'
        go_simp
        with_reducible rfl
      rotate_left
      · simp only [Act.put, List.setIfInBounds_toArray, List.set_cons_zero, List.set_cons_succ, i64_w, i32_w]
        rfl
      refine pure_ (i := 2) (N := (some 44)) (v := ?_) (a' := ?_) #[true, true, true, false, false, false, false, false, false, false, false, false, false, false] rfl rfl (any_of HT_.out (by kernel_rfl)) (fun _ _ _ h => h) (Or.inl ⟨by rfl, ?_⟩) ?_ ?_
      rotate_left
      · intro w'
        go_simp
        with_reducible rfl
      rotate_left
      · simp only [Act.put, List.setIfInBounds_toArray, List.set_cons_zero, List.set_cons_succ, i64_w, i32_w]
        rfl
      refine pure_ (i := 3) (N := (some 45)) (v := ?_) (a' := ?_) #[true, true, true, true, false, false, false, false, false, false, false, false, false, false] rfl rfl (any_of HT_.out (by kernel_rfl)) (fun _ _ _ h => h) (Or.inl ⟨by rfl, ?_⟩) ?_ ?_
      rotate_left
      · intro w'
        go_simp
        with_reducible rfl
      rotate_left
      · simp only [Act.put, List.setIfInBounds_toArray, List.set_cons_zero, List.set_cons_succ, i64_w, i32_w]
        rfl
      refine pure_ (i := 4) (N := (some 46)) (v := ?_) (a' := ?_) #[true, true, true, true, true, false, false, false, false, false, false, false, false, false] rfl rfl (any_of HT_.out (by kernel_rfl)) (fun _ _ _ h => h) (Or.inl ⟨by rfl, ?_⟩) ?_ ?_
      rotate_left
      · intro w'
        go_simp
        with_reducible rfl
      rotate_left
      · simp only [Act.put, List.setIfInBounds_toArray, List.set_cons_zero, List.set_cons_succ, i64_w, i32_w]
        rfl
      refine take_ (i := 5) (N := (some 47)) (v := ?_) (a' := ?_) #[true, true, true, true, true, true, false, false, false, false, false, false, false, false] rfl rfl (take_ofW HT_.out HW_.out (by kernel_rfl)) (fun _ _ _ h => h) (Or.inl ⟨by rfl, ?_⟩) hHeld ?_ ?_
      rotate_left
      · rintro w' ⟨s0, s1⟩
        go_simp
        with_reducible rfl
      rotate_left
      · simp only [Act.put, List.setIfInBounds_toArray, List.set_cons_zero, List.set_cons_succ, i64_w, i32_w]
        rfl
      refine pure_ (i := 6) (N := (some 48)) (v := ?_) (a' := ?_) #[true, true, true, true, true, true, true, false, false, false, false, false, false, false] rfl rfl (any_of HT_.out (by kernel_rfl)) (fun _ _ _ h => h) (Or.inl ⟨by rfl, ?_⟩) ?_ ?_
      rotate_left
      · intro w'
        go_simp
        with_reducible rfl
      rotate_left
      · simp only [Act.put, List.setIfInBounds_toArray, List.set_cons_zero, List.set_cons_succ, i64_w, i32_w]
        rfl
      refine take_ (i := 7) (N := (some 49)) (v := ?_) (a' := ?_) #[true, true, true, true, true, true, true, true, false, false, false, false, false, false] rfl rfl (take_ofW HT_.out HW_.out (by kernel_rfl)) (fun _ _ _ h => h) (Or.inl ⟨by rfl, ?_⟩) hHeld ?_ ?_
      rotate_left
      · rintro w' ⟨s0, s1⟩
        go_simp
        with_reducible rfl
      rotate_left
      · simp only [Act.put, List.setIfInBounds_toArray, List.set_cons_zero, List.set_cons_succ, i64_w, i32_w]
        rfl
      refine one_ (i := 8) (N := (some 50)) #[true, true, true, true, true, true, true, true, true, false, false, false, false, false] rfl rfl (one_of HT_.out (by kernel_rfl)) (by decide) (fun K hK => ?_)
      refine Kd.R_lit_step Kd.string (w0 := w5) w5.heap.size 9 ?hg (N := 50) ?hd (xs := [t.s]) (inner := [.string t.s]) (ok := fun _ => True) (okp := fun _ => True) ?hr ?hp (fun _ hk => hk) trivial (Below.refl _ _) (Nat.le_refl _) (by simp) ?_; (case hd => rfl); (case hg => rfl); (case hr => first | (go_simp; done) | (go_simp; rfl)); (case hp => exact (Reps.snoc (Reps.none _ _) rfl rfl))
      intro vL w7 ho hb hg hnew
      obtain ⟨A8, c8, e8, l8, C8⟩ := Kd.R_reads ho
      subst e8
      have HX := Aside0.mk C8
      have hgn := grown_none hg
      have n1_ := Aside0.mk (HB.out.later hgn)
      have n2_ := Aside0.mk (blk_below BK.out hgn)
      have n3_ := Aside0.mk (HF.out.trans (Fr.later hgn))
      clear HB BK HF ho hb hg hnew C8 l8 hgn
      have HB := n1_
      have BK := n2_
      have HF := n3_
      clear n1_ n2_ n3_
      refine hK.out _ _ ⟨HB.out.cells.2.2.2.2.1, (blk_cell BK.out 1).trans rfl⟩ (fun hHeld => ?_)
      clear hK K
      refine norm_ (a' := ?_) ?_ ?_
      rotate_left
      · show Act.put _ (some 50) _ = _
        simp only [Act.put, List.setIfInBounds_toArray, List.set_cons_zero, List.set_cons_succ, i64_w, i32_w]
        rfl
      refine one_ (i := 9) (N := (some 51)) #[true, true, true, true, true, true, true, true, true, true, false, false, false, false] rfl rfl (one_of HT_.out (by kernel_rfl)) (by decide) (fun K hK => ?_)
      refine Kd.R_append_rows_step Kd.string (w0 := w7) W1.heap.size (by rfl) (.tmp 47) (.tmp 50) 22 9 (.string ⟨#[]⟩) 16 rfl Tryz.underlying22 info9 rfl (by decide) (by omega) vN u.ns [t.s] _ _ _ (fun k => some k ≠ vT.ownBlock) (fun _ => False) rfl rfl HB.out.ns HX.out (fun _ _ h => h) (fun _ h => h.elim) (fun k hk he => by have := Kd.R_lt HB.out.ts k he.symm; omega) (Below.refl _ _) HB.out.below.size ?aL ?_
      case aL => have := HL.out; simp only [List.length_cons, List.length_nil]; omega
      intro vX w8 ho hb hg hat
      have n1_ := Aside0.mk (HB.out.putN ho hg hat)
      have n2_ := Aside0.mk (blk_grown BK.out hg (Kd.R_ne HB.out.ns BK.out (by decide)))
      have HF2 : Aside0 (∀ i v1, Fr B mn vN vX w (w8.setCell ⟨B, i, none⟩ v1)) := ⟨fun i v1 => HF.out.put hg hat⟩
      have HSL := Aside0.mk (Kd.R_slice ho)
      clear HB BK HF HX ho hb hg hat
      have HP := n1_
      have BK := n2_
      clear n1_ n2_
      refine hK.out _ _ ⟨(blk_cell HP.out.1 4).trans rfl, (blk_cell BK.out 1).trans rfl⟩ (fun hHeld => ?_)
      clear hK K
      refine norm_ (a' := ?_) ?_ ?_
      rotate_left
      · show Act.put _ (some 51) _ = _
        simp only [Act.put, List.setIfInBounds_toArray, List.set_cons_zero, List.set_cons_succ, i64_w, i32_w]
        rfl
      refine pure_ (i := 10) (N := (some 52)) (v := ?_) (a' := ?_) #[true, true, true, true, true, true, true, true, true, true, true, false, false, false] rfl rfl (any_of HT_.out (by kernel_rfl)) (fun _ _ _ h => h) (Or.inl ⟨by rfl, ?_⟩) ?_ ?_
      rotate_left
      · intro w'
        go_simp
        with_reducible rfl
      rotate_left
      · simp only [Act.put, List.setIfInBounds_toArray, List.set_cons_zero, List.set_cons_succ, i64_w, i32_w]
        rfl
      refine pure_ (i := 11) (N := (some 53)) (v := ?_) (a' := ?_) #[true, true, true, true, true, true, true, true, true, true, true, true, false, false] rfl rfl (any_of HT_.out (by kernel_rfl)) (fun _ _ _ h => h) (Or.inl ⟨by rfl, ?_⟩) ?_ ?_
      rotate_left
      · intro w'
        go_simp
        with_reducible rfl
      rotate_left
      · simp only [Act.put, List.setIfInBounds_toArray, List.set_cons_zero, List.set_cons_succ, i64_w, i32_w]
        rfl
      refine pure_ (i := 12) (N := (some 54)) (v := ?_) (a' := ?_) #[true, true, true, true, true, true, true, true, true, true, true, true, true, false] rfl rfl (any_of HT_.out (by kernel_rfl)) (fun _ _ _ h => h) (Or.inl ⟨by rfl, ?_⟩) ?_ ?_
      rotate_left
      · intro w'
        go_simp
        with_reducible rfl
      rotate_left
      · simp only [Act.put, List.setIfInBounds_toArray, List.set_cons_zero, List.set_cons_succ, i64_w, i32_w]
        rfl
      refine last_ (i := 13) (N := none) #[true, true, true, true, true, true, true, true, true, true, true, true, true, true] rfl rfl (one_of HT_.out (by kernel_rfl)) (by decide) (fun K hK => ?_)
      have f0 := (blk_cell HP.out.1 4).trans rfl
      have f1 := blk_frozen HP.out.1 4
      refine skip_ (by rfl) rfl (w1 := w8.setCell ⟨B, 4, none⟩ vX) ?hrun ?_; (case hrun => obtain ⟨An, cn, en⟩ : ∃ An cn, vX = .slice An (u.ns ++ [t.s]).length cn := HSL.out; subst en; first | (go_simp; done) | (go_simp; rfl))
      have HB := Aside0.mk HP.out.2
      have HF := Aside0.mk (HF2.out 4 vX)
      have n1_ := Aside0.mk (blk_far (p := ⟨B, 4, none⟩) BK.out hgB vX)
      clear f0 f1 HP HF2 BK
      have BK := n1_
      clear n1_
      refine hK.out _ _ ?_
      clear hK K
      refine done_ (done_of HT_.out (by kernel_rfl)) ?_
      go_wp2
      have n1_ := Aside0.mk (HB.out.later (below_drew (Below.refl _ _)))
      have n2_ := Aside0.mk (blk_drew BK.out)
      have n3_ := Aside0.mk (HF.out.trans (v1 := vX) (v2 := vX) (Fr.later (below_drew (Below.refl _ _))))
      clear HB BK HF
      have HB := n1_
      have BK := n2_
      have HF := n3_
      clear n1_ n2_ n3_
      obtain ⟨An, cn, en⟩ : ∃ An cn, vX = .slice An (u.ns ++ [t.s]).length cn := HSL.out
      clear HSL
      obtain ⟨N, hN⟩ : ∃ N, (u.ns ++ [t.s]).length = N := ⟨_, rfl⟩
      have hN2 : N = u.ns.length + 1 := by rw [← hN, List.length_append]; rfl
      have HNW : Aside0 ((Lit.int .i64 (N : Int)).wf = true) := ⟨by
        have e1 : IntKind.i64.min = -9223372036854775808 := rfl
        have e2 : IntKind.i64.max = 9223372036854775807 := rfl
        have := HL.out
        simp [Lit.wf, e1, e2]
        omega⟩
      have HPL : Aside0 (∀ ff : ByteArray → Option Int, (∀ s, (ff s).getD 0 = placeS u.ns s + 1) → ∀ s, ((fun u => if u = t.s then some (N : Int) else ff u) s).getD 0 = placeS (u.ns ++ [t.s]) s + 1) := ⟨fun ff hff s => by
        rw [place_snoc _ _ _ HPP.out]
        by_cases e : s = t.s
        · simp only [if_pos e, Option.getD_some, hN2]
        · simp only [if_neg e]
          exact hff s⟩
      rw [hN] at en
      have HEN := Aside0.mk en
      clear hN2 en
      refine start_ (n := 13) (S := fun w' => w'.cell? ⟨B, 2, none⟩ = some (.map (some mn)) ∧ w'.cell? ⟨g, 1, none⟩ = some (.string t.s) ∧ w'.cell? ⟨B, 4, none⟩ = some (.slice An N cn)) (ds := [12]) #[false, false, false, false, false, false, false, false, false, false, false, false, false] (by kernel_rfl) rfl rfl ⟨HB.out.cells.2.2.1, (blk_cell BK.out 1).trans rfl, (HB.out.cells.2.2.2.2.1).trans (congrArg some HEN.out)⟩ (fun hHeld => ?_)
      refine with_tabW blmTab blmBits (fun HT_ HW_ => ?_)
      generalize World.drew _ = w5 at HB BK HF hHeld ⊢
      refine pure_ (i := 0) (N := (some 55)) (v := ?_) (a' := ?_) #[true, false, false, false, false, false, false, false, false, false, false, false, false] rfl rfl (any_of HT_.out (by kernel_rfl)) (fun _ _ _ h => h) (Or.inl ⟨by rfl, ?_⟩) ?_ ?_
      rotate_left
      · intro w'
        go_simp
        with_reducible rfl
      rotate_left
      · simp only [Act.put, List.setIfInBounds_toArray, List.set_cons_zero, List.set_cons_succ, i64_w, i32_w]
        rfl
      refine pure_ (i := 1) (N := (some 56)) (v := ?_) (a' := ?_) #[true, true, false, false, false, false, false, false, false, false, false, false, false] rfl rfl (any_of HT_.out (by kernel_rfl)) (fun _ _ _ h => h) (Or.inl ⟨by rfl, ?_⟩) ?_ ?_
      rotate_left
      · intro w'
        go_simp
        with_reducible rfl
      rotate_left
      · simp only [Act.put, List.setIfInBounds_toArray, List.set_cons_zero, List.set_cons_succ, i64_w, i32_w]
        rfl
      refine pure_ (i := 2) (N := (some 57)) (v := ?_) (a' := ?_) #[true, true, true, false, false, false, false, false, false, false, false, false, false] rfl rfl (any_of HT_.out (by kernel_rfl)) (fun _ _ _ h => h) (Or.inl ⟨by rfl, ?_⟩) ?_ ?_
      rotate_left
      · intro w'
        go_simp
        with_reducible rfl
      rotate_left
      · simp only [Act.put, List.setIfInBounds_toArray, List.set_cons_zero, List.set_cons_succ, i64_w, i32_w]
        rfl
      refine take_ (i := 3) (N := (some 58)) (v := ?_) (a' := ?_) #[true, true, true, true, false, false, false, false, false, false, false, false, false] rfl rfl (take_ofW HT_.out HW_.out (by kernel_rfl)) (fun _ _ _ h => h) (Or.inl ⟨by rfl, ?_⟩) hHeld ?_ ?_
      rotate_left
      · rintro w' ⟨s0, s1, s2⟩
        go_simp
        with_reducible rfl
      rotate_left
      · simp only [Act.put, List.setIfInBounds_toArray, List.set_cons_zero, List.set_cons_succ, i64_w, i32_w]
        rfl
      refine pure_ (i := 4) (N := (some 59)) (v := ?_) (a' := ?_) #[true, true, true, true, true, false, false, false, false, false, false, false, false] rfl rfl (any_of HT_.out (by kernel_rfl)) (fun _ _ _ h => h) (Or.inl ⟨by rfl, ?_⟩) ?_ ?_
      rotate_left
      · intro w'
        go_simp
        with_reducible rfl
      rotate_left
      · simp only [Act.put, List.setIfInBounds_toArray, List.set_cons_zero, List.set_cons_succ, i64_w, i32_w]
        rfl
      refine take_ (i := 5) (N := (some 60)) (v := ?_) (a' := ?_) #[true, true, true, true, true, true, false, false, false, false, false, false, false] rfl rfl (take_ofW HT_.out HW_.out (by kernel_rfl)) (fun _ _ _ h => h) (Or.inl ⟨by rfl, ?_⟩) hHeld ?_ ?_
      rotate_left
      · rintro w' ⟨s0, s1, s2⟩
        go_simp
        with_reducible rfl
      rotate_left
      · simp only [Act.put, List.setIfInBounds_toArray, List.set_cons_zero, List.set_cons_succ, i64_w, i32_w]
        rfl
      refine pure_ (i := 6) (N := (some 61)) (v := ?_) (a' := ?_) #[true, true, true, true, true, true, true, false, false, false, false, false, false] rfl rfl (any_of HT_.out (by kernel_rfl)) (fun _ _ _ h => h) (Or.inl ⟨by rfl, ?_⟩) ?_ ?_
      rotate_left
      · intro w'
        go_simp
        with_reducible rfl
      rotate_left
      · simp only [Act.put, List.setIfInBounds_toArray, List.set_cons_zero, List.set_cons_succ, i64_w, i32_w]
        rfl
      refine pure_ (i := 7) (N := (some 62)) (v := ?_) (a' := ?_) #[true, true, true, true, true, true, true, true, false, false, false, false, false] rfl rfl (any_of HT_.out (by kernel_rfl)) (fun _ _ _ h => h) (Or.inl ⟨by rfl, ?_⟩) ?_ ?_
      rotate_left
      · intro w'
        go_simp
        with_reducible rfl
      rotate_left
      · simp only [Act.put, List.setIfInBounds_toArray, List.set_cons_zero, List.set_cons_succ, i64_w, i32_w]
        rfl
      refine pure_ (i := 8) (N := (some 63)) (v := ?_) (a' := ?_) #[true, true, true, true, true, true, true, true, true, false, false, false, false] rfl rfl (any_of HT_.out (by kernel_rfl)) (fun _ _ _ h => h) (Or.inl ⟨by rfl, ?_⟩) ?_ ?_
      rotate_left
      · intro w'
        go_simp
        with_reducible rfl
      rotate_left
      · simp only [Act.put, List.setIfInBounds_toArray, List.set_cons_zero, List.set_cons_succ, i64_w, i32_w]
        rfl
      refine pure_ (i := 9) (N := (some 64)) (v := ?_) (a' := ?_) #[true, true, true, true, true, true, true, true, true, true, false, false, false] rfl rfl (any_of HT_.out (by kernel_rfl)) (fun _ _ _ h => h) (Or.inl ⟨by rfl, ?_⟩) ?_ ?_
      rotate_left
      · intro w'
        go_simp
        with_reducible rfl
      rotate_left
      · simp only [Act.put, List.setIfInBounds_toArray, List.set_cons_zero, List.set_cons_succ, i64_w, i32_w]
        rfl
      refine take_ (i := 10) (N := (some 65)) (v := ?_) (a' := ?_) #[true, true, true, true, true, true, true, true, true, true, true, false, false] rfl rfl (take_ofW HT_.out HW_.out (by kernel_rfl)) (fun _ _ _ h => h) (Or.inl ⟨by rfl, ?_⟩) hHeld ?_ ?_
      rotate_left
      · rintro w' ⟨s0, s1, s2⟩
        go_simp
        with_reducible rfl
      rotate_left
      · simp only [Act.put, List.setIfInBounds_toArray, List.set_cons_zero, List.set_cons_succ, i64_w, i32_w]
        rfl
      refine pure_ (i := 11) (N := (some 66)) (v := ?_) (a' := ?_) #[true, true, true, true, true, true, true, true, true, true, true, true, false] rfl rfl (any_of HT_.out (by kernel_rfl)) (fun _ _ _ h => h) (Or.inl ⟨by rfl, ?_⟩) ?_ ?_
      rotate_left
      · intro w'
        go_simp
        with_reducible rfl
      rotate_left
      · simp only [Act.put, List.setIfInBounds_toArray, List.set_cons_zero, List.set_cons_succ, i64_w, i32_w]
        rfl
      refine last_ (i := 12) (N := none) #[true, true, true, true, true, true, true, true, true, true, true, true, true] rfl rfl (one_of HT_.out (by kernel_rfl)) (by decide) (fun K hK => ?_)
      obtain ⟨nn, ff, cc, hmp, hff, hnn⟩ := HB.out.mn_
      obtain ⟨w6, hrun_, hm6, hg6⟩ := msi_upd hmp (by have := HL.out; omega) t.s HSZ.out (N : Int) HNW.out 59 Tryz.underlying59
      refine skip_ (by rfl) rfl (w1 := w6) ?hrun ?_; (case hrun => first | (go_simp; done) | (go_simp; rfl))
      have n1_ := Aside0.mk (HB.out.mapN hm6 (HPL.out ff hff) (nm' := u.ns ++ [t.s]) (by rw [List.length_append]; exact Nat.succ_le_succ hnn) hg6)
      have n3_ := Aside0.mk (HF.out.map hg6)
      clear HB HF BK hmp hff hnn hm6 hg6 hrun_
      have HB := n1_
      have HF := n3_
      clear n1_ n3_
      refine hK.out _ _ ?_
      clear hK K
      refine done_ (done_of HT_.out (by kernel_rfl)) ?_
      go_wp2
      (first | go_end0 | refine bodyPost_ret (results_none rfl _ _ _) rfl ?_)
      rw [HR.out]
      exact ⟨rfl, _, HB.out, HF.out⟩
theorem b_left {W1 w : World} {b m : Nat} {x : Hd} {rs : List Ru} {B mt mn : Nat} {vT vN vS : Value} {u : Bu} (h : BS W1 w b m x rs B mt mn vT vN vS u u.ts u.ns) (t : Tk) (hsz : t.s.size ≤ 10000) (d : Nat) (hu : u.ns.length ≤ 100000) :
    Calls Tryz.prog 64 #[.pointer (some ⟨B, 0, none⟩), tkV t, .int .i64 d] w (LeftEnd W1 w b m x rs B mt mn vT vN vS u (leftB t d u.ts u.ns)) := by
  obtain ⟨q, hq⟩ : ∃ q, placeS u.ts t.s + 1 = q := ⟨_, rfl⟩
  obtain ⟨p, hp⟩ : ∃ p, placeS u.ns t.s + 1 = p := ⟨_, rfl⟩
  by_cases h0 : 0 < q
  · by_cases h00 : q ≤ (d : Int)
    · exact b_left_dup h t hsz d hq hp h0 h00
    · by_cases h1 : 0 < p
      · exact b_left_old1 h t hsz d hq hp h0 h00 h1
      · by_cases h2 : 120 ≤ u.ns.length
        · exact b_left_full1 h t hsz d hq hp h0 h00 h1 h2 hu
        · exact b_left_new1 h t hsz d hq hp h0 h00 h1 (by omega)
  · by_cases h1 : 0 < p
    · exact b_left_old0 h t hsz d hq hp h0 h1
    · by_cases h2 : 120 ≤ u.ns.length
      · exact b_left_full0 h t hsz d hq hp h0 h1 h2 hu
      · exact b_left_new0 h t hsz d hq hp h0 h1 (by omega)
end Go.Proofs.YtliofoikejdjeaaGreat
/- gread's builder: the start symbol, the second mark. -/
namespace Go.Proofs.YtliofoikejdjeaaGreat
open Go.RowKit Go.Proofs.YtliofoikejdjeaaGreatW.PrintWords
set_option linter.unusedVariables false
set_option linter.unusedSimpArgs false
theorem at_tok {w : World} {A : Option Addr} {n : Nat} {xs : List Tk} (h : Kd.C kTk w A n xs) (i : Nat) (h1 : i < n) : ∃ ad, A = some ad ∧ w.cell? (ad.add (i * 3)) = some (.int .i64 (xs.getD i default).k) ∧ w.cell? ⟨(ad.add (i * 3)).block, (ad.add (i * 3)).off + 1, none⟩ = some (.string (xs.getD i default).s) ∧ w.cell? ⟨(ad.add (i * 3)).block, (ad.add (i * 3)).off + 2, none⟩ = some (.int .i64 (xs.getD i default).at_) := by
  obtain ⟨ad, c, e, _, hK, hc0⟩ := Kd.C_get h (default : Tk) (i : Int) (by omega) (by omega)
  have hc : ∀ j u, c[j]? = some u → w.cell? (ad.add (i * 3 + j)) = some u := hc0
  have e2 := kTk_open (by simpa using hK)
  subst e2
  exact ⟨ad, e, hc 0 _ rfl, by rw [← add_field _ _ 1 (by omega)]; exact hc 1 _ rfl, by rw [← add_field _ _ 2 (by omega)]; exact hc 2 _ rfl⟩
def StartEnd (w : World) (R : Except Ft Unit) (e : Ending) (w' : World) : Prop :=
  match R with
  | .error f => Panics f e ∧ Below w.heap.size w w'
  | .ok _ => e = .returned (.tuple #[]) ∧ Below w.heap.size w w'
section
variable {W1 w : World} {b m : Nat} {x : Hd} {rs : List Ru} {B mt mn : Nat} {vT vN vS : Value} {u : Bu} {tm nm : List ByteArray}
theorem BS.reads (h : BS W1 w b m x rs B mt mn vT vN vS u tm nm) : ∃ A1 c1 A2 c2 A3 c3 A4 c4, (∀ w', Below w.heap.size w w' → w'.cell? ⟨B, 0, none⟩ = some (.pointer (some ⟨b, 0, none⟩)) ∧ w'.cell? ⟨b, 1, none⟩ = some (.slice A1 x.declared.length c1) ∧ w'.cell? ⟨b, 2, none⟩ = some (.slice A2 x.marks.length c2) ∧ w'.cell? ⟨b, 3, none⟩ = some (.slice A3 x.starts.length c3) ∧ w'.cell? ⟨b, 4, none⟩ = some (.slice A4 rs.length c4) ∧ w'.cell? ⟨b, 5, none⟩ = some (.map (some m))) ∧ Kd.C kTk W1 A1 x.declared.length x.declared ∧ Kd.C (Kd.int .i64) W1 A2 x.marks.length x.marks ∧ Kd.C kTk W1 A3 x.starts.length x.starts ∧ Kd.C kRu W1 A4 rs.length rs := by
  obtain ⟨v0, A1, c1, A2, c2, A3, c3, A4, c4, hk, h1, h2, h3, h4⟩ := h.rd.cells
  refine ⟨A1, c1, A2, c2, A3, c3, A4, c4, fun w' hw => ?_, h1, h2, h3, h4⟩
  have hk2 := blk_below (blk_below hk h.below) hw
  exact ⟨(h.later hw).cells.1, (blk_cell hk2 1).trans rfl, (blk_cell hk2 2).trans rfl, (blk_cell hk2 3).trans rfl, (blk_cell hk2 4).trans rfl, (blk_cell hk2 5).trans rfl⟩
set_option maxHeartbeats 4000000 in
set_option maxRecDepth 100000 in
theorem b_start_no (h : BS W1 w b m x rs B mt mn vT vN vS u tm nm) {z : Tk} {r : List Tk} (hst : x.starts = z :: r) (hsz : z.s.size ≤ 10000) (hn : leftsN rs z.s = 0) :
    Calls Tryz.prog 121 #[.pointer (some ⟨B, 0, none⟩)] w (StartEnd w (startB rs x)) := by
  have HR : Aside0 (startB rs x = .error (9, z.at_)) := ⟨by unfold startB; rw [hst]; exact if_pos hn⟩
  obtain ⟨A1, c1, A2, c2, A3, c3, A4, c4, hr, _, _, hC, _⟩ := h.reads
  rw [hst] at hC
  rw [hst] at hr
  obtain ⟨n, hnn⟩ : ∃ n, (z :: r).length = n := ⟨_, rfl⟩
  have hn0 : 0 < n := by rw [← hnn]; simp
  have hpn : 0 < (n : Int) := by omega
  obtain ⟨ad, rfl⟩ : ∃ ad, A3 = some ad := by
    obtain ⟨ad, e, _⟩ := at_tok hC 0 (by simp)
    exact ⟨ad, e⟩
  have key : ∀ w', Below w.heap.size w w' → w'.cell? ⟨B, 0, none⟩ = some (.pointer (some ⟨b, 0, none⟩)) ∧ w'.cell? ⟨b, 3, none⟩ = some (.slice (some ad) n c3) ∧ w'.cell? ⟨b, 5, none⟩ = some (.map (some m)) ∧ w'.cell? ⟨ad.block, ad.off + 1, none⟩ = some (.string z.s) ∧ w'.cell? ⟨ad.block, ad.off + 2, none⟩ = some (.int .i64 z.at_) ∧ (Instr.lookup 59 (.map (some m)) (.string z.s) false).run Tryz.prog w' = .ok (.int .i64 0) w' := fun w' hw => by
    obtain ⟨k0, k1, k2, k3, k4, k5⟩ := hr w' hw
    obtain ⟨t0, t1, t2⟩ := tok_at (Kd.C_below (Kd.C_below hC h.below) hw)
    have hl := (h.later hw).lookL z.s hsz
    rw [hn] at hl
    rw [hnn] at k3
    exact ⟨k0, k3, k5, t1, t2, hl⟩
  have KEY := Aside0.mk key
  clear h hst hsz hn hr hC hnn key
  go_enter Tryz.func121, Tryz.ntmps121
  go_wp2
  refine wp_region_det (vs := [?d1xv0, ?d1xv1, ?d1xv2, ?d1xv3, ?d1xv4, ?d1xv5, ?d1xv6, ?d1xv7, ?d1xv8, ?d1xv9, ?d1xv10, ?d1xv11, ?d1xv12, ?d1xv13, ?d1xv14, ?d1xv15, ?d1xv16, ?d1xv17, ?d1xv18]) (fun w' => Below w.heap.size w w') rfl (by kernel_rfl) (putAll_put (by simp only [Act.put, List.setIfInBounds_toArray, List.set_cons_zero, List.set_cons_succ]; rfl) (putAll_put (by simp only [Act.put, List.setIfInBounds_toArray, List.set_cons_zero, List.set_cons_succ]; rfl) (putAll_put (by simp only [Act.put, List.setIfInBounds_toArray, List.set_cons_zero, List.set_cons_succ]; rfl) (putAll_put (by simp only [Act.put, List.setIfInBounds_toArray, List.set_cons_zero, List.set_cons_succ]; rfl) (putAll_put (by simp only [Act.put, List.setIfInBounds_toArray, List.set_cons_zero, List.set_cons_succ]; rfl) (putAll_put (by simp only [Act.put, List.setIfInBounds_toArray, List.set_cons_zero, List.set_cons_succ]; rfl) (putAll_put (by simp only [Act.put, List.setIfInBounds_toArray, List.set_cons_zero, List.set_cons_succ]; rfl) (putAll_put (by simp only [Act.put, List.setIfInBounds_toArray, List.set_cons_zero, List.set_cons_succ]; rfl) (putAll_put (by simp only [Act.put, List.setIfInBounds_toArray, List.set_cons_zero, List.set_cons_succ]; rfl) (putAll_put (by simp only [Act.put, List.setIfInBounds_toArray, List.set_cons_zero, List.set_cons_succ]; rfl) (putAll_put (by simp only [Act.put, List.setIfInBounds_toArray, List.set_cons_zero, List.set_cons_succ]; rfl) (putAll_put (by simp only [Act.put, List.setIfInBounds_toArray, List.set_cons_zero, List.set_cons_succ]; rfl) (putAll_put (by simp only [Act.put, List.setIfInBounds_toArray, List.set_cons_zero, List.set_cons_succ]; rfl) (putAll_put (by simp only [Act.put, List.setIfInBounds_toArray, List.set_cons_zero, List.set_cons_succ]; rfl) (putAll_put (by simp only [Act.put, List.setIfInBounds_toArray, List.set_cons_zero, List.set_cons_succ]; rfl) (putAll_put (by simp only [Act.put, List.setIfInBounds_toArray, List.set_cons_zero, List.set_cons_succ]; rfl) (putAll_put (by simp only [Act.put, List.setIfInBounds_toArray, List.set_cons_zero, List.set_cons_succ]; rfl) (putAll_put (by simp only [Act.put, List.setIfInBounds_toArray, List.set_cons_zero, List.set_cons_succ]; rfl) (putAll_put (by simp only [Act.put, List.setIfInBounds_toArray, List.set_cons_zero, List.set_cons_succ]; rfl) (putAll_nil _)))))))))))))))))))) (below_drew (Below.refl _ _)) ?d1xOps ?d1xFin
  case d1xOps =>
    refine ⟨fun w' hw => ?d1xo0, fun w' hw => ?d1xo1, fun w' hw => ?d1xo2, fun w' hw => ?d1xo3, fun w' hw => ?d1xo4, fun w' hw => ?d1xo5, fun w' hw => ?d1xo6, fun w' hw => ?d1xo7, fun w' hw => ?d1xo8, fun w' hw => ?d1xo9, fun w' hw => ?d1xo10, fun w' hw => ?d1xo11, fun w' hw => ?d1xo12, fun w' hw => ?d1xo13, fun w' hw => ?d1xo14, fun w' hw => ?d1xo15, fun w' hw => ?d1xo16, fun w' hw => ?d1xo17, fun w' hw => ?d1xo18, trivial⟩
    case d1xo0 => obtain ⟨f0, f1, f2, f3, f4, f5⟩ := KEY.out w' hw; go_simp; rfl
    case d1xo1 => obtain ⟨f0, f1, f2, f3, f4, f5⟩ := KEY.out w' hw; go_simp; rfl
    case d1xo2 => obtain ⟨f0, f1, f2, f3, f4, f5⟩ := KEY.out w' hw; go_simp; rfl
    case d1xo3 => obtain ⟨f0, f1, f2, f3, f4, f5⟩ := KEY.out w' hw; go_simp; rfl
    case d1xo4 => obtain ⟨f0, f1, f2, f3, f4, f5⟩ := KEY.out w' hw; go_simp; rfl
    case d1xo5 => obtain ⟨f0, f1, f2, f3, f4, f5⟩ := KEY.out w' hw; go_simp; rfl
    case d1xo6 => obtain ⟨f0, f1, f2, f3, f4, f5⟩ := KEY.out w' hw; go_simp; rfl
    case d1xo7 => obtain ⟨f0, f1, f2, f3, f4, f5⟩ := KEY.out w' hw; go_simp; rfl
    case d1xo8 => obtain ⟨f0, f1, f2, f3, f4, f5⟩ := KEY.out w' hw; go_simp; rfl
    case d1xo9 => obtain ⟨f0, f1, f2, f3, f4, f5⟩ := KEY.out w' hw; go_simp; rfl
    case d1xo10 => obtain ⟨f0, f1, f2, f3, f4, f5⟩ := KEY.out w' hw; go_simp; rfl
    case d1xo11 => obtain ⟨f0, f1, f2, f3, f4, f5⟩ := KEY.out w' hw; go_simp; rfl
    case d1xo12 => obtain ⟨f0, f1, f2, f3, f4, f5⟩ := KEY.out w' hw; go_simp; rfl
    case d1xo13 => obtain ⟨f0, f1, f2, f3, f4, f5⟩ := KEY.out w' hw; go_simp; rfl
    case d1xo14 => obtain ⟨f0, f1, f2, f3, f4, f5⟩ := KEY.out w' hw; go_simp; rfl
    case d1xo15 => obtain ⟨f0, f1, f2, f3, f4, f5⟩ := KEY.out w' hw; go_simp; rfl
    case d1xo16 => obtain ⟨f0, f1, f2, f3, f4, f5⟩ := KEY.out w' hw; go_simp; rfl
    case d1xo17 => obtain ⟨f0, f1, f2, f3, f4, f5⟩ := KEY.out w' hw; go_simp; rfl
    case d1xo18 => obtain ⟨f0, f1, f2, f3, f4, f5⟩ := KEY.out w' hw; go_simp; rfl
  case d1xFin =>
    intro w1 hw1
    obtain ⟨f0, f1, f2, f3, f4, f5⟩ := KEY.out w1 hw1
    have HW := Aside0.mk hw1
    clear hw1
    go_wp2_with (go_at_call 99; ((with_reducible refine (gread_fail _ _ _).mono ?_); rintro e w' ⟨⟨older, rfl, ho⟩, rfl⟩))
    refine ⟨rfl, ?_⟩
    rw [HR.out]
    exact ⟨⟨older, rfl, ho⟩, HW.out⟩
set_option maxHeartbeats 4000000 in
set_option maxRecDepth 100000 in
theorem b_start_ok (h : BS W1 w b m x rs B mt mn vT vN vS u tm nm) {z : Tk} {r : List Tk} (hst : x.starts = z :: r) (hsz : z.s.size ≤ 10000) (hn : leftsN rs z.s ≠ 0) :
    Calls Tryz.prog 121 #[.pointer (some ⟨B, 0, none⟩)] w (StartEnd w (startB rs x)) := by
  have HR : Aside0 (startB rs x = .ok ()) := ⟨by unfold startB; rw [hst]; exact if_neg hn⟩
  obtain ⟨A1, c1, A2, c2, A3, c3, A4, c4, hr, _, _, hC, _⟩ := h.reads
  rw [hst] at hC
  rw [hst] at hr
  obtain ⟨n, hnn⟩ : ∃ n, (z :: r).length = n := ⟨_, rfl⟩
  have hn0 : 0 < n := by rw [← hnn]; simp
  have hpn : 0 < (n : Int) := by omega
  obtain ⟨ad, rfl⟩ : ∃ ad, A3 = some ad := by
    obtain ⟨ad, e, _⟩ := at_tok hC 0 (by simp)
    exact ⟨ad, e⟩
  obtain ⟨q, hq⟩ : ∃ q : Int, (leftsN rs z.s : Int) = q := ⟨_, rfl⟩
  have hq0 : q ≠ 0 := by omega
  have hq1 : (q == 0) = false := beq_false_of_ne hq0
  have key : ∀ w', Below w.heap.size w w' → w'.cell? ⟨B, 0, none⟩ = some (.pointer (some ⟨b, 0, none⟩)) ∧ w'.cell? ⟨b, 3, none⟩ = some (.slice (some ad) n c3) ∧ w'.cell? ⟨b, 5, none⟩ = some (.map (some m)) ∧ w'.cell? ⟨ad.block, ad.off + 1, none⟩ = some (.string z.s) ∧ w'.cell? ⟨ad.block, ad.off + 2, none⟩ = some (.int .i64 z.at_) ∧ (Instr.lookup 59 (.map (some m)) (.string z.s) false).run Tryz.prog w' = .ok (.int .i64 q) w' := fun w' hw => by
    obtain ⟨k0, k1, k2, k3, k4, k5⟩ := hr w' hw
    obtain ⟨t0, t1, t2⟩ := tok_at (Kd.C_below (Kd.C_below hC h.below) hw)
    have hl := (h.later hw).lookL z.s hsz
    rw [hq] at hl
    rw [hnn] at k3
    exact ⟨k0, k3, k5, t1, t2, hl⟩
  have KEY := Aside0.mk key
  clear h hst hsz hn hr hC hnn key hq
  go_enter Tryz.func121, Tryz.ntmps121
  go_wp2
  refine wp_region_det (vs := [?d2xv0, ?d2xv1, ?d2xv2, ?d2xv3, ?d2xv4, ?d2xv5, ?d2xv6, ?d2xv7, ?d2xv8, ?d2xv9, ?d2xv10, ?d2xv11, ?d2xv12, ?d2xv13, ?d2xv14, ?d2xv15, ?d2xv16, ?d2xv17, ?d2xv18]) (fun w' => Below w.heap.size w w') rfl (by kernel_rfl) (putAll_put (by simp only [Act.put, List.setIfInBounds_toArray, List.set_cons_zero, List.set_cons_succ]; rfl) (putAll_put (by simp only [Act.put, List.setIfInBounds_toArray, List.set_cons_zero, List.set_cons_succ]; rfl) (putAll_put (by simp only [Act.put, List.setIfInBounds_toArray, List.set_cons_zero, List.set_cons_succ]; rfl) (putAll_put (by simp only [Act.put, List.setIfInBounds_toArray, List.set_cons_zero, List.set_cons_succ]; rfl) (putAll_put (by simp only [Act.put, List.setIfInBounds_toArray, List.set_cons_zero, List.set_cons_succ]; rfl) (putAll_put (by simp only [Act.put, List.setIfInBounds_toArray, List.set_cons_zero, List.set_cons_succ]; rfl) (putAll_put (by simp only [Act.put, List.setIfInBounds_toArray, List.set_cons_zero, List.set_cons_succ]; rfl) (putAll_put (by simp only [Act.put, List.setIfInBounds_toArray, List.set_cons_zero, List.set_cons_succ]; rfl) (putAll_put (by simp only [Act.put, List.setIfInBounds_toArray, List.set_cons_zero, List.set_cons_succ]; rfl) (putAll_put (by simp only [Act.put, List.setIfInBounds_toArray, List.set_cons_zero, List.set_cons_succ]; rfl) (putAll_put (by simp only [Act.put, List.setIfInBounds_toArray, List.set_cons_zero, List.set_cons_succ]; rfl) (putAll_put (by simp only [Act.put, List.setIfInBounds_toArray, List.set_cons_zero, List.set_cons_succ]; rfl) (putAll_put (by simp only [Act.put, List.setIfInBounds_toArray, List.set_cons_zero, List.set_cons_succ]; rfl) (putAll_put (by simp only [Act.put, List.setIfInBounds_toArray, List.set_cons_zero, List.set_cons_succ]; rfl) (putAll_put (by simp only [Act.put, List.setIfInBounds_toArray, List.set_cons_zero, List.set_cons_succ]; rfl) (putAll_put (by simp only [Act.put, List.setIfInBounds_toArray, List.set_cons_zero, List.set_cons_succ]; rfl) (putAll_put (by simp only [Act.put, List.setIfInBounds_toArray, List.set_cons_zero, List.set_cons_succ]; rfl) (putAll_put (by simp only [Act.put, List.setIfInBounds_toArray, List.set_cons_zero, List.set_cons_succ]; rfl) (putAll_put (by simp only [Act.put, List.setIfInBounds_toArray, List.set_cons_zero, List.set_cons_succ]; rfl) (putAll_nil _)))))))))))))))))))) (below_drew (Below.refl _ _)) ?d2xOps ?d2xFin
  case d2xOps =>
    refine ⟨fun w' hw => ?d2xo0, fun w' hw => ?d2xo1, fun w' hw => ?d2xo2, fun w' hw => ?d2xo3, fun w' hw => ?d2xo4, fun w' hw => ?d2xo5, fun w' hw => ?d2xo6, fun w' hw => ?d2xo7, fun w' hw => ?d2xo8, fun w' hw => ?d2xo9, fun w' hw => ?d2xo10, fun w' hw => ?d2xo11, fun w' hw => ?d2xo12, fun w' hw => ?d2xo13, fun w' hw => ?d2xo14, fun w' hw => ?d2xo15, fun w' hw => ?d2xo16, fun w' hw => ?d2xo17, fun w' hw => ?d2xo18, trivial⟩
    case d2xo0 => obtain ⟨f0, f1, f2, f3, f4, f5⟩ := KEY.out w' hw; go_simp; rfl
    case d2xo1 => obtain ⟨f0, f1, f2, f3, f4, f5⟩ := KEY.out w' hw; go_simp; rfl
    case d2xo2 => obtain ⟨f0, f1, f2, f3, f4, f5⟩ := KEY.out w' hw; go_simp; rfl
    case d2xo3 => obtain ⟨f0, f1, f2, f3, f4, f5⟩ := KEY.out w' hw; go_simp; rfl
    case d2xo4 => obtain ⟨f0, f1, f2, f3, f4, f5⟩ := KEY.out w' hw; go_simp; rfl
    case d2xo5 => obtain ⟨f0, f1, f2, f3, f4, f5⟩ := KEY.out w' hw; go_simp; rfl
    case d2xo6 => obtain ⟨f0, f1, f2, f3, f4, f5⟩ := KEY.out w' hw; go_simp; rfl
    case d2xo7 => obtain ⟨f0, f1, f2, f3, f4, f5⟩ := KEY.out w' hw; go_simp; rfl
    case d2xo8 => obtain ⟨f0, f1, f2, f3, f4, f5⟩ := KEY.out w' hw; go_simp; rfl
    case d2xo9 => obtain ⟨f0, f1, f2, f3, f4, f5⟩ := KEY.out w' hw; go_simp; rfl
    case d2xo10 => obtain ⟨f0, f1, f2, f3, f4, f5⟩ := KEY.out w' hw; go_simp; rfl
    case d2xo11 => obtain ⟨f0, f1, f2, f3, f4, f5⟩ := KEY.out w' hw; go_simp; rfl
    case d2xo12 => obtain ⟨f0, f1, f2, f3, f4, f5⟩ := KEY.out w' hw; go_simp; rfl
    case d2xo13 => obtain ⟨f0, f1, f2, f3, f4, f5⟩ := KEY.out w' hw; go_simp; rfl
    case d2xo14 => obtain ⟨f0, f1, f2, f3, f4, f5⟩ := KEY.out w' hw; go_simp; rfl
    case d2xo15 => obtain ⟨f0, f1, f2, f3, f4, f5⟩ := KEY.out w' hw; go_simp; rfl
    case d2xo16 => obtain ⟨f0, f1, f2, f3, f4, f5⟩ := KEY.out w' hw; go_simp; rfl
    case d2xo17 => obtain ⟨f0, f1, f2, f3, f4, f5⟩ := KEY.out w' hw; go_simp; rfl
    case d2xo18 => obtain ⟨f0, f1, f2, f3, f4, f5⟩ := KEY.out w' hw; go_simp; rfl
  case d2xFin =>
    intro w1 hw1
    have HW := Aside0.mk hw1
    clear hw1
    go_wp2
    (first | go_end0 | refine bodyPost_ret (results_none rfl _ _ _) rfl ?_)
    rw [HR.out]
    exact ⟨rfl, HW.out⟩
theorem b_start (h : BS W1 w b m x rs B mt mn vT vN vS u tm nm) (hst : x.starts ≠ []) (hsz : ∀ z ∈ x.starts, z.s.size ≤ 10000) :
    Calls Tryz.prog 121 #[.pointer (some ⟨B, 0, none⟩)] w (StartEnd w (startB rs x)) := by
  obtain ⟨z, r, e⟩ := List.exists_cons_of_ne_nil hst
  by_cases hn : leftsN rs z.s = 0
  · exact b_start_no h e (hsz z (by rw [e]; exact List.mem_cons_self)) hn
  · exact b_start_ok h e (hsz z (by rw [e]; exact List.mem_cons_self)) hn
set_option maxHeartbeats 4000000 in
set_option maxRecDepth 100000 in
theorem b_second (h : BS W1 w b m x rs B mt mn vT vN vS u tm nm) :
    Calls Tryz.prog 98 #[.pointer (some ⟨B, 0, none⟩)] w fun e w' => e = .returned (.int .i64 (secondB x)) ∧ w' = w := by
  obtain ⟨A1, c1, A2, c2, A3, c3, A4, c4, hr, _, hC, _, _⟩ := h.reads
  obtain ⟨f0, f1, f2, f3, f4, f5⟩ := hr w (Below.refl _ _)
  by_cases hm : x.marks.length < 2
  · have HR : Aside0 (secondB x = 8193) := ⟨by unfold secondB; rw [if_pos hm]⟩
    have hm2 : (x.marks.length : Int) < 2 := by omega
    clear h hr hC hm
    go_enter Tryz.func98, Tryz.ntmps98
    go_wp2
    go_ret
    exact ⟨by rw [HR.out]; rfl, rfl⟩
  · have HR : Aside0 (secondB x = x.marks.getD 1 0) := ⟨by unfold secondB; rw [if_neg hm]⟩
    have hm2 : ¬ (x.marks.length : Int) < 2 := by omega
    have hm3 : (1 : Int) < (x.marks.length : Int) := by omega
    obtain ⟨ad, rfl, l1⟩ := at_int (Kd.C_below hC h.below) 1 (by omega)
    have l2 : w.cell? ⟨ad.block, ad.off + 1, none⟩ = some (.int .i64 (x.marks.getD 1 default)) := by
      rw [← l1]
      rfl
    clear h hr hC hm
    go_enter Tryz.func98, Tryz.ntmps98
    go_wp2
    go_ret
    exact ⟨by rw [HR.out]; rfl, rfl⟩
end
end Go.Proofs.YtliofoikejdjeaaGreat
