/- Texts laid one behind the other: B8, BC, BD, B9, BE, BH, BI, BK. -/
import Derived.Test.YtliofoikejdjeaaGreatV8
import Derived.Test.YtliofoikejdjeaaGreatV1
import Derived.Deep.LoopGhost
import Derived.Test.YtliofoikejdjeaaGreatV10
import Derived.Test.YtliofoikejdjeaaGreatWTab
/- Rows of strings: slices.Equal, Index, IndexFunc, ContainsFunc; the closure of gread's builder. -/
namespace Go.Proofs.YtliofoikejdjeaaGreat
open Go.RowKit Go.Proofs.YtliofoikejdjeaaGreatW.PrintWords
set_option linter.unusedVariables false
set_option linter.unusedSimpArgs false
theorem at_strs {w : World} {A : Option Addr} {n : Nat} {xs : List (List ByteArray)} (h : Kd.C kStrs w A n xs) (i : Nat) (h1 : i < n) : ∃ ad A1 c1, A = some ad ∧ w.cell? (ad.add i) = some (.slice A1 (xs.getD i default).length c1) ∧ (xs.getD i default).length ≤ c1 ∧ Kd.C Kd.string w A1 (xs.getD i default).length (xs.getD i default) := by
  obtain ⟨ad, c, e, _, hK, hc0⟩ := Kd.C_get h (default : List ByteArray) (i : Int) (by omega) (by omega)
  have hc : ∀ j u, c[j]? = some u → w.cell? (ad.add (i * 1 + j)) = some u := hc0
  obtain ⟨A1, c1, e1, l1, g1⟩ := hK
  subst e1
  have h0 := hc 0 _ rfl
  rw [show i * 1 + 0 = i from by omega] at h0
  exact ⟨ad, A1, c1, e, by simpa using h0, by simpa using l1, by simpa using g1⟩
theorem eq_of_all {xs ys : List ByteArray} (hl : xs.length = ys.length) (h : ∀ i, i < xs.length → xs.getD i default = ys.getD i default) : xs = ys := by
  apply List.ext_getElem hl
  intro i h1 h2
  have := h i h1
  rw [List.getD_eq_getElem?_getD, List.getElem?_eq_getElem h1, List.getD_eq_getElem?_getD, List.getElem?_eq_getElem h2] at this
  exact this
set_option maxHeartbeats 2000000 in
set_option maxRecDepth 100000 in
theorem equal_str {w : World} {A A' : Option Addr} {c c' : Nat} {xs ys : List ByteArray} (hx : Kd.C Kd.string w A xs.length xs) (hy : Kd.C Kd.string w A' ys.length ys) (hm : xs.length ≤ 140737488351232) :
    Calls Tryz.prog 104 #[.slice A xs.length c, .slice A' ys.length c'] w fun e w' => e = .returned (.bool (decide (xs = ys))) ∧ Below w.heap.size w w' := by
  by_cases hl : xs.length = ys.length
  · have HX := Aside0.mk hx
    have HY := Aside0.mk hy
    have HL := Aside0.mk hl
    rw [← hl]
    clear hx hy hl
    go_enter Tryz.func104, Tryz.ntmps104
    go_wp2
    go_loopg [5, 13] xs.length (fun gg _ s8 wr => ∃ kk : Nat, kk ≤ xs.length ∧ xs.length - kk ≤ gg ∧ s8 = .int .i64 kk ∧ Aside0 (Below w.heap.size w wr) ∧ Aside0 (∀ j, j < kk → xs.getD j default = ys.getD j default))
    case atStart => exact ⟨0, Nat.zero_le _, by omega, rfl, ⟨Below.refl _ w⟩, ⟨fun j hj => absurd hj (Nat.not_lt_zero _)⟩⟩
    case round =>
      obtain ⟨kk, hkk, hg, rfl, BW, AF⟩ := hrel
      by_cases hlt : (kk : Int) < (xs.length : Int)
      · have hkl : kk < xs.length := by omega
        obtain ⟨a1, ea1, l1⟩ := at_str (Kd.C_below HX.out BW.out) kk hkl
        obtain ⟨a2, ea2, l2⟩ := at_str (Kd.C_below HY.out BW.out) kk (by have := HL.out; omega)
        subst ea1 ea2
        obtain ⟨s1, hs1⟩ : ∃ s1, xs.getD kk default = s1 := ⟨_, rfl⟩
        obtain ⟨s2, hs2⟩ : ∃ s2, ys.getD kk default = s2 := ⟨_, rfl⟩
        rw [hs1] at l1
        rw [hs2] at l2
        have H1 := Aside0.mk hs1
        have H2 := Aside0.mk hs2
        have hb1 := World.block_lt_of_cell? _ _ l1
        have hb2 := World.block_lt_of_cell? _ _ l2
        have KEY : Aside0 (∀ w', Below wr.heap.size wr w' → w'.cell? (a1.add kk) = some (.string s1) ∧ w'.cell? (a2.add kk) = some (.string s2)) := ⟨fun w' hw => ⟨(hw.cell (p := a1.add kk) hb1).trans l1, (hw.cell (p := a2.add kk) hb2).trans l2⟩⟩
        clear hs1 hs2 l1 l2 hb1 hb2
        by_cases hss : s1 = s2
        · have HS : Aside0 (xs.getD kk default = ys.getD kk default) := ⟨by rw [H1.out, H2.out, hss]⟩
          subst hss
          go_wp2
          refine wp_region_det (vs := [?d1xv0, ?d1xv1, ?d1xv2, ?d1xv3, ?d1xv4, ?d1xv5, ?d1xv6, ?d1xv7, ?d1xv8]) (fun w' => Below wr.heap.size wr w') rfl (by kernel_rfl) (putAll_put (by simp only [Act.put, List.setIfInBounds_toArray, List.set_cons_zero, List.set_cons_succ]; rfl) (putAll_put (by simp only [Act.put, List.setIfInBounds_toArray, List.set_cons_zero, List.set_cons_succ]; rfl) (putAll_put (by simp only [Act.put, List.setIfInBounds_toArray, List.set_cons_zero, List.set_cons_succ]; rfl) (putAll_put (by simp only [Act.put, List.setIfInBounds_toArray, List.set_cons_zero, List.set_cons_succ]; rfl) (putAll_put (by simp only [Act.put, List.setIfInBounds_toArray, List.set_cons_zero, List.set_cons_succ]; rfl) (putAll_put (by simp only [Act.put, List.setIfInBounds_toArray, List.set_cons_zero, List.set_cons_succ]; rfl) (putAll_put (by simp only [Act.put, List.setIfInBounds_toArray, List.set_cons_zero, List.set_cons_succ]; rfl) (putAll_put (by simp only [Act.put, List.setIfInBounds_toArray, List.set_cons_zero, List.set_cons_succ]; rfl) (putAll_put (by simp only [Act.put, List.setIfInBounds_toArray, List.set_cons_zero, List.set_cons_succ]; rfl) (putAll_nil _)))))))))) (below_drew (Below.refl _ _)) ?d1xOps ?d1xFin
          case d1xOps =>
            refine ⟨fun w' hw => ?d1xo0, fun w' hw => ?d1xo1, fun w' hw => ?d1xo2, fun w' hw => ?d1xo3, fun w' hw => ?d1xo4, fun w' hw => ?d1xo5, fun w' hw => ?d1xo6, fun w' hw => ?d1xo7, fun w' hw => ?d1xo8, trivial⟩
            case d1xo0 => obtain ⟨f1, f2⟩ := KEY.out w' hw; go_simp; rfl
            case d1xo1 => obtain ⟨f1, f2⟩ := KEY.out w' hw; go_simp; rfl
            case d1xo2 => obtain ⟨f1, f2⟩ := KEY.out w' hw; go_simp; rfl
            case d1xo3 => obtain ⟨f1, f2⟩ := KEY.out w' hw; go_simp; rfl
            case d1xo4 => obtain ⟨f1, f2⟩ := KEY.out w' hw; go_simp; rfl
            case d1xo5 => obtain ⟨f1, f2⟩ := KEY.out w' hw; go_simp; rfl
            case d1xo6 => obtain ⟨f1, f2⟩ := KEY.out w' hw; go_simp; rfl
            case d1xo7 => obtain ⟨f1, f2⟩ := KEY.out w' hw; go_simp; rfl
            case d1xo8 => obtain ⟨f1, f2⟩ := KEY.out w' hw; go_simp; rfl
          case d1xFin =>
            intro w1 hw1
            have HW := Aside0.mk hw1
            clear hw1
            go_wp2
            go_roundg (xs.length - (kk + 1))
            case measure => omega
            case rel =>
              refine ⟨kk + 1, by omega, Nat.le_refl _, (by first | go_num | exact congrArg (Value.int IntKind.i64) (show wrap64 ((kk : Int) + 1) = ((kk + 1 : Nat) : Int) from by unfold wrap64; omega)), ⟨BW.out.trans (HW.out.mono BW.out.size)⟩, ⟨fun j hj => ?_⟩⟩
              by_cases e : j = kk
              · subst e
                exact HS.out
              · exact AF.out j (by omega)
        · have hbne := str_ne hss
          have HS : Aside0 (xs ≠ ys) := ⟨fun e => hss (by rw [← H1.out, ← H2.out, e])⟩
          go_wp2
          refine wp_region_det (vs := [?d2xv0, ?d2xv1, ?d2xv2, ?d2xv3, ?d2xv4, ?d2xv5, ?d2xv6, ?d2xv7, ?d2xv8]) (fun w' => Below wr.heap.size wr w') rfl (by kernel_rfl) (putAll_put (by simp only [Act.put, List.setIfInBounds_toArray, List.set_cons_zero, List.set_cons_succ]; rfl) (putAll_put (by simp only [Act.put, List.setIfInBounds_toArray, List.set_cons_zero, List.set_cons_succ]; rfl) (putAll_put (by simp only [Act.put, List.setIfInBounds_toArray, List.set_cons_zero, List.set_cons_succ]; rfl) (putAll_put (by simp only [Act.put, List.setIfInBounds_toArray, List.set_cons_zero, List.set_cons_succ]; rfl) (putAll_put (by simp only [Act.put, List.setIfInBounds_toArray, List.set_cons_zero, List.set_cons_succ]; rfl) (putAll_put (by simp only [Act.put, List.setIfInBounds_toArray, List.set_cons_zero, List.set_cons_succ]; rfl) (putAll_put (by simp only [Act.put, List.setIfInBounds_toArray, List.set_cons_zero, List.set_cons_succ]; rfl) (putAll_put (by simp only [Act.put, List.setIfInBounds_toArray, List.set_cons_zero, List.set_cons_succ]; rfl) (putAll_put (by simp only [Act.put, List.setIfInBounds_toArray, List.set_cons_zero, List.set_cons_succ]; rfl) (putAll_nil _)))))))))) (below_drew (Below.refl _ _)) ?d2xOps ?d2xFin
          case d2xOps =>
            refine ⟨fun w' hw => ?d2xo0, fun w' hw => ?d2xo1, fun w' hw => ?d2xo2, fun w' hw => ?d2xo3, fun w' hw => ?d2xo4, fun w' hw => ?d2xo5, fun w' hw => ?d2xo6, fun w' hw => ?d2xo7, fun w' hw => ?d2xo8, trivial⟩
            case d2xo0 => obtain ⟨f1, f2⟩ := KEY.out w' hw; go_simp; rfl
            case d2xo1 => obtain ⟨f1, f2⟩ := KEY.out w' hw; go_simp; rfl
            case d2xo2 => obtain ⟨f1, f2⟩ := KEY.out w' hw; go_simp; rfl
            case d2xo3 => obtain ⟨f1, f2⟩ := KEY.out w' hw; go_simp; rfl
            case d2xo4 => obtain ⟨f1, f2⟩ := KEY.out w' hw; go_simp; rfl
            case d2xo5 => obtain ⟨f1, f2⟩ := KEY.out w' hw; go_simp; rfl
            case d2xo6 => obtain ⟨f1, f2⟩ := KEY.out w' hw; go_simp; rfl
            case d2xo7 => obtain ⟨f1, f2⟩ := KEY.out w' hw; go_simp; rfl
            case d2xo8 => obtain ⟨f1, f2⟩ := KEY.out w' hw; go_simp; rfl
          case d2xFin =>
            intro w1 hw1
            have HW := Aside0.mk hw1
            clear hw1
            go_wp2
            go_ret
            exact ⟨rbool (decide_eq_false HS.out).symm, BW.out.trans (HW.out.mono BW.out.size)⟩
      · have hltz : ¬ (kk : Int) < (xs.length : Int) := hlt
        obtain rfl : kk = xs.length := by omega
        go_wp2
        go_ret
        exact ⟨rbool (decide_eq_true (eq_of_all HL.out AF.out)).symm, BW.out⟩
  · have HL : Aside0 (xs ≠ ys) := ⟨fun e => hl (by rw [e])⟩
    have hlz : ¬ (xs.length : Int) = (ys.length : Int) := by omega
    have hlb : ((xs.length : Int) == (ys.length : Int)) = false := beq_false_of_ne hlz
    clear hx hy
    go_enter Tryz.func104, Tryz.ntmps104
    go_wp2
    go_ret
    exact ⟨rbool (decide_eq_false HL.out).symm, Below.refl _ _⟩
set_option maxHeartbeats 1000000 in
set_option maxRecDepth 100000 in
theorem index_str {w : World} {A : Option Addr} {c : Nat} {xs : List ByteArray} (x : ByteArray) (hr : Kd.C Kd.string w A xs.length xs) (hm : xs.length ≤ 140737488351232) :
    Calls Tryz.prog 105 #[.slice A xs.length c, .string x] w fun e w' => e = .returned (.int .i64 (placeS xs x)) ∧ w' = w := by
  have HR := Aside0.mk hr
  clear hr
  go_enter Tryz.func105, Tryz.ntmps105
  go_wp2
  go_loopg [5, 8] xs.length (fun gg _ s8 wr => ∃ kk : Nat, kk ≤ xs.length ∧ xs.length - kk ≤ gg ∧ s8 = .int .i64 kk ∧ Aside0 (wr = w) ∧ Aside0 (∀ j, j < kk → decide (xs.getD j default = x) = false))
  case atStart => exact ⟨0, Nat.zero_le _, by omega, rfl, ⟨rfl⟩, ⟨fun j hj => absurd hj (Nat.not_lt_zero _)⟩⟩
  case round =>
    obtain ⟨kk, hkk, hg, rfl, BW, AF⟩ := hrel
    obtain rfl := BW.out
    clear BW
    by_cases hlt : kk < xs.length
    · have hltz : (kk : Int) < (xs.length : Int) := by omega
      obtain ⟨ad, ea, l2⟩ := at_str HR.out kk hlt
      subst ea
      obtain ⟨y, hy⟩ : ∃ y, xs.getD kk default = y := ⟨_, rfl⟩
      rw [hy] at l2
      have HY := Aside0.mk hy
      clear hy
      by_cases hq : x = y
      · have HQ : Aside0 (decide (xs.getD kk default = x) = true) := ⟨decide_eq_true (by rw [HY.out, hq])⟩
        subst hq
        go_wp2
        go_ret
        exact ⟨rint (idxF_hit hlt HQ.out AF.out).symm, rfl⟩
      · have hbne := str_ne hq
        have HQ : Aside0 (decide (xs.getD kk default = x) = false) := ⟨decide_eq_false (by rw [HY.out]; exact fun e => hq e.symm)⟩
        go_wp2
        go_roundg (xs.length - (kk + 1))
        case measure => omega
        case rel =>
          refine ⟨kk + 1, by omega, by omega, (by first | go_num | exact congrArg (Value.int IntKind.i64) (show wrap64 ((kk : Int) + 1) = ((kk + 1 : Nat) : Int) from by unfold wrap64; omega)), ⟨rfl⟩, ⟨fun j hj => ?_⟩⟩
          by_cases e : j = kk
          · subst e
            exact HQ.out
          · exact AF.out j (by omega)
    · have hltz : ¬ (kk : Int) < (xs.length : Int) := by omega
      obtain rfl : kk = xs.length := by omega
      go_wp2
      go_ret
      exact ⟨rint (idxF_miss AF.out).symm, rfl⟩
def Vstrs (w : World) (x : List ByteArray) (v : Value) : Prop := ∃ A c, v = .slice A x.length c ∧ x.length ≤ c ∧ Kd.C Kd.string w A x.length x
section
variable {w : World} {A : Option Addr} {c : Nat} {fv : Value}
set_option maxHeartbeats 1000000 in
set_option maxRecDepth 100000 in
theorem idx_strs {xs : List (List ByteArray)} {p : (List ByteArray) → Bool} (hr : Kd.C kStrs w A xs.length xs) (hm : xs.length ≤ 140737488351232) (hp : PredV w fv (fun W x v => Vstrs W x v ∧ x ∈ xs) p) :
    Calls Tryz.prog 123 #[.slice A xs.length c, fv] w fun e w' => e = .returned (.int .i64 (idxF p xs)) ∧ Below w.heap.size w w' := by
  obtain ⟨g, lb, rfl, eg, hp⟩ := hp
  have HR := Aside0.mk hr
  clear hr
  go_enter Tryz.func123, Tryz.ntmps123
  go_wp2
  go_loopg [5, 8] xs.length (fun gg _ s8 wr => ∃ kk : Nat, kk ≤ xs.length ∧ xs.length - kk ≤ gg ∧ s8 = .int .i64 kk ∧ Aside0 (Below w.heap.size w wr) ∧ Aside0 (∀ j, j < kk → p (xs.getD j default) = false))
  case atStart => exact ⟨0, Nat.zero_le _, by omega, rfl, ⟨Below.refl _ w⟩, ⟨fun j hj => absurd hj (Nat.not_lt_zero _)⟩⟩
  case round =>
    obtain ⟨kk, hkk, hg, rfl, BW, AF⟩ := hrel
    by_cases hlt : kk < xs.length
    · have hltz : (kk : Int) < (xs.length : Int) := by omega
      obtain ⟨ad, A1, c1, rfl, l2, l4, l5⟩ := at_strs (Kd.C_below HR.out BW.out) kk hlt
      have hcall := hp wr (xs.getD kk default) _ BW.out ⟨⟨A1, c1, rfl, l4, l5⟩, getD_mem hlt⟩
      clear hp
      obtain ⟨y, hy⟩ : ∃ y, xs.getD kk default = y := ⟨_, rfl⟩
      rw [hy] at l2 hcall
      have HY := Aside0.mk hy
      clear hy
      cases hq : p y with
      | true =>
        have HQ : Aside0 (p (xs.getD kk default) = _) := ⟨(congrArg p HY.out).trans hq⟩
        rw [hq] at hcall
        clear hq
        go_wp2_with (go_at_fn g; refine hcall.mono ?_; rintro e w' ⟨rfl, hb'⟩)
        go_ret
        exact ⟨rint (idxF_hit hlt HQ.out AF.out).symm, BW.out.trans (hb'.mono BW.out.size)⟩
      | false =>
        have HQ : Aside0 (p (xs.getD kk default) = _) := ⟨(congrArg p HY.out).trans hq⟩
        rw [hq] at hcall
        clear hq
        go_wp2_with (go_at_fn g; refine hcall.mono ?_; rintro e w' ⟨rfl, hb'⟩)
        go_roundg (xs.length - (kk + 1))
        case measure => omega
        case rel =>
          refine ⟨kk + 1, by omega, by omega, (by first | go_num | exact congrArg (Value.int IntKind.i64) (show wrap64 ((kk : Int) + 1) = ((kk + 1 : Nat) : Int) from by unfold wrap64; omega)), ⟨BW.out.trans (hb'.mono BW.out.size)⟩, ⟨fun j hj => ?_⟩⟩
          by_cases e : j = kk
          · subst e
            exact HQ.out
          · exact AF.out j (by omega)
    · have hltz : ¬ (kk : Int) < (xs.length : Int) := by omega
      have : kk = xs.length := by omega
      subst this
      go_wp2
      go_ret
      exact ⟨rint (idxF_miss AF.out).symm, BW.out⟩
theorem contains_strs {xs : List (List ByteArray)} {p : (List ByteArray) → Bool} (hr : Kd.C kStrs w A xs.length xs) (hm : xs.length ≤ 140737488351232) (hp : PredV w fv (fun W x v => Vstrs W x v ∧ x ∈ xs) p) :
    Calls Tryz.prog 102 #[.slice A xs.length c, fv] w fun e w' => e = .returned (.bool (xs.any p)) ∧ Below w.heap.size w w' := by
  have hi := idx_strs (c := c) hr hm hp
  rw [← idxF_any]
  clear hr hp
  generalize idxF p xs = i at *
  go_enter Tryz.func102, Tryz.ntmps102
  go_wp2_with (go_at_call 123; refine hi.mono ?_; rintro e w' ⟨rfl, hb⟩)
  go_ret
  exact ⟨rfl, hb⟩
end
set_option maxHeartbeats 1000000 in
set_option maxRecDepth 100000 in
theorem same_V {w : World} {g : Nat} {A : Option Addr} {c : Nat} {r : List ByteArray} (hg : w.heap[g]? = some (.cells #[.slice A r.length c] 22 (0, 0))) (hr : Kd.C Kd.string w A r.length r) (hm : r.length ≤ 140737488351232) :
    PredV w (.func (.func 103) #[] #[.pointer (some ⟨g, 0, none⟩)]) Vstrs (fun y => decide (r = y)) := by
  refine ⟨_, _, rfl, fun _ _ => rfl, fun W y v hW hV => ?_⟩
  obtain ⟨A', c', rfl, hl, hC⟩ := hV
  have c0 := (blk_cell (blk_below hg hW) 0).trans rfl
  have hE := equal_str (c := c) (c' := c') (Kd.C_below hr hW) hC hm
  clear hg hr hW hC
  show Calls _ _ #[.slice A' y.length c', .pointer (some ⟨g, 0, none⟩)] _ _
  go_enter Tryz.func103, Tryz.ntmps103
  go_wp2_with (go_at_call 104; refine hE.mono ?_; rintro e w' ⟨rfl, hb⟩)
  go_ret
  exact ⟨rfl, hb⟩
end Go.Proofs.YtliofoikejdjeaaGreat
/- gread's builder: a side. -/
namespace Go.Proofs.YtliofoikejdjeaaGreat
open Go.RowKit Go.Proofs.YtliofoikejdjeaaGreatW.PrintWords Go.Proofs.YtliofoikejdjeaaGreatW.PrintLast
set_option linter.unusedVariables false
set_option linter.unusedSimpArgs false
def bs12T : Bool × List (List Nat × List Nat) := (true, [([], []), ([], []), ([1], [1]), ([2], [2]), ([3], [3]), ([], []), ([5], [5]), ([4, 6], [4, 6]), ([0, 0, 1, 2, 3, 4, 5, 6, 7], [0]), ([8, 0, 1, 2, 3, 4, 5, 6, 7], [8]), ([9, 7, 7, 0, 1, 2, 3, 4, 5, 6, 7], [7, 9])])
def bs12B : List Nat := [0, 0, 2, 6, 14, 0, 32, 126, 255, 511, 1023]
theorem bs12Tab : rtab .any (opsOf Tryz.f65 12) = bs12T := by kernel_rfl
theorem bs12Bits : waitsOk bs12T.2 bs12B = true := by kernel_rfl
theorem infoStrs : (Tryz.prog.info? 22).map (fun i => (i.zero, i.size, i.bytes)) = some (some (.slice none 0 0), 1, 24) := by kernel_rfl
structure Fr2 (B mt : Nat) (v v' s s' : Value) (w w' : World) : Prop where
  os : w'.os = w.os
  tape : w'.tape = w.tape
  output : w'.output = w.output
  size : w.heap.size ≤ w'.heap.size
  block : ∀ k, k < w.heap.size → k ≠ B → k ≠ mt → some k ≠ v.ownBlock → some k ≠ s.ownBlock → w'.heap[k]? = w.heap[k]?
  hat : v'.ownBlock = v.ownBlock ∨ ∃ k, v'.ownBlock = some k ∧ w.heap.size ≤ k
  hatS : s'.ownBlock = s.ownBlock ∨ ∃ k, s'.ownBlock = some k ∧ w.heap.size ≤ k
section
variable {W1 w wr w1 : World} {b m : Nat} {x : Hd} {rs : List Ru} {B mt mn : Nat} {v0 vT vN vS : Value} {u : Bu} {g0 g1 : Nat} {sv : Value} {sp : Int} {vr : Value} {r : List ByteArray}
theorem Fr2.put {e base : Nat} {ok : Nat → Prop} {ys : List (List ByteArray)} {vX : Value} (h : Fr B mt v0 vT w wr) (hr : Kd.R kStrs e wr base ok vS ys) (hg : wr.grownBy w1 vS.ownBlock) (hat : vX.ownBlock = vS.ownBlock ∨ ∃ k, vX.ownBlock = some k ∧ wr.heap.size ≤ k) : ∀ v1, Fr2 B mt v0 vT vS vX w (w1.setCell ⟨B, 7, none⟩ v1) := fun v1 =>
  ⟨hg.os.trans h.os, hg.tape.trans h.tape, hg.output.trans h.output, by simpa using Nat.le_trans h.size hg.size, fun k hk hB hm hv hs => (Below.heap_setCell w1 ⟨B, 7, none⟩ v1 k hB).trans ((hg.block k (Nat.lt_of_lt_of_le hk h.size) hs).trans (h.block k hk hB hm hv)), h.hat, hat.imp_right fun ⟨k, e, hk⟩ => ⟨k, e, Nat.le_trans h.size hk⟩⟩
theorem SS.made (h : SS W1 w b m x rs B mt mn v0 vT vN vS u g0 g1 sv sp vr r wr) : kStrs.M wr W1.heap.size (fun k => (some k ≠ vN.ownBlock ∧ some k ≠ vT.ownBlock) ∧ some k ≠ vS.ownBlock) r [vr] :=
  ⟨vr, rfl, Kd.R_lower (R_flat h.rule (fun k hk => ⟨⟨fun e => by have := h.ns.1 k e.symm; have := Kd.R_base h.rule k hk; omega, h.rule.1 k hk⟩, fun e => by have := (h.rs_.1 k e.symm).1.1; have := Kd.R_base h.rule k hk; omega⟩)) h.hw⟩
theorem SS.ne1 (h : SS W1 w b m x rs B mt mn v0 vT vN vS u g0 g1 sv sp vr r wr) : some g1 ≠ vS.ownBlock := fun e => by
  have := (h.rs_.1 g1 e.symm).1.1
  have := h.h1
  omega
theorem R_one {w : World} {base : Nat} {ok : Nat → Prop} (hb : base ≤ w.heap.size) (s : ByteArray) (hok : ok w.heap.size) : Kd.R Kd.string 9 (w.alloc (.cells #[.string s] 9 (0, 0))) base ok (.slice (some ⟨w.heap.size, 0, none⟩) 1 1) [s] := by
  refine ⟨fun k hk => ?_, [.string s], ?_, Reps.snoc (Reps.none _ _) rfl rfl⟩
  · have : w.heap.size = k := by simpa [Value.ownBlock] using hk
    subst this
    exact hok
  · exact World.ownsRow_lit (base := base) (e := 9) (size := 1) w #[.string s] 1 hb (by decide) (by simp)
theorem SS.start (h : BS W1 w b m x rs B mt mn vT vN vS u u.ts u.ns) (left : ByteArray) (sv : Value) (sp : Int) : SS W1 w b m x rs B mt mn vT vT vN vS u w.heap.size (w.heap.size + 1 + 1) sv sp (.slice (some ⟨w.heap.size + 1, 0, none⟩) 1 1) [left] (((w.alloc (.cells #[sv, .int .i64 sp] 96 (0, 0))).alloc (.cells #[.string left] 9 (0, 0))).alloc (.cells #[.slice (some ⟨w.heap.size + 1, 0, none⟩) 1 1] 22 (0, 0))) := by
  have hb1 := below_alloc (Below.refl w.heap.size w) (.cells #[sv, .int .i64 sp] 96 (0, 0))
  have hb2 := below_alloc hb1 (.cells #[.string left] 9 (0, 0))
  have hb3 := below_alloc hb2 (.cells #[.slice (some ⟨w.heap.size + 1, 0, none⟩) 1 1] 22 (0, 0))
  have s1 : (w.alloc (.cells #[sv, .int .i64 sp] 96 (0, 0))).heap.size = w.heap.size + 1 := by simp
  have s2 : ((w.alloc (.cells #[sv, .int .i64 sp] 96 (0, 0))).alloc (.cells #[.string left] 9 (0, 0))).heap.size = w.heap.size + 2 := by simp
  have ho := R_one (w := w.alloc (.cells #[sv, .int .i64 sp] 96 (0, 0))) (base := w.heap.size) (ok := fun k => some k ≠ vT.ownBlock) (by simp) left (fun e => by have := Kd.R_lt h.ts _ e.symm; simp at this; omega)
  rw [s1] at ho
  refine ⟨h.later hb3, Fr.later hb3, Kd.R_below (Kd.R_mono (Kd.R_bound h.ns) (fun k hk => ⟨hk.2.2.1, hk.1⟩)) hb3, Kd.R_below (Kd.R_mono (Kd.R_bound h.rs_) (fun k hk => ⟨⟨hk.2.2.1, hk.1.1⟩, hk.1.2⟩)) hb3, Kd.R_below ho (below_alloc (Below.refl _ _) _), blk_alloc (blk_alloc (blk_new _ _) _) _, ?_, Nat.le_refl _, by omega, h.below.size⟩
  have := blk_new ((w.alloc (.cells #[sv, .int .i64 sp] 96 (0, 0))).alloc (.cells #[.string left] 9 (0, 0))) (.cells #[.slice (some ⟨w.heap.size + 1, 0, none⟩) 1 1] 22 (0, 0))
  rw [s2] at this
  exact this
end
def SideEnd (W1 w : World) (b m : Nat) (x : Hd) (rs : List Ru) (B mt mn : Nat) (vT vN vS : Value) (R : Except Ft Bu) (e : Ending) (w' : World) : Prop :=
  match R with
  | .error f => Panics f e ∧ Below W1.heap.size W1 w'
  | .ok u' => e = .returned (.tuple #[]) ∧ ∃ vT' vS', BS W1 w' b m x rs B mt mn vT' vN vS' u' u'.ts u'.ns ∧ Fr2 B mt vT vT' vS vS' w w'
def sideC (left : ByteArray) (s : Sd) (u : Bu) : Except Ft (List ByteArray) → Except Ft Bu
  | .error e => .error e
  | .ok ts => if u.rs.any (fun y => decide ((left :: s.l.map (·.s)) = y)) then .error (8, s.at_) else .ok { u with ts := ts, rs := u.rs ++ [left :: s.l.map (·.s)] }
theorem side_cont {rs : List Ru} {left : ByteArray} {s : Sd} {u : Bu} (h : ¬ 300 ≤ u.rs.length) : sideB rs left s u = sideC left s u (symbolsB rs s.l 0 u.ts) := by
  unfold sideB
  rw [if_neg h]
  cases symbolsB rs s.l 0 u.ts <;> rfl
theorem symbols_step {rs : List Ru} {t : Tk} {l : List Tk} {k : Nat} {ts : List ByteArray} : symbolsB rs (t :: l) k ts = match symbolB rs t k ts with | .error e => .error e | .ok ts' => symbolsB rs l (k + 1) ts' := by
  rw [symbolsB]
  cases symbolB rs t k ts <;> rfl
theorem symbol_len {rs : List Ru} {t : Tk} {k : Nat} {ts ts' : List ByteArray} (h : symbolB rs t k ts = .ok ts') : ts'.length ≤ ts.length + 1 := by
  unfold symbolB at h
  split at h
  · cases h
  · split at h
    · cases h
      omega
    · split at h
      · have := term_len h
        omega
      · split at h
        · cases h
        · cases h
          omega
set_option maxHeartbeats 16000000 in
set_option maxRecDepth 100000 in
theorem b_side_put {W1 w : World} {b m : Nat} {x : Hd} {rs : List Ru} {B mt mn : Nat} {vT vN vS : Value} {u : Bu} (h : BS W1 w b m x rs B mt mn vT vN vS u u.ts u.ns) (left : ByteArray) (s : Sd) {A : Option Addr} {c : Nat} (hC : Kd.C kTk W1 A s.l.length s.l) (hsz : ∀ t ∈ s.l, t.s.size ≤ 10000) (hl : s.l.length ≤ 10000) (hu : u.ts.length ≤ 10000) (hrs : u.rs.length < 300) :
    Calls Tryz.prog 65 #[.pointer (some ⟨B, 0, none⟩), .string left, .agg #[.slice A s.l.length c, .int .i64 s.at_]] w (SideEnd W1 w b m x rs B mt mn vT vN vS (sideB rs left s u)) := by
  have hmf : ∀ (fn : Fn) (first cap : Array Value) (w : World), (Instr.makeFunc fn first cap).run Tryz.prog w = .ok (.func fn first cap) w := fun _ _ _ _ => rfl
  have HS0 := Aside0.mk (SS.start h left (.slice A s.l.length c) s.at_)
  obtain ⟨R, hR⟩ : ∃ R, symbolsB rs s.l 0 u.ts = R := ⟨_, rfl⟩
  have HRV : Aside0 (sideB rs left s u = sideC left s u R) := ⟨by rw [← hR]; exact side_cont (by omega)⟩
  have HR0 := Aside0.mk hR
  obtain ⟨Av, cv, ev⟩ := Kd.R_slice h.rs_
  have HEV := Aside0.mk ev
  have cS : (w.alloc (.cells #[.slice A s.l.length c, .int .i64 s.at_] 96 (0, 0))).cell? ⟨B, 7, none⟩ = some (.slice Av u.rs.length cv) := ((h.later (below_alloc (Below.refl _ _) _)).cells.2.2.2.2.2).trans (congrArg some ev)
  have hBl := blk_lt h.blk
  have hrz : ¬ (300 : Int) ≤ (u.rs.length : Int) := by omega
  have HC := Aside0.mk hC
  have HSZ := Aside0.mk hsz
  have HLL := Aside0.mk hl
  have HUL := Aside0.mk hu
  have HL0 := Aside0.mk hrs
  have hWW := h.below.size
  clear h hC hsz hl hu hrs hR ev
  go_enter Tryz.func65, Tryz.ntmps65
  go_wp2
  obtain ⟨g1, hg1⟩ : ∃ g, w.heap.size + 1 + 1 = g := ⟨_, rfl⟩
  obtain ⟨g0, hg0⟩ : ∃ g, w.heap.size = g := ⟨_, rfl⟩
  rw [hg1, hg0] at HS0
  rw [hg1, hg0]
  have HG1 := Aside0.mk hg1
  have HG0 := Aside0.mk hg0
  clear hg0 hg1 cS hBl hrz
  go_loopg [23] s.l.length (fun gg v23 wr => ∃ (k : Nat) (u2 : Bu) (vT' vr : Value), k ≤ s.l.length ∧ s.l.length - k ≤ gg ∧ v23 = .int .i64 k ∧ u2.ts.length ≤ u.ts.length + k ∧ Aside0 (symbolsB rs (s.l.drop k) k u2.ts = R) ∧ Aside0 (SS W1 w b m x rs B mt mn vT vT' vN vS u2 g0 g1 (.slice A s.l.length c) s.at_ vr (left :: (s.l.take k).map (·.s)) wr) ∧ Aside0 (u2.ns = u.ns ∧ u2.rs = u.rs))
  case atStart => exact ⟨0, u, vT, _, by omega, by omega, rfl, by omega, ⟨by rw [List.drop_zero]; exact HR0.out⟩, HS0, ⟨rfl, rfl⟩⟩
  case round =>
    clear HR0 HS0
    obtain ⟨k, u2, vT', vr, hk, hgg, rfl, hlen, HR, HS, HEU⟩ := hrel
    have hdl := HLL.out
    have hul := HUL.out
    by_cases hlt : (k : Int) < (s.l.length : Int)
    · have hkl : k < s.l.length := by omega
      obtain ⟨t, l2, hdr⟩ : ∃ t l2, s.l.drop k = t :: l2 := ⟨_, _, List.drop_eq_getElem_cons hkl⟩
      have hr2 : s.l.drop (k + 1) = l2 := by rw [← List.drop_drop, hdr]; rfl
      have hgt : s.l.getD k default = t := by rw [List.getD_eq_getElem?_getD, ← List.head?_drop, hdr]; rfl
      have htk : s.l.take (k + 1) = s.l.take k ++ [t] := by rw [List.take_add_one, ← List.head?_drop, hdr]; rfl
      have HTK := Aside0.mk htk
      have HDR := Aside0.mk hr2
      have HSZT : Aside0 (t.s.size ≤ 10000) := ⟨HSZ.out t (List.mem_of_mem_drop (hdr ▸ List.mem_cons_self : t ∈ s.l.drop k))⟩
      obtain ⟨ad, ea, k0, k1, k2⟩ := at_tok (Kd.C_below HC.out HS.out.hb.below) k hkl
      subst ea
      rw [hgt] at k0 k1 k2
      rw [hdr, symbols_step] at HR
      have HSA := Aside0.mk (HS.out.later (below_alloc (Below.refl _ _) (.cells #[.int .i64 t.k, .string t.s, .int .i64 t.at_] 85 (0, 0))))
      have HSY := Aside0.mk (b_symbol HSA.out.hb t HSZT.out k (by omega))
      have HBT := Aside0.mk (blk_new wr (.cells #[.int .i64 t.k, .string t.s, .int .i64 t.at_] 85 (0, 0)))
      have HGN : Aside0 (wr.heap.size ≠ B ∧ wr.heap.size ≠ mt ∧ some wr.heap.size ≠ vT'.ownBlock) := ⟨by have := blk_lt HS.out.hb.blk; omega, by obtain ⟨_, _, _, hm, _⟩ := HS.out.hb.mt_; have := hm.lt; omega, fun e => by have := Kd.R_lt HS.out.hb.ts _ e.symm; omega⟩
      unfold tkV at HSY
      clear HS hdr hr2 hgt htk
      cases hS : symbolB rs t k u2.ts with
      | error f =>
        rw [hS] at HSY HR
        have HRE : Aside0 (sideB rs left s u = .error f) := ⟨by rw [HRV.out, ← HR.out]; rfl⟩
        clear hS HR
        go_wp2_with (go_at_call 101; ((with_reducible refine HSY.out.mono ?_); rintro e w2 ⟨⟨older, rfl, ho⟩, vT2, u3, hb, hf⟩))
        refine ⟨rfl, ?_⟩
        rw [HRE.out]
        exact ⟨⟨older, rfl, ho⟩, hb.below⟩
      | ok ts' =>
        have HTL := Aside0.mk (symbol_len hS)
        rw [hS] at HSY HR
        clear hS
        go_wp2_with (first
          | (go_at_call 101; ((with_reducible refine HSY.out.mono ?_); rintro e w2 ⟨rfl, vT2, h3, h4⟩; have HS2 := Aside0.mk (HSA.out.symbol h3 h4); have HBT2 := Aside0.mk ((h4.block wr.heap.size (by simp) HGN.out.1 HGN.out.2.1 HGN.out.2.2).trans HBT.out); have q0 : w2.cell? ⟨g1, 0, none⟩ = some vr := (blk_cell HS2.out.bk1 0).trans rfl; have q1 : w2.cell? ⟨wr.heap.size, 1, none⟩ = some (.string t.s) := (blk_cell HBT2.out 1).trans rfl; clear h3 h4 HSY))
          | (at_builtin; go_loud (refine Kd.R_append Kd.string (w0 := w2) w.heap.size rfl (.tmp 32) (.tmp 35) 22 9 (.string ⟨#[]⟩) 16 rfl Tryz.underlying22 info9 rfl (by decide) (by omega) vr (left :: (s.l.take k).map (·.s)) t.s [.string t.s] (fun k => some k ≠ vT2.ownBlock) (fun _ => False) rfl ?aX ?aP (fun _ hk => hk.elim) ?aF ?aO ?aB ?aS ?aL ?_); (case aX => simp [Act.eval]); (case aP => exact rfl); (case aF => exact (fun k hk e => by have := Kd.R_lt HS2.out.hb.ts k e.symm; omega)); (case aO => exact HS2.out.rule); (case aB => exact Below.refl _ _); (case aS => exact HS2.out.fr.size); (case aL => simp only [List.length_cons, List.length_map, List.length_take]; omega); intro v1 w4 ho hb hg hat; obtain ⟨An, cn, en⟩ := Kd.R_slice ho; obtain ⟨N, hN⟩ : ∃ N, (left :: (s.l.take k).map (·.s) ++ [t.s]).length = N := ⟨_, rfl⟩; rw [hN] at en; have HA := Aside0.mk (HS2.out.app ho hg); have f0 := (blk_cell HA.out.1 0).trans rfl; have f1 := blk_frozen HA.out.1 0; subst en; clear ho hb hg hat q0 q1 hN))
        go_roundg (s.l.length - (k + 1))
        case measure => omega
        case rel => exact ⟨k + 1, { u2 with ts := ts' }, vT2, _, by omega, Nat.le_refl _, (by first | go_num | exact congrArg (Value.int IntKind.i64) (show wrap64 ((k : Int) + 1) = ((k + 1 : Nat) : Int) from by unfold wrap64; omega)), by have := HTL.out; show ts'.length ≤ _; omega, ⟨by rw [HDR.out]; exact HR.out⟩, ⟨by rw [HTK.out, List.map_append]; exact HA.out.2⟩, HEU⟩
    · obtain rfl : k = s.l.length := by omega
      rw [List.drop_length] at HR
      rw [List.take_length] at HS
      obtain ⟨rule, hrule⟩ : ∃ rule, left :: s.l.map (·.s) = rule := ⟨_, rfl⟩
      rw [hrule] at HS
      have hrl : rule.length = s.l.length + 1 := by rw [← hrule]; simp
      have HRU := Aside0.mk hrule
      have HRS : Aside0 (R = .ok u2.ts) := ⟨HR.out.symm⟩
      have HU2 : Aside0 ({ u with ts := u2.ts, rs := u.rs ++ [rule] } = ({ u2 with rs := u2.rs ++ [rule] } : Bu)) := ⟨by rw [← HEU.out.2, ← HEU.out.1]⟩
      have HL : Aside0 (u2.rs.length < 300) := ⟨by rw [HEU.out.2]; exact HL0.out⟩
      obtain ⟨Ar, cr, er, lr, Cr⟩ := Kd.R_reads HS.out.rule
      subst er
      obtain ⟨As, cs, es, ls, Cs⟩ := Kd.R_reads HS.out.hb.rs_
      have hPV := same_V (w := wr) (g := g1) (A := Ar) (c := cr) (r := rule) HS.out.bk1 Cr (by omega)
      obtain ⟨gf, lb, e1, eg, hcall⟩ := hPV
      have HCO := Aside0.mk (contains_strs (c := cs) (fv := .func (.func 103) #[] #[.pointer (some ⟨g1, 0, none⟩)]) (p := fun y => decide (rule = y)) Cs (by have := HL.out; omega) ⟨gf, lb, e1, eg, fun W y v hW hV => hcall W y v hW hV.1⟩)
      have c7 : wr.cell? ⟨B, 7, none⟩ = some (.slice As u2.rs.length cs) := (HS.out.hb.cells.2.2.2.2.2).trans (congrArg some es)
      clear HR hrule hrl lr Cr es ls Cs e1 eg hcall hlt
      cases hq : u2.rs.any (fun y => decide (rule = y)) with
      | true =>
        have HRE : Aside0 (sideB rs left s u = .error (8, s.at_)) := ⟨by rw [HRV.out, HRS.out]; unfold sideC; rw [HRU.out, ← HEU.out.2]; exact if_pos hq⟩
        rw [hq] at HCO
        clear hq
        go_wp2_with (first
          | (go_at_call 102; ((with_reducible refine HCO.out.mono ?_); rintro e w2 ⟨rfl, hb⟩; have HS2 := Aside0.mk (HS.out.later hb); have q2 : w2.cell? ⟨g0, 1, none⟩ = some (.int .i64 s.at_) := (blk_cell HS2.out.bk0 1).trans rfl; clear hb c7))
          | (go_at_call 99; ((with_reducible refine (gread_fail _ _ _).mono ?_); rintro e w' ⟨⟨older, rfl, ho⟩, rfl⟩)))
        refine ⟨rfl, ?_⟩
        rw [HRE.out]
        exact ⟨⟨older, rfl, ho⟩, HS2.out.hb.below⟩
      | false =>
        have HRE : Aside0 (sideB rs left s u = .ok { u with ts := u2.ts, rs := u.rs ++ [rule] }) := ⟨by rw [HRV.out, HRS.out]; unfold sideC; rw [HRU.out, ← HEU.out.2]; exact if_neg (by rw [hq]; simp)⟩
        rw [hq] at HCO
        clear hq
        go_wp2_with (go_at_call 102; ((with_reducible refine HCO.out.mono ?_); rintro e w2 ⟨rfl, hb⟩; have HS2 := Aside0.mk (HS.out.later hb); clear hb c7))
        have n1_ := Aside0.mk (HS2.out.later (below_drew (Below.refl _ _)))
        clear HS HS2 HCO
        have HS := n1_
        clear n1_
        have hg1w : w.heap.size ≤ g1 := by have := HG1.out; omega
        refine start_ (n := 11) (S := fun w' => w'.cell? ⟨B, 7, none⟩ = some vS ∧ w'.cell? ⟨g1, 0, none⟩ = some (.slice Ar rule.length cr)) (ds := [10]) #[false, false, false, false, false, false, false, false, false, false, false] (by kernel_rfl) rfl rfl ⟨HS.out.hb.cells.2.2.2.2.2, (blk_cell HS.out.bk1 0).trans rfl⟩ (fun hHeld => ?_)
        refine with_tabW bs12Tab bs12Bits (fun HT_ HW_ => ?_)
        generalize World.drew _ = w5 at HS hHeld ⊢
        refine pure_ (i := 0) (N := (some 47)) (v := ?_) (a' := ?_) #[true, false, false, false, false, false, false, false, false, false, false] rfl rfl (any_of HT_.out (by kernel_rfl)) (fun _ _ _ h => h) (Or.inl ⟨by rfl, ?_⟩) ?_ ?_
        rotate_left
        · intro w'
          go_simp
          with_reducible rfl
        rotate_left
        · simp only [Act.put, List.setIfInBounds_toArray, List.set_cons_zero, List.set_cons_succ, i64_w, i32_w]
          rfl
        refine pure_ (i := 1) (N := (some 48)) (v := ?_) (a' := ?_) #[true, true, false, false, false, false, false, false, false, false, false] rfl rfl (any_of HT_.out (by kernel_rfl)) (fun _ _ _ h => h) (Or.inl ⟨by rfl, ?_⟩) ?_ ?_
        rotate_left
        · intro w'
          go_simp
          with_reducible rfl
        rotate_left
        · simp only [Act.put, List.setIfInBounds_toArray, List.set_cons_zero, List.set_cons_succ, i64_w, i32_w]
          rfl
        refine pure_ (i := 2) (N := (some 49)) (v := ?_) (a' := ?_) #[true, true, true, false, false, false, false, false, false, false, false] rfl rfl (any_of HT_.out (by kernel_rfl)) (fun _ _ _ h => h) (Or.inl ⟨by rfl, ?_⟩) ?_ ?_
        rotate_left
        · intro w'
          go_simp
          with_reducible rfl
        rotate_left
        · simp only [Act.put, List.setIfInBounds_toArray, List.set_cons_zero, List.set_cons_succ, i64_w, i32_w]
          rfl
        refine pure_ (i := 3) (N := (some 50)) (v := ?_) (a' := ?_) #[true, true, true, true, false, false, false, false, false, false, false] rfl rfl (any_of HT_.out (by kernel_rfl)) (fun _ _ _ h => h) (Or.inl ⟨by rfl, ?_⟩) ?_ ?_
        rotate_left
        · intro w'
          go_simp
          with_reducible rfl
        rotate_left
        · simp only [Act.put, List.setIfInBounds_toArray, List.set_cons_zero, List.set_cons_succ, i64_w, i32_w]
          rfl
        refine take_ (i := 4) (N := (some 51)) (v := ?_) (a' := ?_) #[true, true, true, true, true, false, false, false, false, false, false] rfl rfl (take_ofW HT_.out HW_.out (by kernel_rfl)) (fun _ _ _ h => h) (Or.inl ⟨by rfl, ?_⟩) hHeld ?_ ?_
        rotate_left
        · rintro w' ⟨s0, s1⟩
          go_simp
          with_reducible rfl
        rotate_left
        · simp only [Act.put, List.setIfInBounds_toArray, List.set_cons_zero, List.set_cons_succ, i64_w, i32_w]
          rfl
        refine take_ (i := 5) (N := (some 52)) (v := ?_) (a' := ?_) #[true, true, true, true, true, true, false, false, false, false, false] rfl rfl (take_ofW HT_.out HW_.out (by kernel_rfl)) (fun _ _ _ h => h) (Or.inl ⟨by rfl, ?_⟩) hHeld ?_ ?_
        rotate_left
        · rintro w' ⟨s0, s1⟩
          go_simp
          with_reducible rfl
        rotate_left
        · simp only [Act.put, List.setIfInBounds_toArray, List.set_cons_zero, List.set_cons_succ, i64_w, i32_w]
          rfl
        refine one_ (i := 6) (N := (some 53)) #[true, true, true, true, true, true, true, false, false, false, false] rfl rfl (one_of HT_.out (by kernel_rfl)) (by decide) (fun K hK => ?_)
        have hM := SS.made HS.out
        refine Kd.R_lit_step kStrs (w0 := w5) W1.heap.size 22 ?hg (N := 53) ?hd (xs := [rule]) (inner := [.slice Ar rule.length cr]) (ok := fun k => (some k ≠ vN.ownBlock ∧ some k ≠ vT'.ownBlock) ∧ some k ≠ vS.ownBlock) (okp := fun k => (some k ≠ vN.ownBlock ∧ some k ≠ vT'.ownBlock) ∧ some k ≠ vS.ownBlock) ?hr ?hp (fun _ hk => hk) ⟨⟨fun he => by have := Kd.R_lt HS.out.ns _ he.symm; omega, fun he => by have := Kd.R_lt HS.out.hb.ts _ he.symm; omega⟩, fun he => by have := Kd.R_lt HS.out.rs_ _ he.symm; omega⟩ (Below.refl _ _) HS.out.hb.below.size (by simp) ?_; (case hd => rfl); (case hg => rfl); (case hr => first | (go_simp; done) | (go_simp; rfl)); (case hp => exact (Reps.snoc (Reps.none _ _) hM rfl))
        intro vL w7 ho hb hg hnew
        obtain ⟨A8, c8, e8, C8⟩ := lits_rows ho
        subst e8
        have hgn := grown_none hg
        have n1_ := Aside0.mk (HS.out.later hgn)
        have HX := Aside0.mk C8
        clear HS hM ho hb hg hnew C8 hgn
        have HS := n1_
        clear n1_
        refine hK.out _ _ ⟨HS.out.hb.cells.2.2.2.2.2, (blk_cell HS.out.bk1 0).trans rfl⟩ (fun hHeld => ?_)
        clear hK K
        refine norm_ (a' := ?_) ?_ ?_
        rotate_left
        · show Act.put _ (some 53) _ = _
          simp only [Act.put, List.setIfInBounds_toArray, List.set_cons_zero, List.set_cons_succ, i64_w, i32_w]
          rfl
        refine one_ (i := 7) (N := (some 54)) #[true, true, true, true, true, true, true, true, false, false, false] rfl rfl (one_of HT_.out (by kernel_rfl)) (by decide) (fun K hK => ?_)
        refine Kd.R_append_rows_step kStrs (w0 := w7) W1.heap.size (by rfl) (.tmp 51) (.tmp 53) 64 22 (.slice none 0 0) 24 rfl Tryz.underlying64 infoStrs rfl (by decide) (by omega) vS u2.rs [rule] _ _ _ (fun k => some k ≠ vN.ownBlock ∧ some k ≠ vT'.ownBlock) (fun k => (some k ≠ vN.ownBlock ∧ some k ≠ vT'.ownBlock) ∧ some k ≠ vS.ownBlock) rfl rfl HS.out.hb.rs_ HX.out (fun p cs hp => kStrs.M_mono (fun k hk => hk.1) hp) (fun _ h => h) (fun k hk => ⟨fun he => by have := Kd.R_lt HS.out.ns _ he.symm; omega, fun he => by have := Kd.R_lt HS.out.hb.ts _ he.symm; omega⟩) (Below.refl _ _) HS.out.hb.below.size ?aL ?_
        case aL => have := HL.out; simp only [List.length_cons, List.length_nil]; omega
        intro vX w8 ho hb hg hat
        have HP := Aside0.mk (HS.out.hb.putS ho hg)
        have HF2 := Aside0.mk (Fr2.put HS.out.fr HS.out.rs_ hg hat (B := B))
        have HR1 := Aside0.mk (blk_grown HS.out.bk1 hg (SS.ne1 HS.out))
        have HSL := Aside0.mk (Kd.R_slice ho)
        clear HS HX ho hb hg hat
        refine hK.out _ _ ⟨(blk_cell HP.out.1 7).trans rfl, (blk_cell HR1.out 0).trans rfl⟩ (fun hHeld => ?_)
        clear hK K
        refine norm_ (a' := ?_) ?_ ?_
        rotate_left
        · show Act.put _ (some 54) _ = _
          simp only [Act.put, List.setIfInBounds_toArray, List.set_cons_zero, List.set_cons_succ, i64_w, i32_w]
          rfl
        refine pure_ (i := 8) (N := (some 55)) (v := ?_) (a' := ?_) #[true, true, true, true, true, true, true, true, true, false, false] rfl rfl (any_of HT_.out (by kernel_rfl)) (fun _ _ _ h => h) (Or.inl ⟨by rfl, ?_⟩) ?_ ?_
        rotate_left
        · intro w'
          go_simp
          with_reducible rfl
        rotate_left
        · simp only [Act.put, List.setIfInBounds_toArray, List.set_cons_zero, List.set_cons_succ, i64_w, i32_w]
          rfl
        refine pure_ (i := 9) (N := (some 56)) (v := ?_) (a' := ?_) #[true, true, true, true, true, true, true, true, true, true, false] rfl rfl (any_of HT_.out (by kernel_rfl)) (fun _ _ _ h => h) (Or.inl ⟨by rfl, ?_⟩) ?_ ?_
        rotate_left
        · intro w'
          go_simp
          with_reducible rfl
        rotate_left
        · simp only [Act.put, List.setIfInBounds_toArray, List.set_cons_zero, List.set_cons_succ, i64_w, i32_w]
          rfl
        refine last_ (i := 10) (N := none) #[true, true, true, true, true, true, true, true, true, true, true] rfl rfl (one_of HT_.out (by kernel_rfl)) (by decide) (fun K hK => ?_)
        have f0 := (blk_cell HP.out.1 7).trans rfl
        have f1 := blk_frozen HP.out.1 7
        refine skip_ (by rfl) rfl (w1 := w8.setCell ⟨B, 7, none⟩ vX) ?hrun ?_; (case hrun => obtain ⟨An, cn, en⟩ : ∃ An cn, vX = .slice An (u2.rs ++ [rule]).length cn := HSL.out; subst en; first | (go_simp; done) | (go_simp; rfl))
        have HB := Aside0.mk HP.out.2
        have HF := Aside0.mk (HF2.out vX)
        clear f0 f1 HP HF2 HR1 HSL
        refine hK.out _ _ ?_
        clear hK K
        refine done_ (done_of HT_.out (by kernel_rfl)) ?_
        go_wp2
        (first | go_end0 | refine bodyPost_ret (results_none rfl _ _ _) rfl ?_)
        rw [HRE.out]
        refine ⟨rfl, _, _, ?_, HF.out⟩
        have := HB.out
        rw [HU2.out]
        exact this
end Go.Proofs.YtliofoikejdjeaaGreat
/- gread's builder: a side, whole. -/
namespace Go.Proofs.YtliofoikejdjeaaGreat
open Go.RowKit Go.Proofs.YtliofoikejdjeaaGreatW.PrintWords
set_option linter.unusedVariables false
set_option linter.unusedSimpArgs false
set_option maxHeartbeats 4000000 in
set_option maxRecDepth 100000 in
theorem b_side_full {W1 w : World} {b m : Nat} {x : Hd} {rs : List Ru} {B mt mn : Nat} {vT vN vS : Value} {u : Bu} (h : BS W1 w b m x rs B mt mn vT vN vS u u.ts u.ns) (left : ByteArray) (s : Sd) {A : Option Addr} {c : Nat} (hrs : 300 ≤ u.rs.length) :
    Calls Tryz.prog 65 #[.pointer (some ⟨B, 0, none⟩), .string left, .agg #[.slice A s.l.length c, .int .i64 s.at_]] w (SideEnd W1 w b m x rs B mt mn vT vN vS (sideB rs left s u)) := by
  have HRE : Aside0 (sideB rs left s u = .error (7, s.at_)) := ⟨by unfold sideB; exact if_pos hrs⟩
  obtain ⟨Av, cv, ev⟩ := Kd.R_slice h.rs_
  have hb1 := below_alloc (Below.refl w.heap.size w) (.cells #[.slice A s.l.length c, .int .i64 s.at_] 96 (0, 0))
  have HB := Aside0.mk (h.later hb1)
  have cS : (w.alloc (.cells #[.slice A s.l.length c, .int .i64 s.at_] 96 (0, 0))).cell? ⟨B, 7, none⟩ = some (.slice Av u.rs.length cv) := (HB.out.cells.2.2.2.2.2).trans (congrArg some ev)
  have cA : (w.alloc (.cells #[.slice A s.l.length c, .int .i64 s.at_] 96 (0, 0))).cell? ⟨w.heap.size, 1, none⟩ = some (.int .i64 s.at_) := (blk_cell (blk_new w _) 1).trans rfl
  have hrz : (300 : Int) ≤ (u.rs.length : Int) := by omega
  clear h hrs hb1 ev
  go_enter Tryz.func65, Tryz.ntmps65
  go_wp2_with (go_at_call 99; ((with_reducible refine (gread_fail _ _ _).mono ?_); rintro e w' ⟨⟨older, rfl, ho⟩, rfl⟩))
  refine ⟨rfl, ?_⟩
  rw [HRE.out]
  exact ⟨⟨older, rfl, ho⟩, HB.out.below⟩
theorem b_side {W1 w : World} {b m : Nat} {x : Hd} {rs : List Ru} {B mt mn : Nat} {vT vN vS : Value} {u : Bu} (h : BS W1 w b m x rs B mt mn vT vN vS u u.ts u.ns) (left : ByteArray) (s : Sd) {A : Option Addr} {c : Nat} (hC : Kd.C kTk W1 A s.l.length s.l) (hsz : ∀ t ∈ s.l, t.s.size ≤ 10000) (hl : s.l.length ≤ 10000) (hu : u.ts.length ≤ 10000) :
    Calls Tryz.prog 65 #[.pointer (some ⟨B, 0, none⟩), .string left, .agg #[.slice A s.l.length c, .int .i64 s.at_]] w (SideEnd W1 w b m x rs B mt mn vT vN vS (sideB rs left s u)) := by
  by_cases hrs : 300 ≤ u.rs.length
  · exact b_side_full h left s hrs
  · exact b_side_put h left s hC hsz hl hu (by omega)
end Go.Proofs.YtliofoikejdjeaaGreat
/- gram.Find. -/
namespace Go.Proofs.YtliofoikejdjeaaGreat
open Go.RowKit Go.Proofs.YtliofoikejdjeaaGreatW.PrintWords
set_option linter.unusedVariables false
set_option linter.unusedSimpArgs false
theorem find_ge (xs : List ByteArray) (s : ByteArray) : -1 ≤ placeS xs s ∧ placeS xs s < xs.length := by
  unfold placeS idxF
  cases h : xs.findIdx? (fun x => decide (x = s)) with
  | none => simp; omega
  | some i =>
    have := (List.findIdx?_eq_some_iff_getElem.1 h).1
    simp only
    omega
set_option maxHeartbeats 2000000 in
set_option maxRecDepth 100000 in
theorem gram_find {w : World} {A0 A1 : Option Addr} {c0 c1 : Nat} {ts ns : List ByteArray} {v2 v3 : Value} (s : ByteArray) (ht : Kd.C Kd.string w A0 ts.length ts) (hn : Kd.C Kd.string w A1 ns.length ns) (lt : ts.length ≤ 100000) (ln : ns.length ≤ 100000) :
    Calls Tryz.prog 66 #[.agg #[.slice A0 ts.length c0, .slice A1 ns.length c1, v2, v3], .string s] w fun e w' => e = .returned (.int .i64 (findB ts ns s)) ∧ w' = w.alloc (.cells #[.slice A0 ts.length c0, .slice A1 ns.length c1, v2, v3] 25 (0, 0)) := by
  have hb := below_alloc (Below.refl w.heap.size w) (.cells #[.slice A0 ts.length c0, .slice A1 ns.length c1, v2, v3] 25 (0, 0))
  have HT := Aside0.mk (index_str (c := c0) s (Kd.C_below ht hb) (by omega))
  have HN := Aside0.mk (index_str (c := c1) s (Kd.C_below hn hb) (by omega))
  obtain ⟨q, hq⟩ : ∃ q, placeS ts s = q := ⟨_, rfl⟩
  obtain ⟨p, hp⟩ : ∃ p, placeS ns s = p := ⟨_, rfl⟩
  have q1 := find_ge ts s
  have p1 := find_ge ns s
  rw [hq] at HT q1
  rw [hp] at HN p1
  by_cases h0 : 0 ≤ q
  · have HR : Aside0 (findB ts ns s = q + 1) := ⟨by unfold findB; rw [hq, if_pos h0]⟩
    have hw1 : wrap64 (q + 1) = q + 1 := by unfold wrap64; omega
    clear hq hp hb ht hn
    go_enter Tryz.func66, Tryz.ntmps66
    go_wp2_with (go_at_call 105; refine HT.out.mono ?_; rintro e w' ⟨rfl, rfl⟩)
    go_ret
    exact ⟨by rw [HR.out]; rfl, rfl⟩
  · by_cases h1 : 0 ≤ p
    · have HR : Aside0 (findB ts ns s = ts.length + p + 1) := ⟨by unfold findB; rw [hq, hp, if_neg h0, if_pos h1]⟩
      have hw1 : wrap64 ((ts.length : Int) + p) = (ts.length : Int) + p := by unfold wrap64; omega
      have hw2 : wrap64 ((ts.length : Int) + p + 1) = (ts.length : Int) + p + 1 := by unfold wrap64; omega
      clear hq hp hb ht hn
      go_enter Tryz.func66, Tryz.ntmps66
      go_wp2_with (go_at_call 105; first | ((with_reducible refine HT.out.mono ?_); rintro e w' ⟨rfl, rfl⟩) | ((with_reducible refine HN.out.mono ?_); rintro e w' ⟨rfl, rfl⟩))
      go_ret
      exact ⟨by rw [HR.out]; rfl, rfl⟩
    · have HR : Aside0 (findB ts ns s = 0) := ⟨by unfold findB; rw [hq, hp, if_neg h0, if_neg h1]⟩
      clear hq hp hb ht hn
      go_enter Tryz.func66, Tryz.ntmps66
      go_wp2_with (go_at_call 105; first | ((with_reducible refine HT.out.mono ?_); rintro e w' ⟨rfl, rfl⟩) | ((with_reducible refine HN.out.mono ?_); rintro e w' ⟨rfl, rfl⟩))
      go_ret
      exact ⟨by rw [HR.out]; rfl, rfl⟩
end Go.Proofs.YtliofoikejdjeaaGreat
/- gread's builder: what build keeps. -/
namespace Go.Proofs.YtliofoikejdjeaaGreat
open Go.RowKit Go.Proofs.YtliofoikejdjeaaGreatW.PrintWords
set_option linter.unusedVariables false
set_option linter.unusedSimpArgs false
theorem at_sd {w : World} {A : Option Addr} {n : Nat} {xs : List Sd} (h : Kd.C kSd w A n xs) (i : Nat) (h1 : i < n) : ∃ ad A1 c1, A = some ad ∧ w.cell? (ad.add (i * 2)) = some (.slice A1 (xs.getD i default).l.length c1) ∧ w.cell? ⟨(ad.add (i * 2)).block, (ad.add (i * 2)).off + 1, none⟩ = some (.int .i64 (xs.getD i default).at_) ∧ Kd.C kTk w A1 (xs.getD i default).l.length (xs.getD i default).l := by
  obtain ⟨ad, c, e, _, hK, hc0⟩ := Kd.C_get h (default : Sd) (i : Int) (by omega) (by omega)
  have hc : ∀ j u, c[j]? = some u → w.cell? (ad.add (i * 2 + j)) = some u := hc0
  obtain ⟨A1, c1, e2, _, g1⟩ := kSd_open (by simpa using hK)
  subst e2
  exact ⟨ad, A1, c1, e, hc 0 _ rfl, by rw [← add_field _ _ 1 (by omega)]; exact hc 1 _ rfl, g1⟩
theorem at_ru {w : World} {A : Option Addr} {n : Nat} {xs : List Ru} (h : Kd.C kRu w A n xs) (i : Nat) (h1 : i < n) : ∃ ad A1 c1, A = some ad ∧ w.cell? (ad.add (i * 4)) = some (.int .i64 (xs.getD i default).left.k) ∧ w.cell? ⟨(ad.add (i * 4)).block, (ad.add (i * 4)).off + 1, none⟩ = some (.string (xs.getD i default).left.s) ∧ w.cell? ⟨(ad.add (i * 4)).block, (ad.add (i * 4)).off + 2, none⟩ = some (.int .i64 (xs.getD i default).left.at_) ∧ w.cell? ⟨(ad.add (i * 4)).block, (ad.add (i * 4)).off + 3, none⟩ = some (.slice A1 (xs.getD i default).sides.length c1) ∧ Kd.C kSd w A1 (xs.getD i default).sides.length (xs.getD i default).sides := by
  obtain ⟨ad, c, e, _, hK, hc0⟩ := Kd.C_get h (default : Ru) (i : Int) (by omega) (by omega)
  have hc : ∀ j u, c[j]? = some u → w.cell? (ad.add (i * 4 + j)) = some u := hc0
  obtain ⟨A1, c1, e2, _, g1⟩ := kRu_open (by simpa using hK)
  subst e2
  exact ⟨ad, A1, c1, e, hc 0 _ rfl, by rw [← add_field _ _ 1 (by omega)]; exact hc 1 _ rfl, by rw [← add_field _ _ 2 (by omega)]; exact hc 2 _ rfl, by rw [← add_field _ _ 3 (by omega)]; exact hc 3 _ rfl, g1⟩
section
variable {W1 w w1 : World} {b m : Nat} {x : Hd} {rs : List Ru} {B mt mn : Nat} {vT vN vS v' s' : Value} {u : Bu} {tm nm : List ByteArray} {g : Nat} {cs : Array Value} {q : Nat}
theorem BS.neB (h : BS W1 w b m x rs B mt mn vT vN vS u tm nm) (hk : w.heap[g]? = some (.cells cs q (0, 0))) (hq : q ≠ 66) : g ≠ B := fun e => by
  subst e
  have := h.blk
  rw [hk] at this
  injection this with this
  injection this with _ this
  exact hq this
/-- A block of another type stays: behind term, left, side, heads. -/
theorem BS.keepT (h : BS W1 w b m x rs B mt mn vT vN vS u tm nm) (hf : Fr B mt vT v' w w1) (hk : w.heap[g]? = some (.cells cs q (0, 0))) (hq : q ≠ 66) (hq2 : 9 ≠ q) : w1.heap[g]? = some (.cells cs q (0, 0)) := by
  obtain ⟨n, f, c, hm, _⟩ := h.mt_
  exact (hf.block g (blk_lt hk) (h.neB hk hq) (fun e => hm.ne hk e.symm) (Kd.R_ne h.ts hk hq2)).trans hk
theorem BS.keepN (h : BS W1 w b m x rs B mt mn vT vN vS u tm nm) (hf : Fr B mn vN v' w w1) (hk : w.heap[g]? = some (.cells cs q (0, 0))) (hq : q ≠ 66) (hq2 : 9 ≠ q) : w1.heap[g]? = some (.cells cs q (0, 0)) := by
  obtain ⟨n, f, c, hm, _⟩ := h.mn_
  exact (hf.block g (blk_lt hk) (h.neB hk hq) (fun e => hm.ne hk e.symm) (Kd.R_ne h.ns hk hq2)).trans hk
theorem BS.keepS (h : BS W1 w b m x rs B mt mn vT vN vS u tm nm) (hf : Fr2 B mt vT v' vS s' w w1) (hk : w.heap[g]? = some (.cells cs q (0, 0))) (hq : q ≠ 66) (hq2 : 9 ≠ q) (hq3 : 22 ≠ q) : w1.heap[g]? = some (.cells cs q (0, 0)) := by
  obtain ⟨n, f, c, hm, _⟩ := h.mt_
  exact (hf.block g (blk_lt hk) (h.neB hk hq) (fun e => hm.ne hk e.symm) (Kd.R_ne h.ts hk hq2) (Kd.R_ne h.rs_ hk hq3)).trans hk
end
end Go.Proofs.YtliofoikejdjeaaGreat
/- gread's builder: the state while the grammar is made. -/
namespace Go.Proofs.YtliofoikejdjeaaGreat
open Go.RowKit Go.Proofs.YtliofoikejdjeaaGreatW.PrintWords
set_option linter.unusedVariables false
set_option linter.unusedSimpArgs false
theorem infoRl : (Tryz.prog.info? 40).map (fun i => (i.zero, i.size, i.bytes)) = some (some (.agg #[.int .i64 0, .slice none 0 0]), 2, 32) := by kernel_rfl
theorem kRl_M {w : World} {base : Nat} {ok : Nat → Prop} {x : Rl} {v : Value} (h : Kd.R (Kd.int .i64) 3 w base ok v x.right) : kRl.M w base ok x [.int .i64 x.left, v] := ⟨[.int .i64 x.left], [v], rfl, rfl, v, rfl, h⟩
/-- A row of numbers has no rows of its own. -/
theorem R_flatI {w : World} {e base : Nat} {ok ok' : Nat → Prop} {v : Value} {xs : List Int} (h : Kd.R (Kd.int .i64) e w base ok v xs) (hk : ∀ k, v.ownBlock = some k → ok' k) : Kd.R (Kd.int .i64) e w base ok' v xs := ⟨hk, h.2⟩
structure GS (W1 w : World) (b m : Nat) (x : Hd) (rs : List Ru) (B : Nat) (v1 v2 vT vN vR : Value) (st : Int) (vS : Value) (u : Bu) (rr : List Rl) : Prop where
  rd : RdR W1 b m x rs
  below : Below W1.heap.size W1 w
  hB : W1.heap.size ≤ B
  blk : w.heap[B]? = some (.cells #[.pointer (some ⟨b, 0, none⟩), v1, v2, vT, vN, vR, .int .i64 st, vS] 66 (0, 0))
  ts : Kd.R Kd.string 9 w W1.heap.size (fun _ => True) vT u.ts
  ns : Kd.R Kd.string 9 w W1.heap.size (fun _ => True) vN u.ns
  rs_ : Kd.R kStrs 22 w W1.heap.size (fun _ => True) vS u.rs
  rules : Kd.R kRl 40 w W1.heap.size (fun _ => True) vR rr
section
variable {W1 w w1 : World} {b m : Nat} {x : Hd} {rs : List Ru} {B : Nat} {v1 v2 vT vN vR vS : Value} {st : Int} {u : Bu} {rr : List Rl}
theorem BS.gs {mt mn : Nat} {tm nm : List ByteArray} (h : BS W1 w b m x rs B mt mn vT vN vS u tm nm) : GS W1 w b m x rs B (.map (some mt)) (.map (some mn)) vT vN (.slice none 0 0) 0 vS u [] :=
  ⟨h.rd, h.below, h.hB, h.blk, Kd.R_mono h.ts (fun _ _ => trivial), Kd.R_mono h.ns (fun _ _ => trivial), Kd.R_mono h.rs_ (fun _ _ => trivial), Kd.R_nil kRl _ _ _ _⟩
theorem GS.later (h : GS W1 w b m x rs B v1 v2 vT vN vR st vS u rr) (hb : Below w.heap.size w w1) : GS W1 w1 b m x rs B v1 v2 vT vN vR st vS u rr :=
  ⟨h.rd, h.below.trans (hb.mono h.below.size), h.hB, blk_below h.blk hb, Kd.R_below h.ts hb, Kd.R_below h.ns hb, Kd.R_below h.rs_ hb, Kd.R_below h.rules hb⟩
/-- A rule more. -/
theorem GS.putR (h : GS W1 w b m x rs B v1 v2 vT vN vR st vS u rr) {vR' : Value} {rr' : List Rl} (ho : Kd.R kRl 40 w1 W1.heap.size (fun _ => True) vR' rr') (hg : w.grownBy w1 vR.ownBlock) :
    w1.heap[B]? = some (.cells #[.pointer (some ⟨b, 0, none⟩), v1, v2, vT, vN, vR, .int .i64 st, vS] 66 (0, 0)) ∧ GS W1 (w1.setCell ⟨B, 5, none⟩ vR') b m x rs B v1 v2 vT vN vR' st vS u rr' := by
  have hk := blk_grown h.blk hg (Kd.R_ne h.rules h.blk (by decide))
  exact ⟨hk, h.rd, (Below.grown h.below hg h.below.size (fun k hk => Kd.R_base h.rules k hk)).setCell (p := ⟨B, 5, none⟩) h.hB vR', h.hB, blk_set hk 5 vR', Kd.R_set (Kd.R_over h.ts h.rules (by decide) hg) hk (by decide) 5 vR', Kd.R_set (Kd.R_over h.ns h.rules (by decide) hg) hk (by decide) 5 vR', Kd.R_set (Kd.R_over h.rs_ h.rules (by decide) hg) hk (by decide) 5 vR', Kd.R_set ho hk (by decide) 5 vR'⟩
/-- The start's number. -/
theorem GS.putSt (h : GS W1 w b m x rs B v1 v2 vT vN vR st vS u rr) (st' : Int) : GS W1 (w.setCell ⟨B, 6, none⟩ (.int .i64 st')) b m x rs B v1 v2 vT vN vR st' vS u rr :=
  ⟨h.rd, h.below.setCell (p := ⟨B, 6, none⟩) h.hB _, h.hB, blk_set h.blk 6 _, Kd.R_set h.ts h.blk (by decide) 6 _, Kd.R_set h.ns h.blk (by decide) 6 _, Kd.R_set h.rs_ h.blk (by decide) 6 _, Kd.R_set h.rules h.blk (by decide) 6 _⟩
theorem GS.cells (h : GS W1 w b m x rs B v1 v2 vT vN vR st vS u rr) : w.cell? ⟨B, 0, none⟩ = some (.pointer (some ⟨b, 0, none⟩)) ∧ w.cell? ⟨B, 3, none⟩ = some vT ∧ w.cell? ⟨B, 4, none⟩ = some vN ∧ w.cell? ⟨B, 5, none⟩ = some vR ∧ w.cell? ⟨B, 6, none⟩ = some (.int .i64 st) ∧ w.cell? ⟨B, 7, none⟩ = some vS :=
  ⟨(blk_cell h.blk 0).trans rfl, (blk_cell h.blk 3).trans rfl, (blk_cell h.blk 4).trans rfl, (blk_cell h.blk 5).trans rfl, (blk_cell h.blk 6).trans rfl, (blk_cell h.blk 7).trans rfl⟩
/-- What was grown behind an elder world leaves it. -/
theorem below_grown {wl wr : World} {o : Option Nat} (h : Below wl.heap.size wl wr) (hg : wr.grownBy w1 o) (hb : ∀ k, o = some k → wl.heap.size ≤ k) : Below wl.heap.size wl w1 := Below.grown h hg h.size hb
end
/-- The grammar that is built lies in memory. -/
theorem GS.gram {W1 w : World} {b m : Nat} {x : Hd} {rs : List Ru} {B : Nat} {v1 v2 vT vN vR vS : Value} {st : Int} {u : Bu} {rr : List Rl} (h : GS W1 w b m x rs B v1 v2 vT vN vR st vS u rr) (m0 : u.ts.length ≤ 100000) (m1 : u.ns.length ≤ 100000) (m2 : rr.length ≤ 100000) : ∃ A0 A1 A2 c0 c1 c2, vT = .slice A0 u.ts.length c0 ∧ vN = .slice A1 u.ns.length c1 ∧ vR = .slice A2 rr.length c2 ∧ GmAt w A0 A1 A2 c0 c1 c2 { terms := u.ts, nons := u.ns, rules := rr, start := st } := by
  obtain ⟨A0, c0, e0, l0, h0⟩ := Kd.R_reads h.ts
  obtain ⟨A1, c1, e1, l1, h1⟩ := Kd.R_reads h.ns
  obtain ⟨A2, c2, e2, l2, h2⟩ := Kd.R_reads h.rules
  exact ⟨A0, A1, A2, c0, c1, c2, e0, e1, e2, ⟨h0, h1, h2, l0, l1, l2, by show u.ts.length ≤ _; omega, by show u.ns.length ≤ _; omega, by show rr.length ≤ _; omega⟩⟩
end Go.Proofs.YtliofoikejdjeaaGreat
/- gread's builder: sizes, steps (plain). -/
namespace Go.Proofs.YtliofoikejdjeaaGreat
open Go.RowKit Go.Proofs.YtliofoikejdjeaaGreatW.PrintWords
set_option linter.unusedVariables false
set_option linter.unusedSimpArgs false
theorem term_le {t : Tk} {ts ts' : List ByteArray} (h : termB t ts = .ok ts') : ts'.length ≤ 120 := by
  unfold termB at h
  split at h
  · cases h
  · cases h
    simp
    omega
theorem symbol_le {rs : List Ru} {t : Tk} {k : Nat} {ts ts' : List ByteArray} (h : symbolB rs t k ts = .ok ts') (hl : ts.length ≤ 120) : ts'.length ≤ 120 := by
  unfold symbolB at h
  split at h
  · cases h
  · split at h
    · cases h
      exact hl
    · split at h
      · exact term_le h
      · split at h
        · cases h
        · cases h
          exact hl
theorem symbols_le {rs : List Ru} : ∀ {l : List Tk} {k : Nat} {ts ts' : List ByteArray}, symbolsB rs l k ts = .ok ts' → ts.length ≤ 120 → ts'.length ≤ 120
  | [], _, ts, ts', h, hl => by cases h; exact hl
  | t :: l, k, ts, ts', h, hl => by
    rw [symbols_step] at h
    cases hs : symbolB rs t k ts with
    | error e => rw [hs] at h; cases h
    | ok ts2 =>
      rw [hs] at h
      exact symbols_le h (symbol_le hs hl)
theorem side_le {rs : List Ru} {left : ByteArray} {s : Sd} {u u' : Bu} (h : sideB rs left s u = .ok u') (hl : u.ts.length ≤ 120) : u'.ts.length ≤ 120 ∧ u'.ns = u.ns ∧ u'.rs.length ≤ 300 := by
  unfold sideB at h
  split at h
  · cases h
  · cases hs : symbolsB rs s.l 0 u.ts with
    | error e => rw [hs] at h; cases h
    | ok ts2 =>
      rw [hs] at h
      simp only at h
      split at h
      · cases h
      · cases h
        refine ⟨symbols_le hs hl, rfl, ?_⟩
        simp only [List.length_append, List.length_cons, List.length_nil]
        omega
theorem left_le {t : Tk} {d : Nat} {ts ns ns' : List ByteArray} (h : leftB t d ts ns = .ok ns') (hl : ns.length ≤ 120) : ns'.length ≤ 120 := by
  unfold leftB at h
  split at h
  · cases h
  · split at h
    · cases h
      exact hl
    · split at h
      · cases h
      · cases h
        simp
        omega
theorem declare_le {rs : List Ru} {x : Hd} : ∀ {l : List Tk} {p : Bool} {ts ts' : List ByteArray}, declareB rs x l p ts = .ok ts' → ts.length ≤ 120 → ts'.length ≤ 120
  | [], p, ts, ts', h, hl => by
    rw [declareB] at h
    split at h
    · split at h
      · cases h
        exact hl
      · cases h
    · cases h
      exact hl
  | t :: l, p, ts, ts', h, hl => by
    rw [declareB] at h
    split at h
    · cases h
    · split at h
      · cases h
      · split at h
        · cases h
        · rename_i ts2 hs
          exact declare_le h (term_le hs)
theorem heads_le {rs : List Ru} {x : Hd} {ts : List ByteArray} (h : headsB rs x = .ok ts) : ts.length ≤ 120 := by
  unfold headsB at h
  cases hd : declareB rs x x.declared (!x.starts.isEmpty) [] with
  | ok ts2 =>
    rw [hd] at h
    simp only at h
    split at h
    · cases h
    · cases h
      exact declare_le hd (by simp)
  | error e =>
    rw [hd] at h
    simp only at h
    split at h <;> cases h
theorem sides_step {rs : List Ru} {left : ByteArray} {s : Sd} {r : List Sd} {u : Bu} : sidesB rs left (s :: r) u = match sideB rs left s u with | .error e => .error e | .ok u' => sidesB rs left r u' := by
  rw [sidesB]
  cases sideB rs left s u <;> rfl
/-- What a rule's left side, then its sides and the rules behind it, make. -/
def sidesC (rs : List Ru) (d : Nat) (l : List Ru) : Except Ft Bu → Except Ft Bu
  | .error e => .error e
  | .ok u => rulesB rs d l u
theorem rulesB_step {rs : List Ru} {d : Nat} {r : Ru} {l : List Ru} {u : Bu} : rulesB rs d (r :: l) u = match leftB r.left d u.ts u.ns with | .error e => .error e | .ok ns => sidesC rs d l (sidesB rs r.left.s r.sides { u with ns := ns }) := by
  rw [rulesB]
  cases leftB r.left d u.ts u.ns with
  | error e => rfl
  | ok ns =>
    simp only
    cases sidesB rs r.left.s r.sides { u with ns := ns } <;> rfl
/-- What the rules by names are. -/
def Fine (u : Bu) : Prop := u.rs.length ≤ 300 ∧ ∀ y ∈ u.rs, 1 ≤ y.length ∧ y.length ≤ 10001
theorem side_fine {rs : List Ru} {left : ByteArray} {s : Sd} {u u' : Bu} (h : sideB rs left s u = .ok u') (hs : s.l.length ≤ 10000) (hf : Fine u) : Fine u' := by
  unfold sideB at h
  split at h
  · cases h
  · cases hs2 : symbolsB rs s.l 0 u.ts with
    | error e => rw [hs2] at h; cases h
    | ok ts2 =>
      rw [hs2] at h
      simp only at h
      split at h
      · cases h
      · cases h
        refine ⟨?_, fun y hy => ?_⟩
        · simp only [List.length_append, List.length_cons, List.length_nil]
          omega
        · rcases List.mem_append.1 hy with hy | hy
          · exact hf.2 y hy
          · obtain rfl := List.mem_singleton.1 hy
            simp only [List.length_cons, List.length_map]
            omega
end Go.Proofs.YtliofoikejdjeaaGreat
/- gread's builder: a rule under way, while its right side is found. -/
namespace Go.Proofs.YtliofoikejdjeaaGreat
open Go.RowKit Go.Proofs.YtliofoikejdjeaaGreatW.PrintWords
set_option linter.unusedVariables false
set_option linter.unusedSimpArgs false
structure FS (wo w : World) (g : Nat) (F : Int) (xs : List Int) (v : Value) : Prop where
  below : Below wo.heap.size wo w
  hg : wo.heap.size ≤ g
  blk : w.heap[g]? = some (.cells #[.int .i64 F, v] 40 (0, 0))
  row : Kd.R (Kd.int .i64) 3 w wo.heap.size (fun _ => True) v xs
section
variable {wo w w1 : World} {g : Nat} {F : Int} {xs xs' : List Int} {v v' : Value}
theorem FS.later (h : FS wo w g F xs v) (hb : Below w.heap.size w w1) : FS wo w1 g F xs v :=
  ⟨h.below.trans (hb.mono h.below.size), h.hg, blk_below h.blk hb, Kd.R_below h.row hb⟩
theorem FS.put (h : FS wo w g F xs v) (ho : Kd.R (Kd.int .i64) 3 w1 wo.heap.size (fun _ => True) v' xs') (hg : w.grownBy w1 v.ownBlock) :
    w1.heap[g]? = some (.cells #[.int .i64 F, v] 40 (0, 0)) ∧ Below wo.heap.size wo w1 ∧ FS wo (w1.setCell ⟨g, 1, none⟩ v') g F xs' v' := by
  have hk := blk_grown h.blk hg (Kd.R_ne h.row h.blk (by decide))
  have hb := Below.grown h.below hg h.below.size (fun k hk => Kd.R_base h.row k hk)
  exact ⟨hk, hb, hb.setCell (p := ⟨g, 1, none⟩) h.hg v', h.hg, blk_set hk 1 v', Kd.R_set ho hk (by decide) 1 v'⟩
/-- The rule that is made: its row is no other's. -/
theorem FS.made {W1 : World} {vR : Value} {rr : List Rl} {ok : Nat → Prop} (h : FS wo w g F xs v) (hr : Kd.R kRl 40 wo W1.heap.size ok vR rr) (hW : W1.heap.size ≤ wo.heap.size) : kRl.M w W1.heap.size (fun k => some k ≠ vR.ownBlock) ⟨F, xs⟩ [.int .i64 F, v] :=
  kRl_M (Kd.R_lower (R_flatI h.row (fun k hk e => by have := Kd.R_lt hr _ e.symm; have := Kd.R_base h.row k hk; omega)) hW)
end
section
variable {W1 w w1 : World} {b m : Nat} {x : Hd} {rs : List Ru} {B : Nat} {v1 v2 vT vN vR vS : Value} {st : Int} {u : Bu} {rr : List Rl}
theorem GS.setG (h : GS W1 w b m x rs B v1 v2 vT vN vR st vS u rr) {gr : Nat} {cs : Array Value} (hk : w.heap[gr]? = some (.cells cs 25 (0, 0))) (hW : W1.heap.size ≤ gr) (hne : gr ≠ B) (i : Nat) (v : Value) : GS W1 (w.setCell ⟨gr, i, none⟩ v) b m x rs B v1 v2 vT vN vR st vS u rr :=
  ⟨h.rd, h.below.setCell (p := ⟨gr, i, none⟩) hW _, h.hB, blk_far (p := ⟨gr, i, none⟩) h.blk (Ne.symm hne) _, Kd.R_set h.ts hk (by decide) i v, Kd.R_set h.ns hk (by decide) i v, Kd.R_set h.rs_ hk (by decide) i v, Kd.R_set h.rules hk (by decide) i v⟩
theorem GS.gramAt (h : GS W1 w b m x rs B v1 v2 vT vN vR st vS u rr) {A0 A1 A2 : Option Addr} {c0 c1 c2 : Nat} (e0 : vT = .slice A0 u.ts.length c0) (e1 : vN = .slice A1 u.ns.length c1) (e2 : vR = .slice A2 rr.length c2) (m0 : u.ts.length ≤ 100000) (m1 : u.ns.length ≤ 100000) (m2 : rr.length ≤ 100000) : GmAt w A0 A1 A2 c0 c1 c2 { terms := u.ts, nons := u.ns, rules := rr, start := st } := by
  obtain ⟨B0, B1, B2, d0, d1, d2, f0, f1, f2, hg⟩ := h.gram m0 m1 m2
  have g0 := e0.symm.trans f0
  have g1 := e1.symm.trans f1
  have g2 := e2.symm.trans f2
  injection g0 with a0 _ b0
  injection g1 with a1 _ b1
  injection g2 with a2 _ b2
  subst a0 a1 a2 b0 b1 b2
  exact hg
/-- It lies there as well where what is elder than the builder's state turns. -/
theorem GS.gramFar (h : GS W1 w b m x rs B v1 v2 vT vN vR st vS u rr) {A0 A1 A2 : Option Addr} {c0 c1 c2 : Nat} (e0 : vT = .slice A0 u.ts.length c0) (e1 : vN = .slice A1 u.ns.length c1) (e2 : vR = .slice A2 rr.length c2) (m0 : u.ts.length ≤ 100000) (m1 : u.ns.length ≤ 100000) (m2 : rr.length ≤ 100000) :
    ∀ w'', (∀ k, W1.heap.size ≤ k → k < w.heap.size → w''.heap[k]? = w.heap[k]?) → GmAt w'' A0 A1 A2 c0 c1 c2 { terms := u.ts, nons := u.ns, rules := rr, start := st } := by
  intro w'' hf
  obtain ⟨B0, d0, f0, l0, h0⟩ := Kd.R_reads (Kd.R_step (w1 := w'') (Kd.R_bound h.ts) (fun k hk hlt => hf k hk.2.1 hlt))
  obtain ⟨B1, d1, f1, l1, h1⟩ := Kd.R_reads (Kd.R_step (w1 := w'') (Kd.R_bound h.ns) (fun k hk hlt => hf k hk.2.1 hlt))
  obtain ⟨B2, d2, f2, l2, h2⟩ := Kd.R_reads (Kd.R_step (w1 := w'') (Kd.R_bound h.rules) (fun k hk hlt => hf k hk.2.1 hlt))
  have g0 := e0.symm.trans f0
  have g1 := e1.symm.trans f1
  have g2 := e2.symm.trans f2
  injection g0 with a0 _ b0
  injection g1 with a1 _ b1
  injection g2 with a2 _ b2
  subst a0 a1 a2 b0 b1 b2
  exact ⟨h0, h1, h2, l0, l1, l2, by show u.ts.length ≤ _; omega, by show u.ns.length ≤ _; omega, by show rr.length ≤ _; omega⟩
end
theorem ruleB_eq {ts ns : List ByteArray} {a : ByteArray} {l : List ByteArray} : ruleB ts ns (a :: l) = ⟨findB ts ns a, l.map (findB ts ns)⟩ := rfl
theorem infoInt : (Tryz.prog.info? 3).map (fun i => (i.zero, i.size, i.bytes)) = some (some (.int .i64 0), 1, 8) := info3
end Go.Proofs.YtliofoikejdjeaaGreat
