/- Texts laid one behind the other: SM, Bld, Names, Ord, Ref6, Ref7, Ref8, Ref9, RefA. -/
import Derived.Test.YtliofoikejdjeaaGreatV2
import Derived.Test.YtliofoikejdjeaaGreatV1
import Derived.Lib.OthersKept
import Derived.Lib.UnsafeStr
import Derived.Lib.Builder
import Derived.Laws.Externs
import Derived.OneCell
import Derived.Shelf.RegionOpenPlain
import Derived.Tactics
import Derived.Test.YtliofoikejdjeaaGreatWTab
/- The document's Same, of two grammars that are the same. -/
namespace Go.Proofs.YtliofoikejdjeaaGreat
open Go.RowKit Go.Proofs.YtliofoikejdjeaaGreatW.PrintWords
set_option linter.unusedVariables false
set_option linter.unusedSimpArgs false
set_option maxRecDepth 100000
set_option maxHeartbeats 1000000 in
theorem ref04_Same {w : World} {A B : Option Addr} {c d : Nat} {xs : List ByteArray} (hx : Kd.C Kd.string w A xs.length xs) (hy : Kd.C Kd.string w B xs.length xs) :
    Calls Tryz.prog 31 #[.slice A xs.length c, .slice B xs.length d] w fun e w' => e = .returned (.bool true) ∧ ∃ n, w' = w.drewN n := by
  have hm := Kd.C_max hx
  have HX := Aside0.mk hx
  have HY := Aside0.mk hy
  clear hx hy
  go_enter Tryz.func31, Tryz.ntmps31
  go_wp2
  go_loopw [5] (fun i wr => ∃ k : Nat, k ≤ xs.length ∧ i = .int .i64 k ∧ Aside0 (∃ n, wr = w.drewN n)) (fun i _ => xs.length - (intOf i).toNat)
  case atStart => exact ⟨0, Nat.zero_le _, rfl, ⟨0, rfl⟩⟩
  case round =>
    obtain ⟨k, hk, rfl, ⟨n, rfl⟩⟩ := hrel
    by_cases hlt : k < xs.length
    · have hltz : (k : Int) < (xs.length : Int) := by omega
      obtain ⟨ad, rfl, l2⟩ := at_str HX.out k hlt
      obtain ⟨bd, rfl, l3⟩ := at_str HY.out k hlt
      generalize xs.getD k default = u at l2 l3
      go_wp2
      go_quiet (fail)
      go_wp2
      go_roundw
      case rel => exact ⟨k + 1, by omega, by go_num, ⟨_, rfl⟩⟩
      case measure => simp [intOf]; omega
    · have hltz : ¬ (k : Int) < (xs.length : Int) := by omega
      go_wp2
      go_ret
      exact ⟨rfl, _, rfl⟩
section
variable {w : World} {A0 A1 A2 B0 B1 B2 : Option Addr} {c0 c1 c2 d0 d1 d2 : Nat} {g : Gm}
set_option maxHeartbeats 4000000 in
theorem ref06_Same (h : GmAt w A0 A1 A2 c0 c1 c2 g) (h' : GmAt w B0 B1 B2 d0 d1 d2 g) :
    Calls Tryz.prog 11 #[.agg (gv A0 A1 A2 c0 c1 c2 g), .agg (gv B0 B1 B2 d0 d1 d2 g)] w fun e w' => e = .returned (.bool true) ∧ Below w.heap.size w w' := by
  have m2 := h.m2
  obtain ⟨W0, hW0⟩ : ∃ W0, W0 = (w.alloc (.cells (gv A0 A1 A2 c0 c1 c2 g) 25)).alloc (.cells (gv B0 B1 B2 d0 d1 d2 g) 25) := ⟨_, rfl⟩
  have hb0 := below_alloc (below_alloc (Below.refl _ w) (.cells (gv A0 A1 A2 c0 c1 c2 g) 25)) (.cells (gv B0 B1 B2 d0 d1 d2 g) 25)
  have hk0 := blk_alloc (blk_new w (.cells (gv A0 A1 A2 c0 c1 c2 g) 25)) (.cells (gv B0 B1 B2 d0 d1 d2 g) 25)
  have hk1 : ((w.alloc (.cells (gv A0 A1 A2 c0 c1 c2 g) 25)).alloc (.cells (gv B0 B1 B2 d0 d1 d2 g) 25)).heap[w.heap.size + 1]? = some (.cells (gv B0 B1 B2 d0 d1 d2 g) 25) := by
    have := blk_new (w.alloc (.cells (gv A0 A1 A2 c0 c1 c2 g) 25)) (.cells (gv B0 B1 B2 d0 d1 d2 g) 25)
    simpa using this
  rw [← hW0] at hb0 hk0 hk1
  have KEY : Aside0 (∀ W, Below W0.heap.size W0 W → (W.cell? ⟨w.heap.size, 0, none⟩ = some (.slice A0 g.terms.length c0) ∧ W.cell? ⟨w.heap.size, 1, none⟩ = some (.slice A1 g.nons.length c1) ∧ W.cell? ⟨w.heap.size, 2, none⟩ = some (.slice A2 g.rules.length c2) ∧ W.cell? ⟨w.heap.size, 3, none⟩ = some (.int .i64 g.start)) ∧ W.cell? ⟨w.heap.size + 1, 0, none⟩ = some (.slice B0 g.terms.length d0) ∧ W.cell? ⟨w.heap.size + 1, 1, none⟩ = some (.slice B1 g.nons.length d1) ∧ W.cell? ⟨w.heap.size + 1, 2, none⟩ = some (.slice B2 g.rules.length d2) ∧ W.cell? ⟨w.heap.size + 1, 3, none⟩ = some (.int .i64 g.start)) :=
    ⟨fun W hb => ⟨gcells (blk_below hk0 hb), gcells (blk_below hk1 hb)⟩⟩
  have KG : Aside0 (∀ W, Below W0.heap.size W0 W → GmAt W A0 A1 A2 c0 c1 c2 g ∧ GmAt W B0 B1 B2 d0 d1 d2 g) := ⟨fun W hb => ⟨h.below (hb0.trans (hb.mono hb0.size)), h'.below (hb0.trans (hb.mono hb0.size))⟩⟩
  have HB0 := Aside0.mk hb0
  have HW := Aside0.mk hW0
  have hx0 := blk_lt hk0
  have hx1 := blk_lt hk1
  obtain ⟨⟨f0, f1, f2, f3⟩, f4, f5, f6, f7⟩ := KEY.out W0 (Below.refl _ _)
  clear h h' hb0 hk0 hk1 hW0
  unfold gv at *
  go_enter Tryz.func11, Tryz.ntmps11
  go_wp2_with fail
  rw [← HW.out]
  clear HW
  refine (ref04_Same (c := c0) (d := d0) (KG.out W0 (Below.refl _ _)).1.terms (KG.out W0 (Below.refl _ _)).2.terms).mono ?_
  rintro e w1 ⟨rfl, n1, rfl⟩
  go_wp2_with (go_at_call 31; refine (ref04_Same (c := c1) (d := d1) (KG.out _ (pw_below_drewN (Below.refl _ _) _)).1.nons (KG.out _ (pw_below_drewN (Below.refl _ _) _)).2.nons).mono ?_; rintro e w2 ⟨rfl, n2, rfl⟩)
  have HBS := Aside0.mk (pw_below_drewN (Below.refl W0.heap.size W0) (n1 + n2))
  clear f0 f1 f2 f3 f4 f5 f6 f7
  go_loopw [5] (fun i wr => ∃ k : Nat, k ≤ g.rules.length ∧ i = .int .i64 k ∧ Aside0 (Below W0.heap.size W0 wr)) (fun i _ => g.rules.length - (intOf i).toNat)
  case atStart => exact ⟨0, Nat.zero_le _, rfl, HBS⟩
  case round =>
    obtain ⟨k, hk, rfl, HB⟩ := hrel
    obtain ⟨⟨f0, f1, f2, f3⟩, f4, f5, f6, f7⟩ := KEY.out wr HB.out
    by_cases hlt : k < g.rules.length
    · have hltz : (k : Int) < (g.rules.length : Int) := by omega
      obtain ⟨ad, A3, c3, rfl, r0, r1, _, q0⟩ := at_rl (KG.out wr HB.out).1.rules k hlt
      obtain ⟨bd, B3, d3, rfl, s0, s1, _, t0⟩ := at_rl (KG.out wr HB.out).2.rules k hlt
      generalize g.rules.getD k default = x at r0 r1 q0 s0 s1 t0
      have Q0 := Aside0.mk q0
      have T0 := Aside0.mk t0
      have KC : Aside0 (∀ W, Below wr.heap.size wr W → W.cell? (ad.add (k * 2)) = some (.int .i64 x.left) ∧ W.cell? ⟨(ad.add (k * 2)).block, (ad.add (k * 2)).off + 1, none⟩ = some (.slice A3 x.right.length c3) ∧ W.cell? (bd.add (k * 2)) = some (.int .i64 x.left) ∧ W.cell? ⟨(bd.add (k * 2)).block, (bd.add (k * 2)).off + 1, none⟩ = some (.slice B3 x.right.length d3)) :=
        ⟨fun W hb => ⟨(hb.cell (World.block_lt_of_cell? _ _ r0)).trans r0, (hb.cell (p := ⟨(ad.add (k * 2)).block, (ad.add (k * 2)).off + 1, none⟩) (World.block_lt_of_cell? wr ⟨(ad.add (k * 2)).block, (ad.add (k * 2)).off + 1, none⟩ r1)).trans r1, (hb.cell (World.block_lt_of_cell? _ _ s0)).trans s0, (hb.cell (p := ⟨(bd.add (k * 2)).block, (bd.add (k * 2)).off + 1, none⟩) (World.block_lt_of_cell? wr ⟨(bd.add (k * 2)).block, (bd.add (k * 2)).off + 1, none⟩ s1)).trans s1⟩⟩
      have K1 : Aside0 (∀ W, Below wr.heap.size wr W → Calls Tryz.prog 32 #[.agg #[.int .i64 x.left, .slice A3 x.right.length c3], .agg #[.int .i64 x.left, .slice B3 x.right.length d3]] W fun e w' => e = .returned (.bool true) ∧ Below W.heap.size W w') := ⟨fun W hb => (ref06_SameRule (Kd.C_below q0 hb) (Kd.C_below t0 hb)).mono fun e w' hh => ⟨by rw [hh.1, decide_eq_true rfl], hh.2⟩⟩
      clear r0 r1 s0 s1 q0 t0
      go_wp2
      refine wp_region_det (vs := [?d1xv0, ?d1xv1, ?d1xv2, ?d1xv3, ?d1xv4, ?d1xv5, ?d1xv6, ?d1xv7, ?d1xv8, ?d1xv9, ?d1xv10, ?d1xv11]) (fun w' => Below wr.heap.size wr w') rfl (by kernel_rfl) (putAll_put (by simp only [Act.put, List.setIfInBounds_toArray, List.set_cons_zero, List.set_cons_succ]; rfl) (putAll_put (by simp only [Act.put, List.setIfInBounds_toArray, List.set_cons_zero, List.set_cons_succ]; rfl) (putAll_put (by simp only [Act.put, List.setIfInBounds_toArray, List.set_cons_zero, List.set_cons_succ]; rfl) (putAll_put (by simp only [Act.put, List.setIfInBounds_toArray, List.set_cons_zero, List.set_cons_succ]; rfl) (putAll_put (by simp only [Act.put, List.setIfInBounds_toArray, List.set_cons_zero, List.set_cons_succ]; rfl) (putAll_put (by simp only [Act.put, List.setIfInBounds_toArray, List.set_cons_zero, List.set_cons_succ]; rfl) (putAll_put (by simp only [Act.put, List.setIfInBounds_toArray, List.set_cons_zero, List.set_cons_succ]; rfl) (putAll_put (by simp only [Act.put, List.setIfInBounds_toArray, List.set_cons_zero, List.set_cons_succ]; rfl) (putAll_put (by simp only [Act.put, List.setIfInBounds_toArray, List.set_cons_zero, List.set_cons_succ]; rfl) (putAll_put (by simp only [Act.put, List.setIfInBounds_toArray, List.set_cons_zero, List.set_cons_succ]; rfl) (putAll_put (by simp only [Act.put, List.setIfInBounds_toArray, List.set_cons_zero, List.set_cons_succ]; rfl) (putAll_put (by simp only [Act.put, List.setIfInBounds_toArray, List.set_cons_zero, List.set_cons_succ]; rfl) (putAll_nil _))))))))))))) (below_drew (Below.refl _ _)) ?d1xOps ?d1xFin
      case d1xOps =>
        refine ⟨fun w' hw => ?d1xo0, fun w' hw => ?d1xo1, fun w' hw => ?d1xo2, fun w' hw => ?d1xo3, fun w' hw => ?d1xo4, fun w' hw => ?d1xo5, fun w' hw => ?d1xo6, fun w' hw => ?d1xo7, fun w' hw => ?d1xo8, fun w' hw => ?d1xo9, fun w' hw => ?d1xo10, fun w' hw => ?d1xo11, trivial⟩
        case d1xo0 => (obtain ⟨⟨f0, f1, f2, f3⟩, f4, f5, f6, f7⟩ := KEY.out w' (HB.out.trans (hw.mono HB.out.size)); obtain ⟨e0, e1, e2, e3⟩ := KC.out w' hw); go_simp; rfl
        case d1xo1 => (obtain ⟨⟨f0, f1, f2, f3⟩, f4, f5, f6, f7⟩ := KEY.out w' (HB.out.trans (hw.mono HB.out.size)); obtain ⟨e0, e1, e2, e3⟩ := KC.out w' hw); go_simp; rfl
        case d1xo2 => (obtain ⟨⟨f0, f1, f2, f3⟩, f4, f5, f6, f7⟩ := KEY.out w' (HB.out.trans (hw.mono HB.out.size)); obtain ⟨e0, e1, e2, e3⟩ := KC.out w' hw); go_simp; rfl
        case d1xo3 => (obtain ⟨⟨f0, f1, f2, f3⟩, f4, f5, f6, f7⟩ := KEY.out w' (HB.out.trans (hw.mono HB.out.size)); obtain ⟨e0, e1, e2, e3⟩ := KC.out w' hw); go_simp; rfl
        case d1xo4 => (obtain ⟨⟨f0, f1, f2, f3⟩, f4, f5, f6, f7⟩ := KEY.out w' (HB.out.trans (hw.mono HB.out.size)); obtain ⟨e0, e1, e2, e3⟩ := KC.out w' hw); go_simp; rfl
        case d1xo5 => (obtain ⟨⟨f0, f1, f2, f3⟩, f4, f5, f6, f7⟩ := KEY.out w' (HB.out.trans (hw.mono HB.out.size)); obtain ⟨e0, e1, e2, e3⟩ := KC.out w' hw); go_simp; rfl
        case d1xo6 => (obtain ⟨⟨f0, f1, f2, f3⟩, f4, f5, f6, f7⟩ := KEY.out w' (HB.out.trans (hw.mono HB.out.size)); obtain ⟨e0, e1, e2, e3⟩ := KC.out w' hw); go_simp; rfl
        case d1xo7 => (obtain ⟨⟨f0, f1, f2, f3⟩, f4, f5, f6, f7⟩ := KEY.out w' (HB.out.trans (hw.mono HB.out.size)); obtain ⟨e0, e1, e2, e3⟩ := KC.out w' hw); go_simp; rfl
        case d1xo8 => (obtain ⟨⟨f0, f1, f2, f3⟩, f4, f5, f6, f7⟩ := KEY.out w' (HB.out.trans (hw.mono HB.out.size)); obtain ⟨e0, e1, e2, e3⟩ := KC.out w' hw); go_simp; rfl
        case d1xo9 => (obtain ⟨⟨f0, f1, f2, f3⟩, f4, f5, f6, f7⟩ := KEY.out w' (HB.out.trans (hw.mono HB.out.size)); obtain ⟨e0, e1, e2, e3⟩ := KC.out w' hw); go_simp; rfl
        case d1xo10 => (obtain ⟨⟨f0, f1, f2, f3⟩, f4, f5, f6, f7⟩ := KEY.out w' (HB.out.trans (hw.mono HB.out.size)); obtain ⟨e0, e1, e2, e3⟩ := KC.out w' hw); (go_simp; refine (K1.out w' hw).mono ?_; rintro e w2 ⟨rfl, hb2⟩; exact ⟨by rfl, hw.trans (hb2.mono hw.size)⟩)
        case d1xo11 => (obtain ⟨⟨f0, f1, f2, f3⟩, f4, f5, f6, f7⟩ := KEY.out w' (HB.out.trans (hw.mono HB.out.size)); obtain ⟨e0, e1, e2, e3⟩ := KC.out w' hw); go_simp; rfl
      case d1xFin =>
        intro w3 hw3
        go_wp2
        go_roundw
        case rel => exact ⟨k + 1, by omega, by go_num, ⟨HB.out.trans (hw3.mono HB.out.size)⟩⟩
        case measure => simp [intOf]; omega
    · have hltz : ¬ (k : Int) < (g.rules.length : Int) := by omega
      go_wp2
      go_ret
      exact ⟨rfl, HB0.out.trans (HB.out.mono HB0.out.size)⟩
end
end Go.Proofs.YtliofoikejdjeaaGreat
/- strings.Builder: copyCheck, WriteByte, WriteString, String. -/
namespace Go.Proofs.YtliofoikejdjeaaGreat
open Go.RowKit Go.Proofs.YtliofoikejdjeaaGreatW.PrintWords
set_option linter.unusedVariables false
set_option maxRecDepth 100000
set_option linter.unusedSimpArgs false
/-- A builder that holds s. -/
def Bld (w : World) (B b : Nat) (s : ByteArray) : Prop :=
  B ≤ b ∧ ∃ p v, (p = .pointer none ∨ p = .pointer (some ⟨b, 0, none⟩)) ∧ w.heap[b]? = some (.cells #[p, v] 48 (0, 0)) ∧ w.ownsRow B 5 1 v (bytesOf s).length (nums .u8 (bytesOf s)) ∧ v.ownBlock ≠ some b
/-- All other blocks but rows of bytes stand. -/
def Keep (b : Nat) (w w' : World) : Prop := Lib.OthersKept 5 (some b) w w'
theorem infoU8 : (Tryz.prog.info? 5).map (fun i => (i.zero, i.size, i.bytes)) = some (some (.int .u8 0), 1, 1) := by kernel_rfl
theorem bytesOf_add (s t : ByteArray) : bytesOf (s ++ t) = bytesOf s ++ bytesOf t := by
  simp [bytesOf, ByteArray.toList_data_append]
theorem bytes_ne {B b : Nat} {w : World} {v : Value} {xs : List Value} {n : Nat} {cs : Array Value} {T : TypeId} {fr : Nat × Nat} (ho : w.ownsRow B 5 1 v n xs) (hb : w.heap[b]? = some (.cells cs T fr)) (hT : T ≠ 5) : v.ownBlock ≠ some b := by
  intro e
  rcases ho.2 with ⟨rfl, _⟩ | ⟨g, cap, cur, rfl, _, hg, _⟩
  · simp [Value.ownBlock] at e
  · simp only [Value.ownBlock, Option.some.injEq] at e
    subst e
    rw [hb] at hg
    simp at hg
    exact hT hg.2.1
/-- A builder that has been written on, with its row. -/
def BldV (w : World) (B b : Nat) (v : Value) (s : ByteArray) : Prop :=
  B ≤ b ∧ w.heap[b]? = some (.cells #[.pointer (some ⟨b, 0, none⟩), v] 48 (0, 0)) ∧ w.ownsRow B 5 1 v (bytesOf s).length (nums .u8 (bytesOf s)) ∧ v.ownBlock ≠ some b
theorem BldV.bld {w : World} {B b : Nat} {v : Value} {s : ByteArray} (h : BldV w B b v s) : Bld w B b s := ⟨h.1, _, v, .inr rfl, h.2.1, h.2.2.1, h.2.2.2⟩
theorem heap_put {w : World} {b : Nat} {p v x : Value} {T : TypeId} (h : w.heap[b]? = some (.cells #[p, v] T (0, 0))) (i : Nat) (hi : i < 2) :
    (w.setCell ⟨b, i, none⟩ x).heap[b]? = some (.cells (#[p, v].set! i x) T (0, 0)) := by
  simp [World.setCell, Array.getElem?_modify, h]
theorem Keep.put {b : Nat} {w w' : World} (h : Keep b w w') (i : Nat) (v : Value) : Keep b w (w'.setCell ⟨b, i, none⟩ v) := Lib.OthersKept.setCell h ⟨b, i, none⟩ rfl _
set_option maxHeartbeats 1000000 in
set_option maxRecDepth 100000 in
theorem copyCheck_ {w : World} {B b : Nat} {s : ByteArray} (h : Bld w B b s) : Calls Tryz.prog 56 #[.pointer (some ⟨b, 0, none⟩)] w fun e w' => e = .returned (.tuple #[]) ∧ (∃ v, BldV w' B b v s) ∧ Below B w w' ∧ Keep b w w' := by
  obtain ⟨hB, p, v, hp, hb, ho, hn⟩ := h
  rcases hp with rfl | rfl
  · have h0 : w.cell? ⟨b, 0, none⟩ = some (.pointer none) := by simp [World.cell?, hb]
    have hfz : w.frozen? ⟨b, 0, none⟩ = false := by simp [World.frozen?, hb]
    have hsh : w.shape? b = some (48, 2) := by simp [World.shape?, hb]
    have HQ : Aside0 ((∃ v, BldV (w.setCell ⟨b, 0, none⟩ (.pointer (some ⟨b, 0, none⟩))) B b v s) ∧ Below B w (w.setCell ⟨b, 0, none⟩ (.pointer (some ⟨b, 0, none⟩))) ∧ Keep b w (w.setCell ⟨b, 0, none⟩ (.pointer (some ⟨b, 0, none⟩)))) :=
      ⟨⟨v, hB, heap_put hb 0 (by omega), ownsRow_setCell_other ho (a := ⟨b, 0, none⟩) hn _, hn⟩, (Below.refl B w).setCell (p := ⟨b, 0, none⟩) hB _, Keep.put (Lib.OthersKept.refl _ _ w) 0 _⟩
    clear hb ho hn
    obtain ⟨j, hj, hjs⟩ := Option.map_eq_some_iff.1 (show (Tryz.prog.info? 48).map (·.size) = some 2 from by kernel_rfl)
    go_enter Tryz.func56, Tryz.ntmps56
    go_wp2
    rw [Lib.run_to_unsafe w ⟨b, 0, none⟩ Tryz.underlying45 Tryz.underlying108 hj (by rw [hjs]; decide) hsh (Nat.zero_lt_succ 1)]
    simp only [Result.andThen]
    rw [Oper.upon_value]
    go_wp2
    rw [run_callFunc_extern Tryz.func84 (by kernel_rfl) (by kernel_rfl) (by kernel_rfl) (e := Extern.AbiNoEscape.same) (by kernel_rfl)]
    rw [Lib.run_noEscape]
    simp only [Result.andThen]
    rw [Oper.upon_value]
    go_wp2
    rw [Lib.run_from_unsafe w ⟨b, 0, none⟩ Tryz.underlying108 Tryz.underlying45 hj hsh (by kernel_rfl)]
    simp only [Result.andThen]
    rw [Oper.upon_value]
    go_wp2
    go_end0
    exact ⟨rfl, HQ.out⟩
  · have h0 : w.cell? ⟨b, 0, none⟩ = some (.pointer (some ⟨b, 0, none⟩)) := by simp [World.cell?, hb]
    have HQ : Aside0 ((∃ v, BldV w B b v s) ∧ Below B w w ∧ Keep b w w) := ⟨⟨v, hB, hb, ho, hn⟩, Below.refl B w, Lib.OthersKept.refl _ _ w⟩
    clear hb ho hn
    obtain ⟨j, hj, hjs⟩ := Option.map_eq_some_iff.1 (show (Tryz.prog.info? 48).map (·.size) = some 2 from by kernel_rfl)
    go_enter Tryz.func56, Tryz.ntmps56
    go_wp2
    rw [Lib.run_neq_ptr_same w _ Tryz.underlying45 hj]
    go_wp2
    go_end0
    exact ⟨rfl, HQ.out⟩
theorem Keep.grown {b B n : Nat} {w W w1 : World} {v : Value} {xs : List Value} (h : Keep b w W) (ho : W.ownsRow B 5 1 v n xs) (hg : W.grownBy w1 v.ownBlock) : Keep b w w1 := by
  intro k o hk hb ht
  have h1 := h k o hk hb ht
  have hlt : k < W.heap.size := (Array.getElem?_eq_some_iff.1 h1).1
  rw [hg.block k hlt ?_]
  · exact h1
  · intro e
    rcases ho.2 with ⟨rfl, _⟩ | ⟨g, cap, cur, rfl, _, hgb, _⟩
    · simp [Value.ownBlock] at e
    · simp only [Value.ownBlock, Option.some.injEq] at e
      subst e
      rw [h1] at hgb
      exact ht _ _ (Option.some.inj hgb)
theorem own_slice {w : World} {B : Nat} {v : Value} {n : Nat} {xs : List Value} (h : w.ownsRow B 5 1 v n xs) : ∃ A c, v = .slice A n c := by
  rcases h.2 with ⟨rfl, h0⟩ | ⟨g, cap, cur, rfl, _⟩
  · exact ⟨none, 0, by rw [h0]⟩
  · exact ⟨_, _, rfl⟩
/-- Behind the append: the row's slice put into the builder. -/
theorem BldV.put {w W w1 : World} {B b : Nat} {v v1 : Value} {s t : ByteArray} (h : BldV W B b v s) (hk : Keep b w W) (hB : Below B w W) (ho : w1.ownsRow B 5 1 v1 (bytesOf t).length (nums .u8 (bytesOf t))) (hb : Below B w w1) (hg : W.grownBy w1 v.ownBlock) :
    Bld (w1.setCell ⟨b, 1, none⟩ v1) B b t ∧ Below B w (w1.setCell ⟨b, 1, none⟩ v1) ∧ Keep b w (w1.setCell ⟨b, 1, none⟩ v1) ∧ w1.heap[b]? = some (.cells #[.pointer (some ⟨b, 0, none⟩), v] 48 (0, 0)) := by
  obtain ⟨h1, h2, h3, h4⟩ := h
  have hlt : b < W.heap.size := (Array.getElem?_eq_some_iff.1 h2).1
  have hb1 : w1.heap[b]? = some (.cells #[.pointer (some ⟨b, 0, none⟩), v] 48 (0, 0)) := by rw [hg.block b hlt (fun e => h4 e.symm)]; exact h2
  have hn := bytes_ne ho hb1 (by decide)
  exact ⟨⟨h1, _, v1, .inr rfl, heap_put hb1 1 (by omega), ownsRow_setCell_other ho (a := ⟨b, 1, none⟩) hn _, hn⟩, hb.setCell (p := ⟨b, 1, none⟩) h1 _, Keep.put (hk.grown h3 hg) 1 _, hb1⟩
set_option maxHeartbeats 1000000 in
set_option maxRecDepth 100000 in
theorem bld_WriteString {w : World} {B b : Nat} {s : ByteArray} (h : Bld w B b s) (x : ByteArray) (hl : s.size + x.size ≤ 140737488355328) (hBw : B ≤ w.heap.size) :
    Calls Tryz.prog 22 #[.pointer (some ⟨b, 0, none⟩), .string x] w fun e w' => e = .returned (.tuple #[.int .i64 x.size, .nilIface]) ∧ Bld w' B b (s ++ x) ∧ Below B w w' ∧ Keep b w w' := by
  have hc := copyCheck_ h
  clear h
  go_enter Tryz.func22, Tryz.ntmps22
  go_wp2_with (first | (go_at_call 56; refine hc.mono ?_; rintro e w1 ⟨rfl, ⟨v, h1⟩, hb1, hk1⟩; obtain ⟨A, c, rfl⟩ := own_slice h1.2.2.1; have c1 : w1.cell? ⟨b, 1, none⟩ = some (.slice A (bytesOf s).length c) := by simp [World.cell?, h1.2.1]) | (at_builtin; refine print_append_str (w0 := w) B rfl (.tmp 12) (.tmp 13) 46 9 5 rfl Tryz.underlying46 Tryz.underlying9 infoU8 (.slice A (bytesOf s).length c) (bytesOf s) x rfl rfl h1.2.2.1 hb1 (Nat.le_trans hBw hb1.size) (by rw [bytesOf_length]; exact hl) ?_; intro v1 w2 ho2 hb2 hg2; rw [← bytesOf_add] at ho2; obtain ⟨p1, p2, p3, p4⟩ := h1.put hk1 hb1 ho2 hb2 hg2; (have d1 : w2.cell? ⟨b, 1, none⟩ = some (.slice A (bytesOf s).length c) := by simp [World.cell?, p4]); (have f1 : w2.frozen? ⟨b, 1, none⟩ = false := by simp [World.frozen?, p4]); obtain ⟨A1, q1, rfl⟩ := own_slice ho2; have P := Aside0.mk (And.intro p1 (And.intro p2 p3)); clear p1 p2 p3 p4 h1 hk1 ho2 hg2))
  go_ret2
  exact ⟨rfl, P.out⟩
set_option maxHeartbeats 1000000 in
set_option maxRecDepth 100000 in
theorem bld_WriteByte {w : World} {B b : Nat} {s : ByteArray} (h : Bld w B b s) (x : UInt8) (hl : s.size + 1 ≤ 140737488355328) (hBw : B ≤ w.heap.size) :
    Calls Tryz.prog 85 #[.pointer (some ⟨b, 0, none⟩), .int .u8 x.toNat] w fun e w' => e = .returned .nilIface ∧ Bld w' B b (s ++ ⟨#[x]⟩) ∧ Below B w w' ∧ Keep b w w' := by
  have hc := copyCheck_ h
  clear h
  go_enter Tryz.func85, Tryz.ntmps85
  go_wp2_with (first | (go_at_call 56; refine hc.mono ?_; rintro e w1 ⟨rfl, ⟨v, h1⟩, hb1, hk1⟩; obtain ⟨A, c, rfl⟩ := own_slice h1.2.2.1; have c1 : w1.cell? ⟨b, 1, none⟩ = some (.slice A (bytesOf s).length c) := by simp [World.cell?, h1.2.1]) | (at_builtin; refine print_append_cells (w0 := w) B rfl (.tmp 11) (.tmp 13) 46 5 (.int .u8 0) 1 1 rfl Tryz.underlying46 infoU8 rfl (by decide) (by decide) (.slice A (bytesOf s).length c) (bytesOf s).length (nums .u8 (bytesOf s)) [.int .u8 x.toNat] rfl (by simp [Act.eval]) rfl (by simp; rfl) h1.2.2.1 hb1 (Nat.le_trans hBw hb1.size) (by rw [bytesOf_length]; omega) ?_; intro v1 w2 ho2 hb2 hg2 _; (have ho3 : w2.ownsRow B 5 1 v1 (bytesOf (s ++ ⟨#[x]⟩)).length (nums .u8 (bytesOf (s ++ ⟨#[x]⟩))) := by rw [bytesOf_add, List.length_append, nums_append]; exact ho2); obtain ⟨p1, p2, p3, p4⟩ := h1.put hk1 hb1 ho3 hb2 hg2; (have d1 : w2.cell? ⟨b, 1, none⟩ = some (.slice A (bytesOf s).length c) := by simp [World.cell?, p4]); (have f1 : w2.frozen? ⟨b, 1, none⟩ = false := by simp [World.frozen?, p4]); obtain ⟨A1, q1, rfl⟩ := own_slice ho3; have P := Aside0.mk (And.intro p1 (And.intro p2 p3)); clear p1 p2 p3 p4 h1 hk1 ho2 ho3 hg2))
  go_ret
  exact ⟨rfl, P.out⟩
theorem data_toArray (s : ByteArray) : (⟨s.data.toList.toArray⟩ : ByteArray) = s := by
  cases s
  simp
set_option maxHeartbeats 1000000 in
set_option maxRecDepth 100000 in
theorem bld_String {w : World} {B b : Nat} {s : ByteArray} (h : Bld w B b s) (hs : s.size ≠ 0) :
    Calls Tryz.prog 25 #[.pointer (some ⟨b, 0, none⟩)] w fun e w' => e = .returned (.string s) ∧ Below B w w' := by
  obtain ⟨hB, p, v, hp, hb, ho, hn⟩ := h
  have hl0 : s.data.toList.length = s.size := data_length s
  have hl1 : (bytesOf s).length = s.size := bytesOf_length s
  rcases ho.2 with ⟨rfl, h0⟩ | ⟨g, cap, cur, rfl, hbg, hg, hcap, hmax, hcs, htk⟩
  · omega
  have c1 : w.drew.cell? ⟨b, 1, none⟩ = some (.slice (some ⟨g, 0, none⟩) (bytesOf s).length cap) := by
    have : w.drew.heap[b]? = some (.cells #[p, .slice (some ⟨g, 0, none⟩) (bytesOf s).length cap] 48 (0, 0)) := hb
    simp [World.cell?, this]
  have hSD : (Builtin.unsafeSliceData_ #[46] 81 #[.slice (some ⟨g, 0, none⟩) (bytesOf s).length cap]).run Tryz.prog w.drew = .ok (.pointer (some ⟨g, 0, none⟩)) w.drew :=
    Lib.run_unsafeSliceData_row _ _ _ _ _ _ (by omega)
  have hUS : (Builtin.unsafeString_ #[81, 3] 9 #[.pointer (some ⟨g, 0, none⟩), .int .i64 s.data.toList.length]).run Tryz.prog w.drew = .ok (.string ⟨s.data.toList.toArray⟩) (w.drew.freeze ⟨g, 0, none⟩ s.data.toList.length) := by
    refine Lib.run_unsafeString_row w.drew 81 3 9 5 Tryz.underlying81 (by kernel_rfl) g cur.size (by have hg' : w.drew.heap[g]? = some (.cells cur 5 (0, 0)) := hg; simp [World.shape?, hg']) s.data.toList (by intro e; rw [e, List.length_nil] at hl0; exact hs hl0.symm) (by omega) (by unfold maxLen at hmax; omega) ?_
    intro j x hx
    exact (World.ownsRowF_of ho).cells (g := g) rfl j (.int .u8 x.toNat) (by simp [nums, bytesOf, hx])
  rw [data_toArray] at hUS
  have hlen : s.data.toList.length = (bytesOf s).length := by omega
  rw [hlen] at hUS
  clear hb ho hn hl0 hl1 htk hcs hg hlen
  have mixed : Tryz.prog.follows .mixedOrders = true := rfl
  go_enter Tryz.func25, Tryz.ntmps25
  go_wp2
  go_region_o
  all_goals (go_wp2; go_ret; exact ⟨rfl, Lib.below_freeze (Below.drew (Below.refl B w)) (p := ⟨g, 0, none⟩) hbg _⟩)
set_option maxHeartbeats 1000000 in
set_option maxRecDepth 100000 in
/-- Of a builder that was never written on. -/
theorem bld_StringNil {w : World} {b : Nat} (hb : w.heap[b]? = some (.cells #[.pointer none, .slice none 0 0] 48 (0, 0))) :
    Calls Tryz.prog 25 #[.pointer (some ⟨b, 0, none⟩)] w fun e w' => e = .returned (.string ⟨#[]⟩) ∧ w' = w.drew := by
  have c1 : w.drew.cell? ⟨b, 1, none⟩ = some (.slice none 0 0) := by
    have : w.drew.heap[b]? = some (.cells #[.pointer none, .slice none 0 0] 48 (0, 0)) := hb
    simp [World.cell?, this]
  have hSD : (Builtin.unsafeSliceData_ #[46] 81 #[.slice none 0 0]).run Tryz.prog w.drew = .ok (.pointer none) w.drew := Lib.run_unsafeSliceData_nil _ _ _ _ _
  have hUS : (Builtin.unsafeString_ #[81, 3] 9 #[.pointer none, .int .i64 0]).run Tryz.prog w.drew = .ok (.string ⟨#[]⟩) w.drew := by rfl
  clear hb
  have mixed : Tryz.prog.follows .mixedOrders = true := rfl
  go_enter Tryz.func25, Tryz.ntmps25
  go_wp2
  go_region_o
  all_goals (go_wp2; go_ret; exact ⟨rfl, rfl⟩)
end Go.Proofs.YtliofoikejdjeaaGreat
/- The document's names: both lists, one behind the other. -/
namespace Go.Proofs.YtliofoikejdjeaaGreat
open Go.RowKit Go.Proofs.YtliofoikejdjeaaGreatW.PrintWords Go.Proofs.YtliofoikejdjeaaGreatW.PrintLast
set_option linter.unusedVariables false
set_option maxRecDepth 100000
set_option linter.unusedSimpArgs false
def namesT : Bool × List (List Nat × List Nat) := (true, [([], []), ([], []), ([1], [1]), ([0, 2], [0, 2]), ([], []), ([4], [4]), ([3, 5, 3], [3, 5]), ([6, 6, 0, 1, 2, 3, 4, 5, 6], [6])])
def namesB : List Nat := [0, 0, 2, 7, 0, 16, 63, 127]
theorem namesTab : rtab .any (opsOf Tryz.f15 1) = namesT := by kernel_rfl
theorem namesBits : waitsOk namesT.2 namesB = true := by kernel_rfl
set_option maxHeartbeats 4000000 in
set_option maxRecDepth 100000 in
theorem ref06_names {w : World} {A0 A1 A2 : Option Addr} {c0 c1 c2 : Nat} {g : Gm} (h : GmAt w A0 A1 A2 c0 c1 c2 g) (ms : g.terms.length + g.nons.length ≤ 8796093022208) :
    Calls Tryz.prog 15 #[.agg (gv A0 A1 A2 c0 c1 c2 g)] w fun e w' => ∃ v, e = .returned v ∧ Kd.R Kd.string 9 w' w.heap.size (fun _ => True) v g.names ∧ Below w.heap.size w w' := by
  have HT := Aside0.mk h.terms
  have HN := Aside0.mk h.nons
  clear h
  unfold gv
  go_enter Tryz.func15, Tryz.ntmps15
  go_wp2_with fail
  have HB0 := Aside0.mk (below_alloc (Below.refl _ w) (.cells #[.slice A0 g.terms.length c0, .slice A1 g.nons.length c1, .slice A2 g.rules.length c2, .int .i64 g.start] 25))
  have HK0 := Aside0.mk (blk_new w (.cells #[.slice A0 g.terms.length c0, .slice A1 g.nons.length c1, .slice A2 g.rules.length c2, .int .i64 g.start] 25))
  generalize w.alloc (.cells #[.slice A0 g.terms.length c0, .slice A1 g.nons.length c1, .slice A2 g.rules.length c2, .int .i64 g.start] 25) = W0 at *
  have HB := Aside0.mk (below_drew1 HB0.out)
  have BK := Aside0.mk (blk_drew HK0.out)
  clear HB0 HK0
  refine start_ (n := 8) (S := fun w' => w'.cell? ⟨w.heap.size, 0, none⟩ = some (.slice A0 g.terms.length c0) ∧ w'.cell? ⟨w.heap.size, 1, none⟩ = some (.slice A1 g.nons.length c1)) (ds := []) #[false, false, false, false, false, false, false, false] (by kernel_rfl) rfl rfl ⟨(blk_cell BK.out 0).trans rfl, (blk_cell BK.out 1).trans rfl⟩ (fun hHeld => ?_)
  refine with_tabW namesTab namesBits (fun HT_ HW_ => ?_)
  generalize W0.drew = w5 at BK HB hHeld ⊢
  refine pure_ (i := 1) (N := some 4) (v := ?_) (a' := ?_) #[false, true, false, false, false, false, false, false] rfl rfl (any_of HT_.out (by kernel_rfl)) (fun _ _ _ h => h) (Or.inl ⟨by rfl, ?_⟩) ?_ ?_
  rotate_left
  · intro w'
    go_simp
    with_reducible rfl
  rotate_left
  · simp only [Act.put, List.setIfInBounds_toArray, List.set_cons_zero, List.set_cons_succ, i64_w, i32_w]
    rfl
  refine pure_ (i := 4) (N := some 7) (v := ?_) (a' := ?_) #[false, true, false, false, true, false, false, false] rfl rfl (any_of HT_.out (by kernel_rfl)) (fun _ _ _ h => h) (Or.inl ⟨by rfl, ?_⟩) ?_ ?_
  rotate_left
  · intro w'
    go_simp
    with_reducible rfl
  rotate_left
  · simp only [Act.put, List.setIfInBounds_toArray, List.set_cons_zero, List.set_cons_succ, i64_w, i32_w]
    rfl
  refine take_ (i := 2) (N := some 5) (v := ?_) (a' := ?_) #[false, true, true, false, true, false, false, false] rfl rfl (take_ofW HT_.out HW_.out (by kernel_rfl)) (fun _ _ _ h => h) (Or.inl ⟨by rfl, ?_⟩) hHeld ?_ ?_
  rotate_left
  · rintro w' ⟨s0, s1⟩
    go_simp
    with_reducible rfl
  rotate_left
  · simp only [Act.put, List.setIfInBounds_toArray, List.set_cons_zero, List.set_cons_succ, i64_w, i32_w]
    rfl
  refine take_ (i := 5) (N := some 8) (v := ?_) (a' := ?_) #[false, true, true, false, true, true, false, false] rfl rfl (take_ofW HT_.out HW_.out (by kernel_rfl)) (fun _ _ _ h => h) (Or.inl ⟨by rfl, ?_⟩) hHeld ?_ ?_
  rotate_left
  · rintro w' ⟨s0, s1⟩
    go_simp
    with_reducible rfl
  rotate_left
  · simp only [Act.put, List.setIfInBounds_toArray, List.set_cons_zero, List.set_cons_succ, i64_w, i32_w]
    rfl
  refine one_ (i := 0) (N := some 3) #[true, true, true, false, true, true, false, false] rfl rfl (one_of HT_.out (by kernel_rfl)) (by decide) (fun K hK => ?_)
  refine Kd.R_lit_step Kd.string _ 9 ?hg (N := 3) ?hd (xs := ([] : List ByteArray)) (inner := []) (ok := fun _ => True) (okp := fun _ => True) ?hr ?hp (fun _ hk => hk) trivial (Below.refl _ _) (Nat.le_refl _) (by simp) ?_; (case hd => rfl); (case hg => rfl); (case hr => first | (go_simp; done) | (go_simp; rfl)); (case hp => exact (Reps.none _ _))
  intro v3 w6 ho hb hg_ hnew_
  have HO := Aside0.mk (Kd.R_lower ho (below_size HB.out))
  have n1_ := Aside0.mk (blk_below BK.out hb)
  have n2_ := Aside0.mk (below_step HB.out hb)
  clear BK HB hb ho hg_ hnew_
  have BK := n1_
  have HB := n2_
  clear n1_ n2_
  refine hK.out _ _ ⟨(blk_cell BK.out 0).trans rfl, (blk_cell BK.out 1).trans rfl⟩ (fun hHeld => ?_)
  clear hK K
  refine norm_ (a' := ?_) ?_ ?_
  rotate_left
  · show Act.put _ (some 3) _ = _
    simp only [Act.put, List.setIfInBounds_toArray, List.set_cons_zero, List.set_cons_succ, i64_w, i32_w]
    rfl
  refine one_ (i := 3) (N := some 6) #[true, true, true, true, true, true, false, false] rfl rfl (one_of HT_.out (by kernel_rfl)) (by decide) (fun K hK => ?_)
  refine Kd.R_append_rows_step Kd.string (w0 := w) w.heap.size (by rfl) (.tmp 3) (.tmp 5) 22 9 (.string ⟨#[]⟩) 16 rfl Tryz.underlying22 info9 rfl (by decide) (by omega) v3 [] g.terms _ _ _ (fun _ => True) (fun _ => False) rfl rfl HO.out (Kd.C_below HT.out HB.out) (fun _ _ h => h) (fun _ h => h.elim) (fun _ _ => trivial) HB.out (below_size HB.out) ?aL ?_
  case aL => simp only [List.length_append, List.length_nil]; omega
  intro v6 w6 ho hb hg hat
  have n1_ := Aside0.mk (blk_grown BK.out hg (Kd.R_ne HO.out BK.out (by decide)))
  clear BK HB HO hat hg
  have BK := n1_
  have HB := Aside0.mk hb
  have HO := Aside0.mk ho
  clear n1_ ho hb
  refine hK.out _ _ ⟨(blk_cell BK.out 0).trans rfl, (blk_cell BK.out 1).trans rfl⟩ (fun hHeld => ?_)
  clear hK K
  refine norm_ (a' := ?_) ?_ ?_
  rotate_left
  · show Act.put _ (some 6) _ = _
    simp only [Act.put, List.setIfInBounds_toArray, List.set_cons_zero, List.set_cons_succ, i64_w, i32_w]
    rfl
  refine one_ (i := 6) (N := some 9) #[true, true, true, true, true, true, true, false] rfl rfl (one_of HT_.out (by kernel_rfl)) (by decide) (fun K hK => ?_)
  refine Kd.R_append_rows_step Kd.string (w0 := w) w.heap.size (by rfl) (.tmp 6) (.tmp 8) 22 9 (.string ⟨#[]⟩) 16 rfl Tryz.underlying22 info9 rfl (by decide) (by omega) v6 ([] ++ g.terms) g.nons _ _ _ (fun _ => True) (fun _ => False) rfl rfl HO.out (Kd.C_below HN.out HB.out) (fun _ _ h => h) (fun _ h => h.elim) (fun _ _ => trivial) HB.out (below_size HB.out) ?aL ?_
  case aL => simp only [List.length_append, List.length_nil]; omega
  intro v9 w9 ho hb hg hat
  have n1_ := Aside0.mk (blk_grown BK.out hg (Kd.R_ne HO.out BK.out (by decide)))
  clear BK HB HO hat hg
  have BK := n1_
  have HB := Aside0.mk hb
  have HO := Aside0.mk ho
  clear n1_ ho hb
  refine hK.out _ _ ⟨(blk_cell BK.out 0).trans rfl, (blk_cell BK.out 1).trans rfl⟩ (fun hHeld => ?_)
  clear hK K
  refine norm_ (a' := ?_) ?_ ?_
  rotate_left
  · show Act.put _ (some 9) _ = _
    simp only [Act.put, List.setIfInBounds_toArray, List.set_cons_zero, List.set_cons_succ, i64_w, i32_w]
    rfl
  refine pure_ (i := 7) (N := some 2) (v := ?_) (a' := ?_) #[true, true, true, true, true, true, true, true] rfl rfl (any_of HT_.out (by kernel_rfl)) (fun _ _ _ h => h) (Or.inl ⟨by rfl, ?_⟩) ?_ ?_
  rotate_left
  · intro w'
    go_simp
    with_reducible rfl
  rotate_left
  · simp only [Act.put, List.setIfInBounds_toArray, List.set_cons_zero, List.set_cons_succ, i64_w, i32_w]
    rfl
  refine done_ (done_of HT_.out (by kernel_rfl)) ?_
  try go_wp2
  go_ret
  exact ⟨_, rfl, HO.out, HB.out⟩
end Go.Proofs.YtliofoikejdjeaaGreat
/- gram.Ordered. -/
namespace Go.Proofs.YtliofoikejdjeaaGreat
open Go.RowKit Go.Proofs.YtliofoikejdjeaaGreatW.PrintWords
set_option linter.unusedVariables false
set_option maxRecDepth 100000
set_option linter.unusedSimpArgs false
theorem less_int (x y : Int) (w : World) : Calls Tryz.prog 83 #[.int .i64 x, .int .i64 y] w fun e w' => e = .returned (.bool (decide (x < y))) ∧ ∃ n, w' = w.drewN n := by
  have hn : ∀ W, Calls Tryz.prog 116 #[.int .i64 x] W fun e w' => e = .returned (.bool false) ∧ W = w' := by
    intro W
    go_enter Tryz.func116, Tryz.ntmps116
    go_wp2
    go_ret
    exact ⟨rbool (by simp), rfl⟩
  go_enter Tryz.func83, Tryz.ntmps83
  go_wp2_with (go_at_call 116; refine (hn _).mono ?_; rintro e w' ⟨rfl, rfl⟩)
  go_ret
  exact ⟨rbool (by simp), 0, rfl⟩
theorem drewN_two {w w1 w2 : World} (h : ∃ n, w1 = w.drewN n) (k : ∃ n, w2 = w1.drewN n) : ∃ n, w2 = w.drewN n := by
  obtain ⟨n, rfl⟩ := h
  obtain ⟨m, rfl⟩ := k
  exact ⟨_, World.drewN_drewN ..⟩
def sortedB (xs : List Int) : Bool := decide (∀ i, i < xs.length - 1 → xs.getD i default ≤ xs.getD (i + 1) default)
set_option maxHeartbeats 1000000 in
theorem isSorted_int {w : World} {A : Option Addr} {c : Nat} {xs : List Int} (hx : Kd.C (Kd.int .i64) w A xs.length xs) :
    Calls Tryz.prog 55 #[.slice A xs.length c] w fun e w' => e = .returned (.bool (sortedB xs)) ∧ ∃ n, w' = w.drewN n := by
  have hm := Kd.C_max hx
  have HX := Aside0.mk hx
  clear hx
  go_enter Tryz.func55, Tryz.ntmps55
  go_wp2
  go_loopw [3] (fun i wr => ∃ k : Nat, k ≤ xs.length ∧ i = .int .i64 ((k : Int) - 1) ∧ Aside0 (∃ n, wr = w.drewN n) ∧ Aside0 (∀ i, k ≤ i + 1 → i + 1 < xs.length → xs.getD i default ≤ xs.getD (i + 1) default)) (fun i _ => (intOf i).toNat)
  case atStart => exact ⟨xs.length, Nat.le_refl _, rfl, ⟨0, rfl⟩, ⟨fun i h1 h2 => by omega⟩⟩
  case round =>
    obtain ⟨k, hk, rfl, HW, AF⟩ := hrel
    have HX : Aside0 (Kd.C (Kd.int .i64) wr A xs.length xs) := ⟨by
      obtain ⟨n, hn⟩ := HW.out
      rw [hn]
      exact Kd.C_drewN HX.out n⟩
    by_cases h1 : 2 ≤ k
    · obtain ⟨m, rfl⟩ : ∃ m, k = m + 2 := ⟨k - 2, by omega⟩
      have hz : (0 : Int) < ((m + 2 : Nat) : Int) - 1 := by omega
      have e1 : ((m + 2 : Nat) : Int) - 1 = (m : Int) + 1 := by omega
      rw [e1] at hz ⊢
      clear e1
      obtain ⟨ad, rfl, l2⟩ := at_int HX.out (m + 1) (by omega)
      obtain ⟨bd, e2, l3⟩ := at_int HX.out m (by omega)
      obtain rfl : ad = bd := by injection e2
      clear e2
      obtain ⟨u, hu⟩ : ∃ u, xs.getD (m + 1) default = u := ⟨_, rfl⟩
      obtain ⟨v, hv⟩ : ∃ v, xs.getD m default = v := ⟨_, rfl⟩
      rw [hu] at l2
      rw [hv] at l3
      have l4 : wr.cell? ⟨ad.block, ad.off + (m + 1), none⟩ = some (.int .i64 u) := by
        rw [← l2]
        unfold Addr.add
        rw [if_neg (by omega)]
      have HU := Aside0.mk hu
      have HV := Aside0.mk hv
      clear hu hv
      have hl := fun W => less_int u v W
      have i1 : (m : Int) + 1 < (xs.length : Int) := by omega
      by_cases huv : u < v
      · have HN := Aside0.mk huv
        have hl2 : ∀ W, Calls Tryz.prog 83 #[.int .i64 u, .int .i64 v] W fun e w' => e = .returned (.bool true) ∧ ∃ n, w' = W.drewN n := fun W => by
          have := hl W
          rwa [decide_eq_true HN.out] at this
        clear hl huv
        obtain ⟨q, hq⟩ : ∃ q : Int, q = (m : Int) + 1 := ⟨_, rfl⟩
        have hA : 0 ≤ q := by omega
        have hI : (m : Int) < (xs.length : Int) := by omega
        have hT : q.toNat = m + 1 := by omega
        have hS : IntKind.i64.wrap (q - 1) = (m : Int) := by rw [show q - 1 = (m : Int) from by omega]; exact IntWalk.i64_in _ (by omega)
        rw [← hq] at i1 hz ⊢
        have HQ := Aside0.mk hq
        clear hq
        go_wp2
        go_quiet ((go_at_call 83; exact Calls.quiet_of (hl2 _)))
        clear hT hS
        go_wp2
        go_ret
        refine ⟨rbool ?_, drewN_two HW.out ⟨_, rfl⟩⟩
        unfold sortedB
        exact (decide_eq_false fun h => by have := h m (by omega); rw [HU.out, HV.out] at this; have := HN.out; omega).symm
      · have HN := Aside0.mk huv
        have hl2 : ∀ W, Calls Tryz.prog 83 #[.int .i64 u, .int .i64 v] W fun e w' => e = .returned (.bool false) ∧ ∃ n, w' = W.drewN n := fun W => by
          have := hl W
          rwa [decide_eq_false HN.out] at this
        clear hl huv
        obtain ⟨q, hq⟩ : ∃ q : Int, q = (m : Int) + 1 := ⟨_, rfl⟩
        have hA : 0 ≤ q := by omega
        have hI : (m : Int) < (xs.length : Int) := by omega
        have hT : q.toNat = m + 1 := by omega
        have hS : IntKind.i64.wrap (q - 1) = (m : Int) := by rw [show q - 1 = (m : Int) from by omega]; exact IntWalk.i64_in _ (by omega)
        rw [← hq] at i1 hz ⊢
        have HQ := Aside0.mk hq
        clear hq
        go_wp2
        go_quiet ((go_at_call 83; exact Calls.quiet_of (hl2 _)))
        clear hT hS
        go_wp2
        go_roundw
        case rel =>
          refine ⟨m + 1, by omega, by (have e5 : q - 1 = ((m + 1 : Nat) : Int) - 1 := by (have := HQ.out; omega)); rw [e5], ⟨drewN_two HW.out ⟨_, rfl⟩⟩, ⟨fun i h1 h2 => ?_⟩⟩
          by_cases e : i = m
          · subst e
            rw [HU.out, HV.out]
            have := HN.out
            omega
          · exact AF.out i (by omega) h2
        case measure => have := HQ.out; simp [intOf]; omega
    · have hz : ¬ (0 : Int) < (k : Int) - 1 := by omega
      go_wp2
      go_ret
      refine ⟨rbool ?_, HW.out⟩
      unfold sortedB
      exact (decide_eq_true fun i h => AF.out i (by omega) (by omega)).symm
/-- Where a nonterminal's first rule stands; behind all, if there is none. -/
def Gm.firstAt (g : Gm) (s : Int) : Int := if idxF (fun r : Rl => decide (r.left = s)) g.rules < 0 then g.rules.length else idxF (fun r : Rl => decide (r.left = s)) g.rules
def Gm.firsts (g : Gm) (n : Nat) : List Int := (List.range n).map fun (i : Nat) => g.firstAt ((g.terms.length : Int) + 1 + (i : Int))
theorem firsts_succ (g : Gm) (n : Nat) : g.firsts (n + 1) = g.firsts n ++ [g.firstAt ((g.terms.length : Int) + 1 + (n : Int))] := by
  unfold Gm.firsts
  rw [List.range_succ, List.map_append]
  rfl
theorem firsts_len (g : Gm) (n : Nat) : (g.firsts n).length = n := by simp [Gm.firsts]
def Gm.ordered (g : Gm) : Bool := sortedB (g.firsts g.nons.length)
theorem ordered1 {W : World} {b : Nat} {s : Int} (x : Rl) (v : Value) (hv : Vrl W x v) (hb : W.cell? ⟨b, 0, none⟩ = some (.int .i64 s)) (hlt : b < W.heap.size) :
    Calls Tryz.prog 54 #[v, .pointer (some ⟨b, 0, none⟩)] W fun e w' => e = .returned (.bool (decide (x.left = s))) ∧ Below W.heap.size W w' := by
  obtain ⟨A, c, rfl, hl, hC⟩ := hv
  clear hC
  go_enter Tryz.func54, Tryz.ntmps54
  go_wp2
  go_ret
  exact ⟨rbool (by rw [Bool.eq_iff_iff]; simp), below_alloc (Below.refl _ _) _⟩
set_option maxHeartbeats 2000000 in
theorem gram_Ordered {w : World} {A0 A1 A2 : Option Addr} {c0 c1 c2 : Nat} {g : Gm} (h : GmAt w A0 A1 A2 c0 c1 c2 g) :
    Calls Tryz.prog 21 #[.agg (gv A0 A1 A2 c0 c1 c2 g)] w fun e w' => e = .returned (.bool g.ordered) ∧ Below w.heap.size w w' := by
  have h0 := h.m0
  have h1 := h.m1
  have h2 := h.m2
  obtain ⟨W0, hW0⟩ : ∃ W0, W0 = w.alloc (.cells (gv A0 A1 A2 c0 c1 c2 g) 25) := ⟨_, rfl⟩
  have hb0 := below_alloc (Below.refl _ w) (.cells (gv A0 A1 A2 c0 c1 c2 g) 25)
  have hk0 := blk_new w (.cells (gv A0 A1 A2 c0 c1 c2 g) 25)
  rw [← hW0] at hb0 hk0
  have H := Aside0.mk h
  have HB0 := Aside0.mk hb0
  have HK0 := Aside0.mk hk0
  have HW := Aside0.mk hW0
  clear h hb0 hk0 hW0
  unfold gv at *
  go_enter Tryz.func21, Tryz.ntmps21
  go_wp2
  rw [← HW.out]
  go_loopw [3, 4, 5, 6, 10] (fun v3 _ _ _ i wr => ∃ k : Nat, k ≤ g.nons.length ∧ i = .int .i64 k ∧ Aside0 (Below w.heap.size w wr) ∧ Aside0 (wr.heap[w.heap.size]? = some (.cells #[.slice A0 g.terms.length c0, .slice A1 g.nons.length c1, .slice A2 g.rules.length c2, .int .i64 g.start] 25 (0, 0))) ∧ Aside0 (Kd.R (Kd.int .i64) 3 wr w.heap.size (fun _ => True) v3 (g.firsts k))) (fun _ _ _ _ i _ => g.nons.length - (intOf i).toNat)
  case atStart => exact ⟨0, Nat.zero_le _, rfl, HB0, HK0, ⟨Kd.R_nil _ _ _ _ _⟩⟩
  case round =>
    clear HB0 HK0
    obtain ⟨k, hk, rfl, HB, HK, HO⟩ := hrel
    obtain ⟨f0, f1, f2, f3⟩ := gcells HK.out
    have hlt := blk_lt HK.out
    by_cases hkl : k < g.nons.length
    · have hkz : (k : Int) < (g.nons.length : Int) := by omega
      have HS := Aside0.mk (firsts_succ g k)
      have hln := firsts_len g k
      have hP : ∀ s : Int, PredV (wr.alloc (.cells #[.int .i64 s] 3)) (.func (.func 54) #[] #[.pointer (some ⟨wr.heap.size, 0, none⟩)]) (fun W x v => Vrl W x v ∧ x ∈ g.rules) (fun r => decide (r.left = s)) := by
        intro s
        refine ⟨_, _, rfl, fun _ _ => rfl, fun W x v hW hV => ?_⟩
        have hlt2 : wr.heap.size < W.heap.size := by have := hW.size; simp at this; omega
        exact ordered1 x v hV.1 ((hW.cell (p := ⟨wr.heap.size, 0, none⟩) (by simp)).trans (by simp)) hlt2
      have hw1 := below_alloc (Below.refl _ wr) (.cells #[.int .i64 ((g.terms.length : Int) + 1 + (k : Int))] 3)
      have hix := idx_rl (c := c2) (Kd.C_below H.out.rules (HB.out.trans (hw1.mono HB.out.size))) (by omega) (hP ((g.terms.length : Int) + 1 + (k : Int)))
      have HF : Aside0 (g.firstAt ((g.terms.length : Int) + 1 + (k : Int)) = if idxF (fun r : Rl => decide (r.left = (g.terms.length : Int) + 1 + (k : Int))) g.rules < 0 then (g.rules.length : Int) else idxF (fun r : Rl => decide (r.left = (g.terms.length : Int) + 1 + (k : Int))) g.rules) := ⟨rfl⟩
      have HW1 := Aside0.mk hw1
      clear hP hw1
      generalize idxF (fun r : Rl => decide (r.left = (g.terms.length : Int) + 1 + (k : Int))) g.rules = ix at *
      go_wp2_with (first | (go_at_call 53; refine hix.mono ?_; rintro e w2 ⟨rfl, hb2⟩; have HB2 := Aside0.mk (HB.out.trans ((HW1.out.trans (hb2.mono HW1.out.size)).mono HB.out.size)); have HK2 := Aside0.mk (blk_below HK.out (HW1.out.trans (hb2.mono HW1.out.size))); have HO2 := Aside0.mk (Kd.R_below HO.out (HW1.out.trans (hb2.mono HW1.out.size))); clear hb2 f0 f1 f2 f3; (obtain ⟨f0, f1, f2, f3⟩ := gcells HK2.out)) | (at_builtin; go_loud (refine Kd.R_append (Kd.int .i64) (w0 := w) w.heap.size rfl (.tmp 28) (.tmp 30) 38 3 (.int .i64 0) 8 rfl Tryz.underlying38 info3 rfl (by decide) (by omega) u3 (g.firsts k) _ [.int .i64 _] (fun _ => True) (fun _ => False) rfl rfl rfl (fun _ hk => hk.elim) (fun _ _ => trivial) HO2.out HB2.out HB2.out.size (by rw [hln]; omega) ?_); intro v1 w3 ho hb hg hat))
      all_goals
        go_roundw
        case rel =>
          refine ⟨k + 1, by omega, by go_num, ⟨hb⟩, ⟨blk_grown HK2.out hg (Kd.R_ne HO2.out HK2.out (by decide))⟩, ⟨?_⟩⟩
          rw [HS.out, HF.out]
          first | rw [if_pos (by omega)] | rw [if_neg (by omega)]
          exact ho
        case measure => simp [intOf]; omega
    · have hkz : ¬ (k : Int) < (g.nons.length : Int) := by omega
      obtain rfl : k = g.nons.length := by omega
      obtain ⟨A, cap, rfl, hle, hC⟩ := Kd.R_reads HO.out
      have hs := isSorted_int (c := cap) hC
      clear hC HO
      go_wp2_with (go_at_call 55; refine hs.mono ?_; rintro e w2 ⟨rfl, n, rfl⟩)
      go_ret
      exact ⟨rfl, pw_below_drewN HB.out _⟩
end Go.Proofs.YtliofoikejdjeaaGreat
/- The document's many, form, Place, once. -/
namespace Go.Proofs.YtliofoikejdjeaaGreat
open Go.RowKit Go.Proofs.YtliofoikejdjeaaGreatW.PrintWords
theorem nodup_take {xs : List ByteArray} {k : Nat} (hk : k < xs.length) : (xs.take (k + 1)).Nodup ↔ (xs.take k).Nodup ∧ xs.getD k default ∉ xs.take k := by
  have hl : xs.getD k default = xs[k] := by rw [List.getD_eq_getElem?_getD, List.getElem?_eq_getElem hk]; rfl
  rw [List.take_succ_eq_append_getElem hk, List.nodup_append, hl]
  constructor
  · rintro ⟨h1, _, h3⟩
    exact ⟨h1, fun hm => h3 _ hm _ (by simp) rfl⟩
  · rintro ⟨h1, h2⟩
    refine ⟨h1, by simp, fun a ha b hb => ?_⟩
    rw [List.mem_singleton] at hb
    subst hb
    intro e
    subst e
    exact h2 ha
set_option maxHeartbeats 1000000 in
theorem ref06_once {w : World} {A : Option Addr} {c : Nat} {xs : List ByteArray} (hx : Kd.C Kd.string w A xs.length xs) (hc : xs.length ≤ c) :
    Calls Tryz.prog 14 #[.slice A xs.length c] w fun e w' => e = .returned (.bool (decide xs.Nodup)) ∧ ∃ n, w' = w.drewN n := by
  have hm := Kd.C_max hx
  have HX := Aside0.mk hx
  clear hx
  go_enter Tryz.func14, Tryz.ntmps14
  go_wp2
  go_loopw [3] (fun i wr => ∃ k : Nat, k ≤ xs.length ∧ i = .int .i64 k ∧ Aside0 (∃ n, wr = w.drewN n) ∧ Aside0 (xs.take k).Nodup) (fun i _ => xs.length - (intOf i).toNat)
  case atStart => exact ⟨0, Nat.zero_le _, rfl, ⟨0, rfl⟩, ⟨by simp⟩⟩
  case round =>
    obtain ⟨k, hk, rfl, HW, AF⟩ := hrel
    have HX : Aside0 (Kd.C Kd.string wr A xs.length xs) := ⟨by
      obtain ⟨n, hn⟩ := HW.out
      rw [hn]
      exact Kd.C_drewN HX.out n⟩
    by_cases hlt : k < xs.length
    · have hltz : (k : Int) < (xs.length : Int) := by omega
      obtain ⟨ad, rfl, l2⟩ := at_str HX.out k hlt
      have hC := Kd.C_take HX.out hk
      have hl : (xs.take k).length = k := by rw [List.length_take]; omega
      obtain ⟨y, hy⟩ : ∃ y, xs.getD k default = y := ⟨_, rfl⟩
      rw [hy] at l2
      have HY := Aside0.mk hy
      clear hy
      have hp : ∀ n, Calls Tryz.prog 35 #[.slice (some ad) k c, .string y] (wr.drewN n) fun e w' => e = .returned (.int .i64 (placeS (xs.take k) y)) ∧ w' = wr.drewN n := fun n => by
        have := ref04_Place (c := c) (Kd.C_drewN hC n) y
        rwa [hl] at this
      have HM := Aside0.mk (place_mem (xs.take k) y)
      clear hC hl
      generalize placeS (xs.take k) y = pl at *
      by_cases h0 : 0 ≤ pl
      · have HF : Aside0 (¬ xs.Nodup) := ⟨fun h => by
          have h1 : (xs.take (k + 1)).Nodup := List.Nodup.sublist (List.take_sublist _ _) h
          rw [nodup_take hlt, HY.out] at h1
          exact h1.2 (HM.out.1 h0)⟩
        go_wp2
        go_quiet ((go_at_call 35; exact Calls.quiet_of_same (hp _)))
        go_wp2
        go_ret
        exact ⟨rbool (decide_eq_false HF.out).symm, drewN_two HW.out ⟨_, rfl⟩⟩
      · have HF : Aside0 ((xs.take (k + 1)).Nodup) := ⟨by
          rw [nodup_take hlt, HY.out]
          exact ⟨AF.out, fun hm => h0 (HM.out.2 hm)⟩⟩
        go_wp2
        go_quiet ((go_at_call 35; exact Calls.quiet_of_same (hp _)))
        go_wp2
        go_roundw
        case rel => exact ⟨k + 1, by omega, by go_num, ⟨drewN_two HW.out ⟨_, rfl⟩⟩, HF⟩
        case measure => simp [intOf]; omega
    · have hltz : ¬ (k : Int) < (xs.length : Int) := by omega
      obtain rfl : k = xs.length := by omega
      go_wp2
      go_ret
      refine ⟨rbool ?_, HW.out⟩
      have := AF.out
      rw [List.take_length] at this
      exact (decide_eq_true this).symm
end Go.Proofs.YtliofoikejdjeaaGreat
/- The document's many, form, unlike, known. -/
namespace Go.Proofs.YtliofoikejdjeaaGreat
open Go.RowKit Go.Proofs.YtliofoikejdjeaaGreatW.PrintWords
set_option linter.unusedVariables false
set_option maxRecDepth 100000
set_option linter.unusedSimpArgs false
theorem all_of {α : Type} [Inhabited α] {xs : List α} {p : α → Bool} (h : ∀ j, j < xs.length → p (xs.getD j default) = true) : xs.all p = true := by
  rw [List.all_eq_true]
  intro x hx
  obtain ⟨j, hj, rfl⟩ := List.mem_iff_getElem.1 hx
  have := h j hj
  rwa [List.getD_eq_getElem?_getD, List.getElem?_eq_getElem hj] at this
theorem all_not {α : Type} [Inhabited α] {xs : List α} {p : α → Bool} {k : Nat} (hk : k < xs.length) (h : p (xs.getD k default) = false) : xs.all p = false := by
  rw [Bool.eq_false_iff]
  intro ha
  rw [List.all_eq_true] at ha
  have := ha xs[k] (List.getElem_mem hk)
  rw [List.getD_eq_getElem?_getD, List.getElem?_eq_getElem hk] at h
  simp at h
  rw [h] at this
  exact Bool.noConfusion this
theorem lt_snoc {α : Type} [Inhabited α] {P : Nat → Prop} {k : Nat} (h : ∀ j, j < k → P j) (hk : P k) : ∀ j, j < k + 1 → P j := fun j hj => by
  rcases Nat.lt_or_ge j k with h1 | h1
  · exact h j h1
  · obtain rfl : j = k := by omega
    exact hk
def manyB (g : Gm) : Bool := !g.rules.all shortR || (decide (120 < g.terms.length) || decide (120 < g.nons.length) || decide (300 < g.rules.length))
section
variable {w : World} {A0 A1 A2 : Option Addr} {c0 c1 c2 : Nat} {g : Gm}
set_option maxHeartbeats 2000000 in
theorem ref06_many (h : GmAt w A0 A1 A2 c0 c1 c2 g) : Calls Tryz.prog 12 #[.agg (gv A0 A1 A2 c0 c1 c2 g)] w fun e w' => e = .returned (.bool (manyB g)) ∧ Below w.heap.size w w' := by
  have h0 := h.m0
  have h1 := h.m1
  have h2 := h.m2
  have hb0 := below_alloc (Below.refl _ w) (.cells (gv A0 A1 A2 c0 c1 c2 g) 25)
  have hk0 := blk_new w (.cells (gv A0 A1 A2 c0 c1 c2 g) 25)
  have HR := Aside0.mk (Kd.C_below h.rules hb0)
  clear h
  unfold gv at *
  go_enter Tryz.func12, Tryz.ntmps12
  go_wp2
  generalize w.alloc (.cells #[.slice A0 g.terms.length c0, .slice A1 g.nons.length c1, .slice A2 g.rules.length c2, .int .i64 g.start] 25) = W0 at *
  have HB0 := Aside0.mk hb0
  obtain ⟨f0, f1, f2, f3⟩ := gcells hk0
  clear hb0 hk0
  go_loop [3] (fun i => ∃ k : Nat, k ≤ g.rules.length ∧ i = .int .i64 k ∧ Aside0 (∀ j, j < k → shortR (g.rules.getD j default) = true)) (fun i => g.rules.length - (intOf i).toNat)
  case atStart => exact ⟨0, Nat.zero_le _, rfl, ⟨fun j hj => absurd hj (Nat.not_lt_zero _)⟩⟩
  case round =>
    obtain ⟨k, hk, rfl, AF⟩ := hrel
    by_cases hlt : k < g.rules.length
    · have hltz : (k : Int) < (g.rules.length : Int) := by omega
      obtain ⟨ad, A, c, rfl, k1, k2, k3, k4⟩ := at_rl HR.out k hlt
      have k5 := Kd.C_max k4
      clear k4
      obtain ⟨y, hy⟩ : ∃ y, g.rules.getD k default = y := ⟨_, rfl⟩
      rw [hy] at k1 k2 k3 k5
      have HY := Aside0.mk hy
      clear hy
      by_cases hs : y.right.length ≤ 8
      · have hz : ¬ (8 : Int) < (y.right.length : Int) := by omega
        have HS := Aside0.mk hs
        clear hs
        go_wp2
        go_round
        case rel => exact ⟨k + 1, by omega, by go_num, ⟨lt_snoc (α := Nat) AF.out (by rw [HY.out]; exact decide_eq_true HS.out)⟩⟩
        case measure => simp [intOf]; omega
      · have hz : (8 : Int) < (y.right.length : Int) := by omega
        have HS := Aside0.mk hs
        clear hs
        go_wp2
        go_ret
        refine ⟨rbool ?_, HB0.out⟩
        unfold manyB
        rw [all_not hlt (by rw [HY.out]; exact decide_eq_false HS.out)]
        rfl
    · have hltz : ¬ (k : Int) < (g.rules.length : Int) := by omega
      obtain rfl : k = g.rules.length := by omega
      have HM : Aside0 (manyB g = (decide (120 < g.terms.length) || decide (120 < g.nons.length) || decide (300 < g.rules.length))) := ⟨by unfold manyB; rw [all_of AF.out]; rfl⟩
      by_cases b0 : (120 : Int) < (g.terms.length : Int)
      · go_wp2
        go_ret
        exact ⟨rbool (by rw [HM.out, decide_eq_true (by omega : 120 < g.terms.length)]; rfl), HB0.out⟩
      · by_cases b1 : (120 : Int) < (g.nons.length : Int)
        · go_wp2
          go_ret
          exact ⟨rbool (by rw [HM.out, decide_eq_true (by omega : 120 < g.nons.length)]; simp), HB0.out⟩
        · go_wp2
          go_ret
          refine ⟨rbool ?_, HB0.out⟩
          rw [HM.out, decide_eq_false (by omega : ¬ 120 < g.terms.length), decide_eq_false (by omega : ¬ 120 < g.nons.length)]
          simp
          omega
set_option maxHeartbeats 2000000 in
theorem ref06_form (h : GmAt w A0 A1 A2 c0 c1 c2 g) (hsz : ∀ s ∈ g.names, s.size ≤ 140737488351232) :
    Calls Tryz.prog 13 #[.agg (gv A0 A1 A2 c0 c1 c2 g)] w fun e w' => e = .returned (.bool (g.terms.all termOk && g.nons.all plainOk)) ∧ Below w.heap.size w w' := by
  have h0 := h.m0
  have h1 := h.m1
  have h2 := h.m2
  have hb0 := below_alloc (Below.refl _ w) (.cells (gv A0 A1 A2 c0 c1 c2 g) 25)
  have HK := Aside0.mk (blk_new w (.cells (gv A0 A1 A2 c0 c1 c2 g) 25))
  have HT := Aside0.mk h.terms
  have HN := Aside0.mk h.nons
  have ZT : Aside0 (∀ s ∈ g.terms, s.size ≤ 140737488351232) := ⟨fun s hs => hsz s (List.mem_append_left _ hs)⟩
  have ZN : Aside0 (∀ s ∈ g.nons, s.size ≤ 140737488351232) := ⟨fun s hs => hsz s (List.mem_append_right _ hs)⟩
  clear h hsz
  unfold gv at *
  go_enter Tryz.func13, Tryz.ntmps13
  go_wp2
  generalize w.alloc (.cells #[.slice A0 g.terms.length c0, .slice A1 g.nons.length c1, .slice A2 g.rules.length c2, .int .i64 g.start] 25) = W0 at *
  have HB0 := Aside0.mk hb0
  have hlt0 := blk_lt HK.out
  clear hb0
  go_loopw [3] (fun i wr => ∃ k : Nat, k ≤ g.terms.length ∧ i = .int .i64 k ∧ w.heap.size < wr.heap.size ∧ Aside0 (Below W0.heap.size W0 wr) ∧ Aside0 (∀ j, j < k → termOk (g.terms.getD j default) = true)) (fun i _ => g.terms.length - (intOf i).toNat)
  case atStart => exact ⟨0, Nat.zero_le _, rfl, hlt0, ⟨Below.refl _ _⟩, ⟨fun j hj => absurd hj (Nat.not_lt_zero _)⟩⟩
  case round =>
    obtain ⟨k, hk, rfl, hlt1, HB, AF⟩ := hrel
    obtain ⟨f0, f1, f2, f3⟩ := gcells (blk_below HK.out HB.out)
    by_cases hlt : k < g.terms.length
    · have hltz : (k : Int) < (g.terms.length : Int) := by omega
      obtain ⟨ad, rfl, l2⟩ := at_str (Kd.C_below HT.out (HB0.out.trans (HB.out.mono HB0.out.size))) k hlt
      have hys : (g.terms.getD k default).size ≤ 140737488351232 := ZT.out _ (getD_mem hlt)
      have hlb := World.block_lt_of_cell? _ _ l2
      obtain ⟨y, hy⟩ : ∃ y, g.terms.getD k default = y := ⟨_, rfl⟩
      rw [hy] at l2 hys
      have HY := Aside0.mk hy
      clear hy
      have KP := Aside0.mk (fun W => ref06_plain y hys W)
      have KQ := Aside0.mk (fun W => ref05_Quoted y hys W)
      obtain ⟨t, ht⟩ : ∃ t, termOk y = t := ⟨_, rfl⟩
      have ht' := ht
      unfold termOk at ht'
      obtain ⟨p, hp⟩ : ∃ p, plainOk y = p := ⟨_, rfl⟩
      rw [hp] at KP ht'
      clear hp
      obtain ⟨q, hq⟩ : ∃ q, isQuoted y = q := ⟨_, rfl⟩
      rw [hq] at KQ ht'
      clear hq hys
      have HTK := Aside0.mk ht
      clear ht
      subst ht'
      cases p with
      | true =>
        go_wp2_with (go_at_call 33; refine (KP.out _).mono ?_; rintro e w1 ⟨rfl, hb1⟩)
        go_roundw
        case rel =>
          have h3 := hb1.size
          exact ⟨k + 1, by omega, by go_num, by omega, ⟨HB.out.trans (hb1.mono HB.out.size)⟩, ⟨lt_snoc (α := Nat) AF.out (by rw [HY.out]; exact HTK.out)⟩⟩
        case measure => simp [intOf]; omega
      | false =>
        cases q with
        | true =>
          go_wp2_with (first | (go_at_call 33; refine (KP.out _).mono ?_; rintro e w1 ⟨rfl, hb1⟩; have g0 := (hb1.cell (p := ⟨w.heap.size, 0, none⟩) hlt1).trans f0; have g1 := (hb1.cell (p := ad.add k) hlb).trans l2) | (go_at_call 34; refine (KQ.out _).mono ?_; rintro e w2 ⟨rfl, hb2⟩))
          go_roundw
          case rel =>
            have h3 := hb1.size
            have h4 := hb2.size
            have h5 := hb1.trans (hb2.mono hb1.size)
            exact ⟨k + 1, by omega, by go_num, by omega, ⟨HB.out.trans (h5.mono HB.out.size)⟩, ⟨lt_snoc (α := Nat) AF.out (by rw [HY.out]; exact HTK.out)⟩⟩
          case measure => simp [intOf]; omega
        | false =>
          go_wp2_with (first | (go_at_call 33; refine (KP.out _).mono ?_; rintro e w1 ⟨rfl, hb1⟩; have g0 := (hb1.cell (p := ⟨w.heap.size, 0, none⟩) hlt1).trans f0; have g1 := (hb1.cell (p := ad.add k) hlb).trans l2) | (go_at_call 34; refine (KQ.out _).mono ?_; rintro e w2 ⟨rfl, hb2⟩))
          go_ret
          have h5 := hb1.trans (hb2.mono hb1.size)
          have h6 := HB.out.trans (h5.mono HB.out.size)
          exact ⟨rbool (by rw [all_not hlt (by rw [HY.out]; exact HTK.out)]; rfl), HB0.out.trans (h6.mono HB0.out.size)⟩
    · have hltz : ¬ (k : Int) < (g.terms.length : Int) := by omega
      obtain rfl : k = g.terms.length := by omega
      have HTA := Aside0.mk (all_of AF.out)
      clear AF hlt hk
      go_wp2
      go_loopw [4] (fun i wr => ∃ k : Nat, k ≤ g.nons.length ∧ i = .int .i64 k ∧ w.heap.size < wr.heap.size ∧ Aside0 (Below W0.heap.size W0 wr) ∧ Aside0 (∀ j, j < k → plainOk (g.nons.getD j default) = true)) (fun i _ => g.nons.length - (intOf i).toNat)
      case atStart => exact ⟨0, Nat.zero_le _, rfl, hlt1, HB, ⟨fun j hj => absurd hj (Nat.not_lt_zero _)⟩⟩
      case round =>
        clear HB f0 f1 f2 f3 hlt1 hltz
        obtain ⟨k, hk, rfl, hlt1, HB, AF⟩ := hrel
        obtain ⟨f0, f1, f2, f3⟩ := gcells (blk_below HK.out HB.out)
        by_cases hlt : k < g.nons.length
        · have hltz : (k : Int) < (g.nons.length : Int) := by omega
          obtain ⟨ad, rfl, l2⟩ := at_str (Kd.C_below HN.out (HB0.out.trans (HB.out.mono HB0.out.size))) k hlt
          have hys : (g.nons.getD k default).size ≤ 140737488351232 := ZN.out _ (getD_mem hlt)
          obtain ⟨y, hy⟩ : ∃ y, g.nons.getD k default = y := ⟨_, rfl⟩
          rw [hy] at l2 hys
          have HY := Aside0.mk hy
          clear hy
          have KP := Aside0.mk (fun W => ref06_plain y hys W)
          obtain ⟨p, hp⟩ : ∃ p, plainOk y = p := ⟨_, rfl⟩
          rw [hp] at KP
          have HP := Aside0.mk hp
          clear hp hys
          cases p with
          | true =>
            go_wp2_with (go_at_call 33; refine (KP.out _).mono ?_; rintro e w1 ⟨rfl, hb1⟩)
            go_roundw
            case rel =>
              have h3 := hb1.size
              exact ⟨k + 1, by omega, by go_num, by omega, ⟨HB.out.trans (hb1.mono HB.out.size)⟩, ⟨lt_snoc (α := Nat) AF.out (by rw [HY.out]; exact HP.out)⟩⟩
            case measure => simp [intOf]; omega
          | false =>
            go_wp2_with (go_at_call 33; refine (KP.out _).mono ?_; rintro e w1 ⟨rfl, hb1⟩)
            go_ret
            have h6 := HB.out.trans (hb1.mono HB.out.size)
            exact ⟨rbool (by rw [HTA.out, all_not hlt (by rw [HY.out]; exact HP.out)]; rfl), HB0.out.trans (h6.mono HB0.out.size)⟩
        · have hltz : ¬ (k : Int) < (g.nons.length : Int) := by omega
          obtain rfl : k = g.nons.length := by omega
          go_wp2
          go_ret
          exact ⟨rbool (by rw [HTA.out, all_of AF.out]; rfl), HB0.out.trans (HB.out.mono HB0.out.size)⟩
end
end Go.Proofs.YtliofoikejdjeaaGreat
/- The document's unlike, known. -/
namespace Go.Proofs.YtliofoikejdjeaaGreat
open Go.RowKit Go.Proofs.YtliofoikejdjeaaGreatW.PrintWords
set_option linter.unusedVariables false
set_option maxRecDepth 100000
set_option linter.unusedSimpArgs false
section
variable {w : World} {A0 A1 A2 : Option Addr} {c0 c1 c2 : Nat} {g : Gm}
set_option maxHeartbeats 2000000 in
theorem ref06_unlike (h : GmAt w A0 A1 A2 c0 c1 c2 g) : Calls Tryz.prog 17 #[.agg (gv A0 A1 A2 c0 c1 c2 g)] w fun e w' => e = .returned (.bool (unlikeR g.rules)) ∧ Below w.heap.size w w' := by
  have h2 := h.m2
  have hb0 := below_alloc (Below.refl _ w) (.cells (gv A0 A1 A2 c0 c1 c2 g) 25)
  have HK := Aside0.mk (blk_new w (.cells (gv A0 A1 A2 c0 c1 c2 g) 25))
  have HR := Aside0.mk (Kd.C_below h.rules hb0)
  clear h
  unfold gv at *
  go_enter Tryz.func17, Tryz.ntmps17
  go_wp2
  generalize w.alloc (.cells #[.slice A0 g.terms.length c0, .slice A1 g.nons.length c1, .slice A2 g.rules.length c2, .int .i64 g.start] 25) = W0 at *
  have HB0 := Aside0.mk hb0
  have hlt0 := blk_lt HK.out
  clear hb0
  go_loopw [3, 4] (fun i _ wr => ∃ k : Nat, k ≤ g.rules.length ∧ i = .int .i64 k ∧ w.heap.size < wr.heap.size ∧ Aside0 (Below W0.heap.size W0 wr) ∧ Aside0 (∀ i, i < k → ∀ j, j < i → g.rules.getD j default ≠ g.rules.getD i default)) (fun i _ _ => g.rules.length - (intOf i).toNat)
  case atStart => exact ⟨0, Nat.zero_le _, rfl, hlt0, ⟨Below.refl _ _⟩, ⟨fun j hj => absurd hj (Nat.not_lt_zero _)⟩⟩
  case round =>
    clear hlt0
    obtain ⟨k, hk, rfl, hlt1, HB, AF⟩ := hrel
    obtain ⟨f0, f1, f2, f3⟩ := gcells (blk_below HK.out HB.out)
    by_cases hkl : k < g.rules.length
    · have hkz : (k : Int) < (g.rules.length : Int) := by omega
      obtain ⟨x, hx⟩ : ∃ x, g.rules.getD k default = x := ⟨_, rfl⟩
      have HX := Aside0.mk hx
      clear hx
      go_wp2
      go_loopw [4] (fun i wr => ∃ m : Nat, m ≤ k ∧ i = .int .i64 m ∧ w.heap.size < wr.heap.size ∧ Aside0 (Below W0.heap.size W0 wr) ∧ Aside0 (∀ j, j < m → g.rules.getD j default ≠ x)) (fun i _ => k - (intOf i).toNat)
      case atStart => exact ⟨0, Nat.zero_le _, rfl, hlt1, HB, ⟨fun j hj => absurd hj (Nat.not_lt_zero _)⟩⟩
      case round =>
        clear HB f0 f1 f2 f3 hlt1
        obtain ⟨m, hm, rfl, hlt1, HB, AG⟩ := hrel
        by_cases hmk : m < k
        · have hmz : (m : Int) < (k : Int) := by omega
          have hml : (m : Int) < (g.rules.length : Int) := by omega
          have HC := Aside0.mk (Kd.C_below HR.out HB.out)
          have h3 := hlt1
          obtain ⟨ad, Ax, cx, hA, k1, k2, k3, k4⟩ := at_rl HC.out k hkl
          obtain ⟨ad', Ay, cy, hA', m1, m2, m3, m4⟩ := at_rl HC.out m (by omega)
          obtain rfl : ad = ad' := Option.some.inj (hA.symm.trans hA')
          subst hA
          clear hA'
          rw [HX.out] at k1 k2 k3 k4
          obtain ⟨y, hy⟩ : ∃ y, g.rules.getD m default = y := ⟨_, rfl⟩
          rw [hy] at m1 m2 m3 m4
          have HY := Aside0.mk hy
          clear hy k3 m3
          have hd : Aside0 (∀ W, Below wr.heap.size wr W → Calls Tryz.prog 32 #[.agg #[.int .i64 x.left, .slice Ax x.right.length cx], .agg #[.int .i64 y.left, .slice Ay y.right.length cy]] W fun e w' => e = .returned (.bool (decide (x = y))) ∧ Below W.heap.size W w') := ⟨fun W hb => ref06_SameRule (Kd.C_below k4 hb) (Kd.C_below m4 hb)⟩
          clear k4 m4
          obtain ⟨d, hdd⟩ : ∃ d, decide (x = y) = d := ⟨_, rfl⟩
          rw [hdd] at hd
          have HD := Aside0.mk hdd
          clear hdd
          have hla := World.block_lt_of_cell? _ _ k1
          have hlb := World.block_lt_of_cell? _ _ m1
          have key : ∀ w', Below wr.heap.size wr w' → w'.cell? ⟨w.heap.size, 2, none⟩ = some (.slice (some ad) g.rules.length c2) ∧ w'.cell? (ad.add (k * 2)) = some (.int .i64 x.left) ∧ w'.cell? ⟨(ad.add (k * 2)).block, (ad.add (k * 2)).off + 1, none⟩ = some (.slice Ax x.right.length cx) ∧ w'.cell? (ad.add (m * 2)) = some (.int .i64 y.left) ∧ w'.cell? ⟨(ad.add (m * 2)).block, (ad.add (m * 2)).off + 1, none⟩ = some (.slice Ay y.right.length cy) := fun w' hw =>
            ⟨(blk_cell (blk_below (blk_below HK.out HB.out) hw) 2).trans rfl, (hw.cell (p := ad.add (k * 2)) hla).trans k1, (hw.cell (p := ⟨(ad.add (k * 2)).block, (ad.add (k * 2)).off + 1, none⟩) hla).trans k2, (hw.cell (p := ad.add (m * 2)) hlb).trans m1, (hw.cell (p := ⟨(ad.add (m * 2)).block, (ad.add (m * 2)).off + 1, none⟩) hlb).trans m2⟩
          have f2 := (key wr (Below.refl _ _)).1
          have KEY := Aside0.mk key
          clear key k1 k2 m1 m2 hla hlb
          go_wp2
          refine wp_region_det (vs := [?d1xv0, ?d1xv1, ?d1xv2, ?d1xv3, ?d1xv4, ?d1xv5, ?d1xv6, ?d1xv7, ?d1xv8, ?d1xv9, ?d1xv10]) (fun w' => Below wr.heap.size wr w') rfl (by kernel_rfl) (putAll_put (by simp only [Act.put, List.setIfInBounds_toArray, List.set_cons_zero, List.set_cons_succ]; rfl) (putAll_put (by simp only [Act.put, List.setIfInBounds_toArray, List.set_cons_zero, List.set_cons_succ]; rfl) (putAll_put (by simp only [Act.put, List.setIfInBounds_toArray, List.set_cons_zero, List.set_cons_succ]; rfl) (putAll_put (by simp only [Act.put, List.setIfInBounds_toArray, List.set_cons_zero, List.set_cons_succ]; rfl) (putAll_put (by simp only [Act.put, List.setIfInBounds_toArray, List.set_cons_zero, List.set_cons_succ]; rfl) (putAll_put (by simp only [Act.put, List.setIfInBounds_toArray, List.set_cons_zero, List.set_cons_succ]; rfl) (putAll_put (by simp only [Act.put, List.setIfInBounds_toArray, List.set_cons_zero, List.set_cons_succ]; rfl) (putAll_put (by simp only [Act.put, List.setIfInBounds_toArray, List.set_cons_zero, List.set_cons_succ]; rfl) (putAll_put (by simp only [Act.put, List.setIfInBounds_toArray, List.set_cons_zero, List.set_cons_succ]; rfl) (putAll_put (by simp only [Act.put, List.setIfInBounds_toArray, List.set_cons_zero, List.set_cons_succ]; rfl) (putAll_put (by simp only [Act.put, List.setIfInBounds_toArray, List.set_cons_zero, List.set_cons_succ]; rfl) (putAll_nil _)))))))))))) (below_drew (Below.refl _ _)) ?d1xOps ?d1xFin
          case d1xOps =>
            refine ⟨fun w' hw => ?d1xo0, fun w' hw => ?d1xo1, fun w' hw => ?d1xo2, fun w' hw => ?d1xo3, fun w' hw => ?d1xo4, fun w' hw => ?d1xo5, fun w' hw => ?d1xo6, fun w' hw => ?d1xo7, fun w' hw => ?d1xo8, fun w' hw => ?d1xo9, fun w' hw => ?d1xo10, trivial⟩
            case d1xo0 => obtain ⟨f1, f2, f3, f4, f5⟩ := KEY.out w' hw; go_simp; rfl
            case d1xo1 => obtain ⟨f1, f2, f3, f4, f5⟩ := KEY.out w' hw; go_simp; rfl
            case d1xo2 => obtain ⟨f1, f2, f3, f4, f5⟩ := KEY.out w' hw; go_simp; rfl
            case d1xo3 => obtain ⟨f1, f2, f3, f4, f5⟩ := KEY.out w' hw; go_simp; rfl
            case d1xo4 => obtain ⟨f1, f2, f3, f4, f5⟩ := KEY.out w' hw; go_simp; rfl
            case d1xo5 => obtain ⟨f1, f2, f3, f4, f5⟩ := KEY.out w' hw; go_simp; rfl
            case d1xo6 => obtain ⟨f1, f2, f3, f4, f5⟩ := KEY.out w' hw; go_simp; rfl
            case d1xo7 => obtain ⟨f1, f2, f3, f4, f5⟩ := KEY.out w' hw; go_simp; rfl
            case d1xo8 => obtain ⟨f1, f2, f3, f4, f5⟩ := KEY.out w' hw; go_simp; rfl
            case d1xo9 => obtain ⟨f1, f2, f3, f4, f5⟩ := KEY.out w' hw; go_simp; rfl
            case d1xo10 => obtain ⟨f1, f2, f3, f4, f5⟩ := KEY.out w' hw; (go_simp; refine (hd.out w' hw).mono ?_; rintro e w2 ⟨rfl, hb2⟩; exact ⟨by rfl, hw.trans (hb2.mono hw.size)⟩)
          case d1xFin =>
            intro w' hw
            cases d with
            | true =>
              go_wp2
              go_ret
              have h6 := HB.out.trans (hw.mono HB.out.size)
              exact ⟨rbool (decide_eq_false fun h => h k hkl m hmk (by rw [HX.out, HY.out]; exact (of_decide_eq_true HD.out).symm)).symm, HB0.out.trans (h6.mono HB0.out.size)⟩
            | false =>
              go_wp2
              go_roundw
              case rel =>
                have h3 := hw.size
                exact ⟨m + 1, by omega, by go_num, by omega, ⟨HB.out.trans (hw.mono HB.out.size)⟩, ⟨lt_snoc (α := Nat) AG.out (by rw [HY.out]; exact fun h => of_decide_eq_false HD.out h.symm)⟩⟩
              case measure => simp [intOf]; omega
        · have hmz : ¬ (m : Int) < (k : Int) := by omega
          obtain rfl : m = k := by omega
          go_wp2
          go_roundw
          case rel => exact ⟨m + 1, by omega, by go_num, hlt1, HB, ⟨lt_snoc (α := Nat) AF.out (by rw [HX.out]; exact AG.out)⟩⟩
          case measure => simp [intOf]; omega
    · have hkz : ¬ (k : Int) < (g.rules.length : Int) := by omega
      obtain rfl : k = g.rules.length := by omega
      go_wp2
      go_ret
      exact ⟨rbool (decide_eq_true AF.out).symm, HB0.out.trans (HB.out.mono HB0.out.size)⟩
end
end Go.Proofs.YtliofoikejdjeaaGreat
/- The document's known. -/
namespace Go.Proofs.YtliofoikejdjeaaGreat
open Go.RowKit Go.Proofs.YtliofoikejdjeaaGreatW.PrintWords
set_option linter.unusedVariables false
set_option maxRecDepth 100000
set_option linter.unusedSimpArgs false
def Gm.knownB (g : Gm) : Bool := g.isNon g.start && g.rules.all fun r => g.knownR r
section
variable {w : World} {A0 A1 A2 : Option Addr} {c0 c1 c2 : Nat} {g : Gm}
set_option maxHeartbeats 4000000 in
theorem ref06_known (h : GmAt w A0 A1 A2 c0 c1 c2 g) : Calls Tryz.prog 16 #[.agg (gv A0 A1 A2 c0 c1 c2 g)] w fun e w' => e = .returned (.bool g.knownB) ∧ Below w.heap.size w w' := by
  have h1 := h.m1
  have h2 := h.m2
  have hb0 := below_alloc (Below.refl _ w) (.cells (gv A0 A1 A2 c0 c1 c2 g) 25)
  have HK := Aside0.mk (blk_new w (.cells (gv A0 A1 A2 c0 c1 c2 g) 25))
  have H := h.below hb0
  have HR := Aside0.mk (Kd.C_below h.rules hb0)
  obtain ⟨W0, hW0⟩ : ∃ W0, W0 = w.alloc (.cells (gv A0 A1 A2 c0 c1 c2 g) 25) := ⟨_, rfl⟩
  rw [← hW0] at hb0 HK H HR
  have KN : Aside0 (∀ W (s : Int), Below W0.heap.size W0 W → Calls Tryz.prog 36 #[.agg #[.slice A0 g.terms.length c0, .slice A1 g.nons.length c1, .slice A2 g.rules.length c2, .int .i64 g.start], .int .i64 s] W fun e w' => e = .returned (.bool (g.isNon s)) ∧ Below W.heap.size W w') := ⟨fun W s hb => ref06_Non (H.below hb) s⟩
  have KT : Aside0 (∀ W (s : Int), Below W0.heap.size W0 W → Calls Tryz.prog 37 #[.agg #[.slice A0 g.terms.length c0, .slice A1 g.nons.length c1, .slice A2 g.rules.length c2, .int .i64 g.start], .int .i64 s] W fun e w' => e = .returned (.bool (g.isTerm s)) ∧ Below W.heap.size W w') := ⟨fun W s hb => ref06_Term (H.below hb) s⟩
  have HB0 := Aside0.mk hb0
  have HW := Aside0.mk hW0
  have hlt0 := blk_lt HK.out
  have hgc := gcells HK.out
  clear h H hb0 hW0
  by_cases hz : g.nons.length = 0
  · have hr : g.knownB = false := by
      unfold Gm.knownB Gm.isNon Gm.top
      rw [hz]
      rw [Bool.and_eq_false_iff]
      left
      simp
      try omega
    rw [hr]
    clear hr KN KT
    unfold gv at *
    go_enter Tryz.func16, Tryz.ntmps16
    go_wp2
    go_ret
    exact ⟨rfl, below_alloc (Below.refl _ _) _⟩
  have hzz : (((g.nons.length : Int)) == 0) = false := beq_false_of_ne (by omega)
  obtain ⟨p, hp⟩ : ∃ p, g.isNon g.start = p := ⟨_, rfl⟩
  have KS := Aside0.mk (fun (W : World) (hb : Below W0.heap.size W0 W) => KN.out W g.start hb)
  rw [hp] at KS
  have hkb : g.knownB = (p && g.rules.all fun r => g.knownR r) := by unfold Gm.knownB; rw [hp]
  have HKB := Aside0.mk hkb
  clear hkb hp
  unfold gv at *
  go_enter Tryz.func16, Tryz.ntmps16
  go_wp2_with fail
  rw [← HW.out]
  clear HW
  obtain ⟨f0, f1, f2, f3⟩ := hgc
  cases p with
  | false =>
    go_wp2_with (go_at_call 36; refine (KS.out _ (Below.refl _ _)).mono ?_; rintro e w1 ⟨rfl, hb1⟩)
    go_ret
    exact ⟨rbool (by rw [HKB.out]; rfl), HB0.out.trans (hb1.mono HB0.out.size)⟩
  | true =>
  go_wp2_with (go_at_call 36; refine (KS.out _ (Below.refl _ _)).mono ?_; rintro e w1 ⟨rfl, hb1⟩)
  have HB1 := Aside0.mk hb1
  have hlt1 := Nat.lt_of_lt_of_le hlt0 hb1.size
  clear hb1 f0 f1 f2 f3 hlt0 KS
  go_loopw [3, 4] (fun i _ wr => ∃ k : Nat, k ≤ g.rules.length ∧ i = .int .i64 k ∧ w.heap.size < wr.heap.size ∧ Aside0 (Below W0.heap.size W0 wr) ∧ Aside0 (∀ i, i < k → g.knownR (g.rules.getD i default) = true)) (fun i _ _ => g.rules.length - (intOf i).toNat)
  case atStart => exact ⟨0, Nat.zero_le _, rfl, hlt1, HB1, ⟨fun j hj => absurd hj (Nat.not_lt_zero _)⟩⟩
  case round =>
    clear hlt1 HB1
    obtain ⟨k, hk, rfl, hlt1, HB, AF⟩ := hrel
    generalize wr = wo at *
    obtain ⟨f0, f1, f2, f3⟩ := gcells (blk_below HK.out HB.out)
    by_cases hkl : k < g.rules.length
    · have hkz : (k : Int) < (g.rules.length : Int) := by omega
      obtain ⟨ad, Ax, cx, rfl, k1, k2, k3, k4⟩ := at_rl (Kd.C_below HR.out HB.out) k hkl
      obtain ⟨x, hx⟩ : ∃ x, g.rules.getD k default = x := ⟨_, rfl⟩
      rw [hx] at k1 k2 k3 k4
      have HX := Aside0.mk hx
      have HRR := Aside0.mk k4
      have mx := Kd.C_max k4
      clear hx k4
      have hla := World.block_lt_of_cell? _ _ k1
      obtain ⟨q, hq⟩ : ∃ q, g.isNon x.left = q := ⟨_, rfl⟩
      have KL := Aside0.mk (fun (W : World) (hb : Below W0.heap.size W0 W) => KN.out W x.left hb)
      rw [hq] at KL
      have hkr : g.knownR x = (q && x.right.all fun s => g.sym s) := by unfold Gm.knownR; rw [hq]
      have HKR := Aside0.mk hkr
      clear hkr hq
      have key : ∀ w', Below wo.heap.size wo w' → (w'.cell? ⟨w.heap.size, 0, none⟩ = some (.slice A0 g.terms.length c0) ∧ w'.cell? ⟨w.heap.size, 1, none⟩ = some (.slice A1 g.nons.length c1) ∧ w'.cell? ⟨w.heap.size, 2, none⟩ = some (.slice (some ad) g.rules.length c2) ∧ w'.cell? ⟨w.heap.size, 3, none⟩ = some (.int .i64 g.start)) ∧ w'.cell? (ad.add (k * 2)) = some (.int .i64 x.left) ∧ w'.cell? ⟨(ad.add (k * 2)).block, (ad.add (k * 2)).off + 1, none⟩ = some (.slice Ax x.right.length cx) := fun w' hw =>
        ⟨gcells (blk_below (blk_below HK.out HB.out) hw), (hw.cell (p := ad.add (k * 2)) hla).trans k1, (hw.cell (p := ⟨(ad.add (k * 2)).block, (ad.add (k * 2)).off + 1, none⟩) hla).trans k2⟩
      have KEY := Aside0.mk key
      clear key k1 k2 hla
      go_wp2
      clear f0 f1 f2 f3
      refine wp_region_det (vs := [?d1xv0, ?d1xv1, ?d1xv2, ?d1xv3, ?d1xv4, ?d1xv5, ?d1xv6, ?d1xv7, ?d1xv8]) (fun w' => Below wo.heap.size wo w') rfl (by kernel_rfl) (putAll_put (by simp only [Act.put, List.setIfInBounds_toArray, List.set_cons_zero, List.set_cons_succ]; rfl) (putAll_put (by simp only [Act.put, List.setIfInBounds_toArray, List.set_cons_zero, List.set_cons_succ]; rfl) (putAll_put (by simp only [Act.put, List.setIfInBounds_toArray, List.set_cons_zero, List.set_cons_succ]; rfl) (putAll_put (by simp only [Act.put, List.setIfInBounds_toArray, List.set_cons_zero, List.set_cons_succ]; rfl) (putAll_put (by simp only [Act.put, List.setIfInBounds_toArray, List.set_cons_zero, List.set_cons_succ]; rfl) (putAll_put (by simp only [Act.put, List.setIfInBounds_toArray, List.set_cons_zero, List.set_cons_succ]; rfl) (putAll_put (by simp only [Act.put, List.setIfInBounds_toArray, List.set_cons_zero, List.set_cons_succ]; rfl) (putAll_put (by simp only [Act.put, List.setIfInBounds_toArray, List.set_cons_zero, List.set_cons_succ]; rfl) (putAll_put (by simp only [Act.put, List.setIfInBounds_toArray, List.set_cons_zero, List.set_cons_succ]; rfl) (putAll_nil _)))))))))) (below_drew (Below.refl _ _)) ?d1xOps ?d1xFin
      case d1xOps =>
        refine ⟨fun w' hw => ?d1xo0, fun w' hw => ?d1xo1, fun w' hw => ?d1xo2, fun w' hw => ?d1xo3, fun w' hw => ?d1xo4, fun w' hw => ?d1xo5, fun w' hw => ?d1xo6, fun w' hw => ?d1xo7, fun w' hw => ?d1xo8, trivial⟩
        case d1xo0 => obtain ⟨⟨f0, f1, f2, f3⟩, f4, f5⟩ := KEY.out w' hw; go_simp; rfl
        case d1xo1 => obtain ⟨⟨f0, f1, f2, f3⟩, f4, f5⟩ := KEY.out w' hw; go_simp; rfl
        case d1xo2 => obtain ⟨⟨f0, f1, f2, f3⟩, f4, f5⟩ := KEY.out w' hw; go_simp; rfl
        case d1xo3 => obtain ⟨⟨f0, f1, f2, f3⟩, f4, f5⟩ := KEY.out w' hw; go_simp; rfl
        case d1xo4 => obtain ⟨⟨f0, f1, f2, f3⟩, f4, f5⟩ := KEY.out w' hw; go_simp; rfl
        case d1xo5 => obtain ⟨⟨f0, f1, f2, f3⟩, f4, f5⟩ := KEY.out w' hw; go_simp; rfl
        case d1xo6 => obtain ⟨⟨f0, f1, f2, f3⟩, f4, f5⟩ := KEY.out w' hw; go_simp; rfl
        case d1xo7 => obtain ⟨⟨f0, f1, f2, f3⟩, f4, f5⟩ := KEY.out w' hw; (go_simp; refine (KL.out w' (HB.out.trans (hw.mono HB.out.size))).mono ?_; rintro e w2 ⟨rfl, hb2⟩; exact ⟨by rfl, hw.trans (hb2.mono hw.size)⟩)
        case d1xo8 => obtain ⟨⟨f0, f1, f2, f3⟩, f4, f5⟩ := KEY.out w' hw; go_simp; rfl
      case d1xFin =>
        intro w1 hw1
        have h3 := hw1.size
        cases q with
        | false =>
          go_wp2
          go_ret
          have h6 := HB.out.trans (hw1.mono HB.out.size)
          exact ⟨rbool (by rw [HKB.out, all_not hkl (by rw [HX.out, HKR.out]; rfl)]; rfl), HB0.out.trans (h6.mono HB0.out.size)⟩
        | true =>
        have HW1 := Aside0.mk hw1
        clear hw1
        go_wp2
        go_loopw [4] (fun i wr => ∃ m : Nat, m ≤ x.right.length ∧ i = .int .i64 m ∧ w.heap.size < wr.heap.size ∧ Aside0 (Below wo.heap.size wo wr) ∧ Aside0 (∀ i, i < m → g.sym (x.right.getD i default) = true)) (fun i _ => x.right.length - (intOf i).toNat)
        case atStart => exact ⟨0, Nat.zero_le _, rfl, by omega, HW1, ⟨fun j hj => absurd hj (Nat.not_lt_zero _)⟩⟩
        case round =>
          clear HW1
          obtain ⟨m, hm, rfl, hlt2, HB2, AG⟩ := hrel
          obtain ⟨⟨f0, f1, f2, f3⟩, f4, f5⟩ := KEY.out _ HB2.out
          by_cases hml : m < x.right.length
          · have hmz : (m : Int) < (x.right.length : Int) := by omega
            obtain ⟨ad1, rfl, l1⟩ := at_int (Kd.C_below HRR.out HB2.out) m hml
            obtain ⟨y, hy⟩ : ∃ y, x.right.getD m default = y := ⟨_, rfl⟩
            rw [hy] at l1
            have HY := Aside0.mk hy
            clear hy
            have hlc := World.block_lt_of_cell? _ _ l1
            obtain ⟨s, hs⟩ : ∃ s, g.sym y = s := ⟨_, rfl⟩
            have hss := hs
            unfold Gm.sym at hss
            obtain ⟨a, ha⟩ : ∃ a, g.isTerm y = a := ⟨_, rfl⟩
            obtain ⟨b, hb⟩ : ∃ b, g.isNon y = b := ⟨_, rfl⟩
            have KA := Aside0.mk (fun (W : World) (hb : Below W0.heap.size W0 W) => KT.out W y hb)
            have KB := Aside0.mk (fun (W : World) (hb : Below W0.heap.size W0 W) => KN.out W y hb)
            rw [ha] at KA hss
            rw [hb] at KB hss
            have HS := Aside0.mk hs
            clear hs ha hb
            subst hss
            have key : ∀ w', Below wr.heap.size wr w' → w'.cell? (ad1.add m) = some (.int .i64 y) ∧ Below wo.heap.size wo w' := fun w' hw =>
              ⟨(hw.cell (p := ad1.add m) hlc).trans l1, HB2.out.trans (hw.mono HB2.out.size)⟩
            have KEY2 := Aside0.mk key
            clear key l1 hlc
            cases a with
            | true =>
              go_wp2
              clear f0 f1 f2 f3 f4 f5
              refine wp_region_det (vs := [?d2xv0, ?d2xv1, ?d2xv2, ?d2xv3, ?d2xv4, ?d2xv5, ?d2xv6, ?d2xv7, ?d2xv8, ?d2xv9, ?d2xv10, ?d2xv11, ?d2xv12, ?d2xv13, ?d2xv14, ?d2xv15, ?d2xv16, ?d2xv17, ?d2xv18, ?d2xv19, ?d2xv20, ?d2xv21, ?d2xv22, ?d2xv23, ?d2xv24, ?d2xv25]) (fun w' => Below wr.heap.size wr w') rfl (by kernel_rfl) (putAll_put (by simp only [Act.put, List.setIfInBounds_toArray, List.set_cons_zero, List.set_cons_succ]; rfl) (putAll_put (by simp only [Act.put, List.setIfInBounds_toArray, List.set_cons_zero, List.set_cons_succ]; rfl) (putAll_put (by simp only [Act.put, List.setIfInBounds_toArray, List.set_cons_zero, List.set_cons_succ]; rfl) (putAll_put (by simp only [Act.put, List.setIfInBounds_toArray, List.set_cons_zero, List.set_cons_succ]; rfl) (putAll_put (by simp only [Act.put, List.setIfInBounds_toArray, List.set_cons_zero, List.set_cons_succ]; rfl) (putAll_put (by simp only [Act.put, List.setIfInBounds_toArray, List.set_cons_zero, List.set_cons_succ]; rfl) (putAll_put (by simp only [Act.put, List.setIfInBounds_toArray, List.set_cons_zero, List.set_cons_succ]; rfl) (putAll_put (by simp only [Act.put, List.setIfInBounds_toArray, List.set_cons_zero, List.set_cons_succ]; rfl) (putAll_put (by simp only [Act.put, List.setIfInBounds_toArray, List.set_cons_zero, List.set_cons_succ]; rfl) (putAll_put (by simp only [Act.put, List.setIfInBounds_toArray, List.set_cons_zero, List.set_cons_succ]; rfl) (putAll_put (by simp only [Act.put, List.setIfInBounds_toArray, List.set_cons_zero, List.set_cons_succ]; rfl) (putAll_put (by simp only [Act.put, List.setIfInBounds_toArray, List.set_cons_zero, List.set_cons_succ]; rfl) (putAll_put (by simp only [Act.put, List.setIfInBounds_toArray, List.set_cons_zero, List.set_cons_succ]; rfl) (putAll_put (by simp only [Act.put, List.setIfInBounds_toArray, List.set_cons_zero, List.set_cons_succ]; rfl) (putAll_put (by simp only [Act.put, List.setIfInBounds_toArray, List.set_cons_zero, List.set_cons_succ]; rfl) (putAll_put (by simp only [Act.put, List.setIfInBounds_toArray, List.set_cons_zero, List.set_cons_succ]; rfl) (putAll_put (by simp only [Act.put, List.setIfInBounds_toArray, List.set_cons_zero, List.set_cons_succ]; rfl) (putAll_put (by simp only [Act.put, List.setIfInBounds_toArray, List.set_cons_zero, List.set_cons_succ]; rfl) (putAll_put (by simp only [Act.put, List.setIfInBounds_toArray, List.set_cons_zero, List.set_cons_succ]; rfl) (putAll_put (by simp only [Act.put, List.setIfInBounds_toArray, List.set_cons_zero, List.set_cons_succ]; rfl) (putAll_put (by simp only [Act.put, List.setIfInBounds_toArray, List.set_cons_zero, List.set_cons_succ]; rfl) (putAll_put (by simp only [Act.put, List.setIfInBounds_toArray, List.set_cons_zero, List.set_cons_succ]; rfl) (putAll_put (by simp only [Act.put, List.setIfInBounds_toArray, List.set_cons_zero, List.set_cons_succ]; rfl) (putAll_put (by simp only [Act.put, List.setIfInBounds_toArray, List.set_cons_zero, List.set_cons_succ]; rfl) (putAll_put (by simp only [Act.put, List.setIfInBounds_toArray, List.set_cons_zero, List.set_cons_succ]; rfl) (putAll_put (by simp only [Act.put, List.setIfInBounds_toArray, List.set_cons_zero, List.set_cons_succ]; rfl) (putAll_nil _))))))))))))))))))))))))))) (below_drew (Below.refl _ _)) ?d2xOps ?d2xFin
              case d2xOps =>
                refine ⟨fun w' hw => ?d2xo0, fun w' hw => ?d2xo1, fun w' hw => ?d2xo2, fun w' hw => ?d2xo3, fun w' hw => ?d2xo4, fun w' hw => ?d2xo5, fun w' hw => ?d2xo6, fun w' hw => ?d2xo7, fun w' hw => ?d2xo8, fun w' hw => ?d2xo9, fun w' hw => ?d2xo10, fun w' hw => ?d2xo11, fun w' hw => ?d2xo12, fun w' hw => ?d2xo13, fun w' hw => ?d2xo14, fun w' hw => ?d2xo15, fun w' hw => ?d2xo16, fun w' hw => ?d2xo17, fun w' hw => ?d2xo18, fun w' hw => ?d2xo19, fun w' hw => ?d2xo20, fun w' hw => ?d2xo21, fun w' hw => ?d2xo22, fun w' hw => ?d2xo23, fun w' hw => ?d2xo24, fun w' hw => ?d2xo25, trivial⟩
                case d2xo0 => (obtain ⟨f6, hwr⟩ := KEY2.out w' hw; obtain ⟨⟨f0, f1, f2, f3⟩, f4, f5⟩ := KEY.out w' hwr); go_simp; rfl
                case d2xo1 => (obtain ⟨f6, hwr⟩ := KEY2.out w' hw; obtain ⟨⟨f0, f1, f2, f3⟩, f4, f5⟩ := KEY.out w' hwr); go_simp; rfl
                case d2xo2 => (obtain ⟨f6, hwr⟩ := KEY2.out w' hw; obtain ⟨⟨f0, f1, f2, f3⟩, f4, f5⟩ := KEY.out w' hwr); go_simp; rfl
                case d2xo3 => (obtain ⟨f6, hwr⟩ := KEY2.out w' hw; obtain ⟨⟨f0, f1, f2, f3⟩, f4, f5⟩ := KEY.out w' hwr); go_simp; rfl
                case d2xo4 => (obtain ⟨f6, hwr⟩ := KEY2.out w' hw; obtain ⟨⟨f0, f1, f2, f3⟩, f4, f5⟩ := KEY.out w' hwr); go_simp; rfl
                case d2xo5 => (obtain ⟨f6, hwr⟩ := KEY2.out w' hw; obtain ⟨⟨f0, f1, f2, f3⟩, f4, f5⟩ := KEY.out w' hwr); go_simp; rfl
                case d2xo6 => (obtain ⟨f6, hwr⟩ := KEY2.out w' hw; obtain ⟨⟨f0, f1, f2, f3⟩, f4, f5⟩ := KEY.out w' hwr); go_simp; rfl
                case d2xo7 => (obtain ⟨f6, hwr⟩ := KEY2.out w' hw; obtain ⟨⟨f0, f1, f2, f3⟩, f4, f5⟩ := KEY.out w' hwr); go_simp; rfl
                case d2xo8 => (obtain ⟨f6, hwr⟩ := KEY2.out w' hw; obtain ⟨⟨f0, f1, f2, f3⟩, f4, f5⟩ := KEY.out w' hwr); go_simp; rfl
                case d2xo9 => (obtain ⟨f6, hwr⟩ := KEY2.out w' hw; obtain ⟨⟨f0, f1, f2, f3⟩, f4, f5⟩ := KEY.out w' hwr); go_simp; rfl
                case d2xo10 => (obtain ⟨f6, hwr⟩ := KEY2.out w' hw; obtain ⟨⟨f0, f1, f2, f3⟩, f4, f5⟩ := KEY.out w' hwr); (go_simp; refine (KA.out w' (HB.out.trans (hwr.mono HB.out.size))).mono ?_; rintro e w2 ⟨rfl, hb2⟩; exact ⟨by rfl, hw.trans (hb2.mono hw.size)⟩)
                case d2xo11 => (obtain ⟨f6, hwr⟩ := KEY2.out w' hw; obtain ⟨⟨f0, f1, f2, f3⟩, f4, f5⟩ := KEY.out w' hwr); go_simp; rfl
                case d2xo12 => (obtain ⟨f6, hwr⟩ := KEY2.out w' hw; obtain ⟨⟨f0, f1, f2, f3⟩, f4, f5⟩ := KEY.out w' hwr); go_simp; rfl
                case d2xo13 => (obtain ⟨f6, hwr⟩ := KEY2.out w' hw; obtain ⟨⟨f0, f1, f2, f3⟩, f4, f5⟩ := KEY.out w' hwr); go_simp; rfl
                case d2xo14 => (obtain ⟨f6, hwr⟩ := KEY2.out w' hw; obtain ⟨⟨f0, f1, f2, f3⟩, f4, f5⟩ := KEY.out w' hwr); go_simp; rfl
                case d2xo15 => (obtain ⟨f6, hwr⟩ := KEY2.out w' hw; obtain ⟨⟨f0, f1, f2, f3⟩, f4, f5⟩ := KEY.out w' hwr); go_simp; rfl
                case d2xo16 => (obtain ⟨f6, hwr⟩ := KEY2.out w' hw; obtain ⟨⟨f0, f1, f2, f3⟩, f4, f5⟩ := KEY.out w' hwr); go_simp; rfl
                case d2xo17 => (obtain ⟨f6, hwr⟩ := KEY2.out w' hw; obtain ⟨⟨f0, f1, f2, f3⟩, f4, f5⟩ := KEY.out w' hwr); go_simp; rfl
                case d2xo18 => (obtain ⟨f6, hwr⟩ := KEY2.out w' hw; obtain ⟨⟨f0, f1, f2, f3⟩, f4, f5⟩ := KEY.out w' hwr); go_simp; rfl
                case d2xo19 => (obtain ⟨f6, hwr⟩ := KEY2.out w' hw; obtain ⟨⟨f0, f1, f2, f3⟩, f4, f5⟩ := KEY.out w' hwr); go_simp; rfl
                case d2xo20 => (obtain ⟨f6, hwr⟩ := KEY2.out w' hw; obtain ⟨⟨f0, f1, f2, f3⟩, f4, f5⟩ := KEY.out w' hwr); go_simp; rfl
                case d2xo21 => (obtain ⟨f6, hwr⟩ := KEY2.out w' hw; obtain ⟨⟨f0, f1, f2, f3⟩, f4, f5⟩ := KEY.out w' hwr); go_simp; rfl
                case d2xo22 => (obtain ⟨f6, hwr⟩ := KEY2.out w' hw; obtain ⟨⟨f0, f1, f2, f3⟩, f4, f5⟩ := KEY.out w' hwr); go_simp; rfl
                case d2xo23 => (obtain ⟨f6, hwr⟩ := KEY2.out w' hw; obtain ⟨⟨f0, f1, f2, f3⟩, f4, f5⟩ := KEY.out w' hwr); go_simp; rfl
                case d2xo24 => (obtain ⟨f6, hwr⟩ := KEY2.out w' hw; obtain ⟨⟨f0, f1, f2, f3⟩, f4, f5⟩ := KEY.out w' hwr); go_simp; rfl
                case d2xo25 => (obtain ⟨f6, hwr⟩ := KEY2.out w' hw; obtain ⟨⟨f0, f1, f2, f3⟩, f4, f5⟩ := KEY.out w' hwr); go_simp; rfl
              case d2xFin =>
                intro w2 hw2
                have h4 := hw2.size
                go_wp2
                go_roundw
                case rel => exact ⟨m + 1, by omega, by go_num, by omega, ⟨HB2.out.trans (hw2.mono HB2.out.size)⟩, ⟨lt_snoc (α := Nat) AG.out (by rw [HY.out, HS.out]; rfl)⟩⟩
                case measure => simp [intOf]; omega
            | false =>
              go_wp2
              clear f0 f1 f2 f3 f4 f5
              refine wp_region_det (vs := [?d3xv0, ?d3xv1, ?d3xv2, ?d3xv3, ?d3xv4, ?d3xv5, ?d3xv6, ?d3xv7, ?d3xv8, ?d3xv9, ?d3xv10, ?d3xv11, ?d3xv12, ?d3xv13, ?d3xv14, ?d3xv15, ?d3xv16, ?d3xv17, ?d3xv18, ?d3xv19, ?d3xv20, ?d3xv21, ?d3xv22, ?d3xv23, ?d3xv24, ?d3xv25]) (fun w' => Below wr.heap.size wr w') rfl (by kernel_rfl) (putAll_put (by simp only [Act.put, List.setIfInBounds_toArray, List.set_cons_zero, List.set_cons_succ]; rfl) (putAll_put (by simp only [Act.put, List.setIfInBounds_toArray, List.set_cons_zero, List.set_cons_succ]; rfl) (putAll_put (by simp only [Act.put, List.setIfInBounds_toArray, List.set_cons_zero, List.set_cons_succ]; rfl) (putAll_put (by simp only [Act.put, List.setIfInBounds_toArray, List.set_cons_zero, List.set_cons_succ]; rfl) (putAll_put (by simp only [Act.put, List.setIfInBounds_toArray, List.set_cons_zero, List.set_cons_succ]; rfl) (putAll_put (by simp only [Act.put, List.setIfInBounds_toArray, List.set_cons_zero, List.set_cons_succ]; rfl) (putAll_put (by simp only [Act.put, List.setIfInBounds_toArray, List.set_cons_zero, List.set_cons_succ]; rfl) (putAll_put (by simp only [Act.put, List.setIfInBounds_toArray, List.set_cons_zero, List.set_cons_succ]; rfl) (putAll_put (by simp only [Act.put, List.setIfInBounds_toArray, List.set_cons_zero, List.set_cons_succ]; rfl) (putAll_put (by simp only [Act.put, List.setIfInBounds_toArray, List.set_cons_zero, List.set_cons_succ]; rfl) (putAll_put (by simp only [Act.put, List.setIfInBounds_toArray, List.set_cons_zero, List.set_cons_succ]; rfl) (putAll_put (by simp only [Act.put, List.setIfInBounds_toArray, List.set_cons_zero, List.set_cons_succ]; rfl) (putAll_put (by simp only [Act.put, List.setIfInBounds_toArray, List.set_cons_zero, List.set_cons_succ]; rfl) (putAll_put (by simp only [Act.put, List.setIfInBounds_toArray, List.set_cons_zero, List.set_cons_succ]; rfl) (putAll_put (by simp only [Act.put, List.setIfInBounds_toArray, List.set_cons_zero, List.set_cons_succ]; rfl) (putAll_put (by simp only [Act.put, List.setIfInBounds_toArray, List.set_cons_zero, List.set_cons_succ]; rfl) (putAll_put (by simp only [Act.put, List.setIfInBounds_toArray, List.set_cons_zero, List.set_cons_succ]; rfl) (putAll_put (by simp only [Act.put, List.setIfInBounds_toArray, List.set_cons_zero, List.set_cons_succ]; rfl) (putAll_put (by simp only [Act.put, List.setIfInBounds_toArray, List.set_cons_zero, List.set_cons_succ]; rfl) (putAll_put (by simp only [Act.put, List.setIfInBounds_toArray, List.set_cons_zero, List.set_cons_succ]; rfl) (putAll_put (by simp only [Act.put, List.setIfInBounds_toArray, List.set_cons_zero, List.set_cons_succ]; rfl) (putAll_put (by simp only [Act.put, List.setIfInBounds_toArray, List.set_cons_zero, List.set_cons_succ]; rfl) (putAll_put (by simp only [Act.put, List.setIfInBounds_toArray, List.set_cons_zero, List.set_cons_succ]; rfl) (putAll_put (by simp only [Act.put, List.setIfInBounds_toArray, List.set_cons_zero, List.set_cons_succ]; rfl) (putAll_put (by simp only [Act.put, List.setIfInBounds_toArray, List.set_cons_zero, List.set_cons_succ]; rfl) (putAll_put (by simp only [Act.put, List.setIfInBounds_toArray, List.set_cons_zero, List.set_cons_succ]; rfl) (putAll_nil _))))))))))))))))))))))))))) (below_drew (Below.refl _ _)) ?d3xOps ?d3xFin
              case d3xOps =>
                refine ⟨fun w' hw => ?d3xo0, fun w' hw => ?d3xo1, fun w' hw => ?d3xo2, fun w' hw => ?d3xo3, fun w' hw => ?d3xo4, fun w' hw => ?d3xo5, fun w' hw => ?d3xo6, fun w' hw => ?d3xo7, fun w' hw => ?d3xo8, fun w' hw => ?d3xo9, fun w' hw => ?d3xo10, fun w' hw => ?d3xo11, fun w' hw => ?d3xo12, fun w' hw => ?d3xo13, fun w' hw => ?d3xo14, fun w' hw => ?d3xo15, fun w' hw => ?d3xo16, fun w' hw => ?d3xo17, fun w' hw => ?d3xo18, fun w' hw => ?d3xo19, fun w' hw => ?d3xo20, fun w' hw => ?d3xo21, fun w' hw => ?d3xo22, fun w' hw => ?d3xo23, fun w' hw => ?d3xo24, fun w' hw => ?d3xo25, trivial⟩
                case d3xo0 => (obtain ⟨f6, hwr⟩ := KEY2.out w' hw; obtain ⟨⟨f0, f1, f2, f3⟩, f4, f5⟩ := KEY.out w' hwr); go_simp; rfl
                case d3xo1 => (obtain ⟨f6, hwr⟩ := KEY2.out w' hw; obtain ⟨⟨f0, f1, f2, f3⟩, f4, f5⟩ := KEY.out w' hwr); go_simp; rfl
                case d3xo2 => (obtain ⟨f6, hwr⟩ := KEY2.out w' hw; obtain ⟨⟨f0, f1, f2, f3⟩, f4, f5⟩ := KEY.out w' hwr); go_simp; rfl
                case d3xo3 => (obtain ⟨f6, hwr⟩ := KEY2.out w' hw; obtain ⟨⟨f0, f1, f2, f3⟩, f4, f5⟩ := KEY.out w' hwr); go_simp; rfl
                case d3xo4 => (obtain ⟨f6, hwr⟩ := KEY2.out w' hw; obtain ⟨⟨f0, f1, f2, f3⟩, f4, f5⟩ := KEY.out w' hwr); go_simp; rfl
                case d3xo5 => (obtain ⟨f6, hwr⟩ := KEY2.out w' hw; obtain ⟨⟨f0, f1, f2, f3⟩, f4, f5⟩ := KEY.out w' hwr); go_simp; rfl
                case d3xo6 => (obtain ⟨f6, hwr⟩ := KEY2.out w' hw; obtain ⟨⟨f0, f1, f2, f3⟩, f4, f5⟩ := KEY.out w' hwr); go_simp; rfl
                case d3xo7 => (obtain ⟨f6, hwr⟩ := KEY2.out w' hw; obtain ⟨⟨f0, f1, f2, f3⟩, f4, f5⟩ := KEY.out w' hwr); go_simp; rfl
                case d3xo8 => (obtain ⟨f6, hwr⟩ := KEY2.out w' hw; obtain ⟨⟨f0, f1, f2, f3⟩, f4, f5⟩ := KEY.out w' hwr); go_simp; rfl
                case d3xo9 => (obtain ⟨f6, hwr⟩ := KEY2.out w' hw; obtain ⟨⟨f0, f1, f2, f3⟩, f4, f5⟩ := KEY.out w' hwr); go_simp; rfl
                case d3xo10 => (obtain ⟨f6, hwr⟩ := KEY2.out w' hw; obtain ⟨⟨f0, f1, f2, f3⟩, f4, f5⟩ := KEY.out w' hwr); (go_simp; refine (KA.out w' (HB.out.trans (hwr.mono HB.out.size))).mono ?_; rintro e w2 ⟨rfl, hb2⟩; exact ⟨by rfl, hw.trans (hb2.mono hw.size)⟩)
                case d3xo11 => (obtain ⟨f6, hwr⟩ := KEY2.out w' hw; obtain ⟨⟨f0, f1, f2, f3⟩, f4, f5⟩ := KEY.out w' hwr); go_simp; rfl
                case d3xo12 => (obtain ⟨f6, hwr⟩ := KEY2.out w' hw; obtain ⟨⟨f0, f1, f2, f3⟩, f4, f5⟩ := KEY.out w' hwr); go_simp; rfl
                case d3xo13 => (obtain ⟨f6, hwr⟩ := KEY2.out w' hw; obtain ⟨⟨f0, f1, f2, f3⟩, f4, f5⟩ := KEY.out w' hwr); go_simp; rfl
                case d3xo14 => (obtain ⟨f6, hwr⟩ := KEY2.out w' hw; obtain ⟨⟨f0, f1, f2, f3⟩, f4, f5⟩ := KEY.out w' hwr); go_simp; rfl
                case d3xo15 => (obtain ⟨f6, hwr⟩ := KEY2.out w' hw; obtain ⟨⟨f0, f1, f2, f3⟩, f4, f5⟩ := KEY.out w' hwr); go_simp; rfl
                case d3xo16 => (obtain ⟨f6, hwr⟩ := KEY2.out w' hw; obtain ⟨⟨f0, f1, f2, f3⟩, f4, f5⟩ := KEY.out w' hwr); go_simp; rfl
                case d3xo17 => (obtain ⟨f6, hwr⟩ := KEY2.out w' hw; obtain ⟨⟨f0, f1, f2, f3⟩, f4, f5⟩ := KEY.out w' hwr); go_simp; rfl
                case d3xo18 => (obtain ⟨f6, hwr⟩ := KEY2.out w' hw; obtain ⟨⟨f0, f1, f2, f3⟩, f4, f5⟩ := KEY.out w' hwr); go_simp; rfl
                case d3xo19 => (obtain ⟨f6, hwr⟩ := KEY2.out w' hw; obtain ⟨⟨f0, f1, f2, f3⟩, f4, f5⟩ := KEY.out w' hwr); go_simp; rfl
                case d3xo20 => (obtain ⟨f6, hwr⟩ := KEY2.out w' hw; obtain ⟨⟨f0, f1, f2, f3⟩, f4, f5⟩ := KEY.out w' hwr); go_simp; rfl
                case d3xo21 => (obtain ⟨f6, hwr⟩ := KEY2.out w' hw; obtain ⟨⟨f0, f1, f2, f3⟩, f4, f5⟩ := KEY.out w' hwr); go_simp; rfl
                case d3xo22 => (obtain ⟨f6, hwr⟩ := KEY2.out w' hw; obtain ⟨⟨f0, f1, f2, f3⟩, f4, f5⟩ := KEY.out w' hwr); go_simp; rfl
                case d3xo23 => (obtain ⟨f6, hwr⟩ := KEY2.out w' hw; obtain ⟨⟨f0, f1, f2, f3⟩, f4, f5⟩ := KEY.out w' hwr); (go_simp; refine (KB.out w' (HB.out.trans (hwr.mono HB.out.size))).mono ?_; rintro e w2 ⟨rfl, hb2⟩; exact ⟨by rfl, hw.trans (hb2.mono hw.size)⟩)
                case d3xo24 => (obtain ⟨f6, hwr⟩ := KEY2.out w' hw; obtain ⟨⟨f0, f1, f2, f3⟩, f4, f5⟩ := KEY.out w' hwr); go_simp; rfl
                case d3xo25 => (obtain ⟨f6, hwr⟩ := KEY2.out w' hw; obtain ⟨⟨f0, f1, f2, f3⟩, f4, f5⟩ := KEY.out w' hwr); go_simp; rfl
              case d3xFin =>
                intro w2 hw2
                have h4 := hw2.size
                have h5 := HB2.out.trans (hw2.mono HB2.out.size)
                cases b with
                | true =>
                  go_wp2
                  go_roundw
                  case rel => exact ⟨m + 1, by omega, by go_num, by omega, ⟨h5⟩, ⟨lt_snoc (α := Nat) AG.out (by rw [HY.out, HS.out]; rfl)⟩⟩
                  case measure => simp [intOf]; omega
                | false =>
                  go_wp2
                  go_ret
                  have h6 := HB.out.trans (h5.mono HB.out.size)
                  refine ⟨rbool ?_, HB0.out.trans (h6.mono HB0.out.size)⟩
                  rw [HKB.out, all_not hkl (by rw [HX.out, HKR.out, all_not (p := fun s => g.sym s) hml (by rw [HY.out, HS.out]; rfl)]; rfl)]
                  rfl
          · have hmz : ¬ (m : Int) < (x.right.length : Int) := by omega
            obtain rfl : m = x.right.length := by omega
            go_wp2
            go_roundw
            case rel => exact ⟨k + 1, by omega, by go_num, hlt2, ⟨HB.out.trans (HB2.out.mono HB.out.size)⟩, ⟨lt_snoc (α := Nat) AF.out (by rw [HX.out, HKR.out, all_of AG.out]; rfl)⟩⟩
            case measure => simp [intOf]; omega
    · have hkz : ¬ (k : Int) < (g.rules.length : Int) := by omega
      obtain rfl : k = g.rules.length := by omega
      go_wp2
      go_ret
      exact ⟨rbool (by rw [HKB.out, all_of AF.out]; rfl), HB0.out.trans (HB.out.mono HB0.out.size)⟩
end
end Go.Proofs.YtliofoikejdjeaaGreat
/- The document's Check, Ordered, Name. -/
namespace Go.Proofs.YtliofoikejdjeaaGreat
open Go.RowKit Go.Proofs.YtliofoikejdjeaaGreatW.PrintWords
set_option linter.unusedVariables false
set_option maxRecDepth 100000
set_option linter.unusedSimpArgs false
theorem check_ref (g : Gm) : g.check = if manyB g then 7 else if !(g.terms.all termOk && g.nons.all plainOk) then 10 else if !decide g.names.Nodup then 8 else if !g.knownB then 1 else if !unlikeR g.rules then 8 else if g.lacks then 9 else 0 := by
  unfold Gm.check checkB manyB Gm.knownB
  generalize g.rules.all shortR = p1
  generalize g.terms.all termOk = p2
  generalize g.nons.all plainOk = p3
  generalize decide g.names.Nodup = p4
  generalize g.isNon g.start = p5
  generalize (g.rules.all fun r => g.knownR r) = p6
  generalize unlikeR g.rules = p7
  generalize g.lacks = p8
  by_cases b0 : 120 < g.terms.length
  · rw [if_pos (.inl b0), decide_eq_true b0]; simp
  by_cases b1 : 120 < g.nons.length
  · rw [if_pos (.inr (.inl b1)), decide_eq_true b1]; simp
  by_cases b2 : 300 < g.rules.length
  · rw [if_pos (.inr (.inr (.inl b2))), decide_eq_true b2]; simp
  rw [decide_eq_false b0, decide_eq_false b1, decide_eq_false b2]
  simp only [b0, b1, b2, false_or, Bool.or_false]
  cases p1 <;> cases p2 <;> cases p3 <;> cases p4 <;> cases p5 <;> cases p6 <;> cases p7 <;> cases p8 <;> rfl
set_option maxHeartbeats 4000000 in
theorem ref06_Check {w : World} {A0 A1 A2 : Option Addr} {c0 c1 c2 : Nat} {g : Gm} (h : GmAt w A0 A1 A2 c0 c1 c2 g) (hsz : ∀ s ∈ g.names, s.size ≤ 140737488351232) (ms : g.terms.length + g.nons.length ≤ 8796093022208) :
    Calls Tryz.prog 6 #[.agg (gv A0 A1 A2 c0 c1 c2 g)] w fun e w' => e = .returned (.int .i64 g.check) ∧ Below w.heap.size w w' := by
  have h0 := h.m0
  have h1 := h.m1
  have h2 := h.m2
  obtain ⟨W0, hW0⟩ : ∃ W0, W0 = w.alloc (.cells (gv A0 A1 A2 c0 c1 c2 g) 25) := ⟨_, rfl⟩
  have hb0 := below_alloc (Below.refl _ w) (.cells (gv A0 A1 A2 c0 c1 c2 g) 25)
  have hk0 := blk_new w (.cells (gv A0 A1 A2 c0 c1 c2 g) 25)
  rw [← hW0] at hb0 hk0
  have H := h.below hb0
  have GC : Aside0 (∀ W, Below W0.heap.size W0 W → _ ∧ _ ∧ _ ∧ _) := ⟨fun W hb => gcells (blk_below hk0 hb)⟩
  have K1 : Aside0 (∀ W, Below W0.heap.size W0 W → Calls Tryz.prog 12 #[.agg #[.slice A0 g.terms.length c0, .slice A1 g.nons.length c1, .slice A2 g.rules.length c2, .int .i64 g.start]] W fun e w' => e = .returned (.bool (manyB g)) ∧ Below W.heap.size W w') := ⟨fun W hb => ref06_many (H.below hb)⟩
  have K2 : Aside0 (∀ W, Below W0.heap.size W0 W → Calls Tryz.prog 13 #[.agg #[.slice A0 g.terms.length c0, .slice A1 g.nons.length c1, .slice A2 g.rules.length c2, .int .i64 g.start]] W fun e w' => e = .returned (.bool (g.terms.all termOk && g.nons.all plainOk)) ∧ Below W.heap.size W w') := ⟨fun W hb => ref06_form (H.below hb) hsz⟩
  have K3 : Aside0 (∀ W, Below W0.heap.size W0 W → Calls Tryz.prog 15 #[.agg #[.slice A0 g.terms.length c0, .slice A1 g.nons.length c1, .slice A2 g.rules.length c2, .int .i64 g.start]] W fun e w' => ∃ A c, e = .returned (.slice A g.names.length c) ∧ Below W.heap.size W w' ∧ Calls Tryz.prog 14 #[.slice A g.names.length c] w' fun e w'' => e = .returned (.bool (decide g.names.Nodup)) ∧ ∃ n, w'' = w'.drewN n) := ⟨fun W hb => (ref06_names (H.below hb) ms).mono fun e w' ⟨v, he, hv, hb⟩ => by
    obtain ⟨A, cap, rfl, hle, hC⟩ := Kd.R_reads hv
    exact ⟨A, cap, he, hb, ref06_once hC hle⟩⟩
  have K4 : Aside0 (∀ W, Below W0.heap.size W0 W → Calls Tryz.prog 16 #[.agg #[.slice A0 g.terms.length c0, .slice A1 g.nons.length c1, .slice A2 g.rules.length c2, .int .i64 g.start]] W fun e w' => e = .returned (.bool g.knownB) ∧ Below W.heap.size W w') := ⟨fun W hb => ref06_known (H.below hb)⟩
  have K5 : Aside0 (∀ W, Below W0.heap.size W0 W → Calls Tryz.prog 17 #[.agg #[.slice A0 g.terms.length c0, .slice A1 g.nons.length c1, .slice A2 g.rules.length c2, .int .i64 g.start]] W fun e w' => e = .returned (.bool (unlikeR g.rules)) ∧ Below W.heap.size W w') := ⟨fun W hb => ref06_unlike (H.below hb)⟩
  have K6 : Aside0 (∀ W (s : Int), Below W0.heap.size W0 W → Calls Tryz.prog 18 #[.agg #[.slice A0 g.terms.length c0, .slice A1 g.nons.length c1, .slice A2 g.rules.length c2, .int .i64 g.start], .int .i64 s] W fun e w' => ∃ A c, e = .returned (.slice A (g.ofS s).length c) ∧ Below W.heap.size W w') :=
    ⟨fun W s hb => (ref06_Of (H.below hb) s).mono fun e w' ⟨v, he, hv, hb⟩ => by
      obtain ⟨A, c, rfl⟩ := Kd.R_slice hv
      exact ⟨A, c, he, hb⟩⟩
  have LT : Aside0 (∀ k : Nat, k < g.nons.length → g.ofS ((g.terms.length : Int) + 1 + k) = [] → g.lacks = true) := ⟨fun k => lacks_true⟩
  have LF : Aside0 ((∀ k : Nat, k < g.nons.length → g.ofS ((g.terms.length : Int) + 1 + k) ≠ []) → g.lacks = false) := ⟨lacks_false⟩
  have HW := Aside0.mk hW0
  have HB := Aside0.mk (Below.refl W0.heap.size W0)
  have HB0 := Aside0.mk hb0
  have hlt0 := blk_lt hk0
  have HCH := Aside0.mk (check_ref g)
  generalize g.check = CH at *
  generalize manyB g = p1 at *
  generalize (g.terms.all termOk && g.nons.all plainOk) = p2 at *
  generalize decide g.names.Nodup = p3 at *
  generalize g.knownB = p4 at *
  generalize unlikeR g.rules = p5 at *
  generalize g.lacks = p6 at *
  clear h hsz hk0 hb0 H h2 ms
  unfold gv at *
  go_enter Tryz.func6, Tryz.ntmps6
  go_wp2_with fail
  rw [← HW.out]
  clear HW hW0
  refine (K1.out _ HB.out).mono ?_
  rintro e w1 ⟨rfl, hb1⟩
  have HB1 := Aside0.mk (HB.out.trans (hb1.mono HB.out.size))
  obtain ⟨f0, f1, f2, f3⟩ := GC.out w1 HB1.out
  clear HB hb1 K1
  cases p1 with
  | true =>
    go_wp2
    go_ret
    exact ⟨rint (by rw [HCH.out]; rfl), HB0.out.trans (HB1.out.mono HB0.out.size)⟩
  | false =>
  go_wp2_with fail
  refine (K2.out _ HB1.out).mono ?_
  rintro e w2 ⟨rfl, hb2⟩
  have HB2 := Aside0.mk (HB1.out.trans (hb2.mono HB1.out.size))
  clear f0 f1 f2 f3
  obtain ⟨f0, f1, f2, f3⟩ := GC.out w2 HB2.out
  clear HB1 hb2 K2
  cases p2 with
  | false =>
    go_wp2
    go_ret
    exact ⟨rint (by rw [HCH.out]; rfl), HB0.out.trans (HB2.out.mono HB0.out.size)⟩
  | true =>
  go_wp2_with fail
  refine (K3.out _ HB2.out).mono ?_
  rintro e w3 ⟨A, cap, rfl, hb3, ho⟩
  have HB3 := Aside0.mk (HB2.out.trans (hb3.mono HB2.out.size))
  clear f0 f1 f2 f3
  clear HB2 hb3 K3
  go_wp2_with fail
  refine ho.mono ?_
  rintro e w4 ⟨rfl, n, rfl⟩
  have HB4 := Aside0.mk (pw_below_drewN HB3.out n)
  clear HB3 ho
  generalize w3.drewN n = w4 at *
  obtain ⟨f0, f1, f2, f3⟩ := GC.out w4 HB4.out
  cases p3 with
  | false =>
    go_wp2
    go_ret
    exact ⟨rint (by rw [HCH.out]; rfl), HB0.out.trans (HB4.out.mono HB0.out.size)⟩
  | true =>
  go_wp2_with fail
  refine (K4.out _ HB4.out).mono ?_
  rintro e w5 ⟨rfl, hb5⟩
  have HB5 := Aside0.mk (HB4.out.trans (hb5.mono HB4.out.size))
  clear f0 f1 f2 f3
  obtain ⟨f0, f1, f2, f3⟩ := GC.out w5 HB5.out
  clear HB4 hb5 K4
  cases p4 with
  | false =>
    go_wp2
    go_ret
    exact ⟨rint (by rw [HCH.out]; rfl), HB0.out.trans (HB5.out.mono HB0.out.size)⟩
  | true =>
  go_wp2_with fail
  refine (K5.out _ HB5.out).mono ?_
  rintro e w6 ⟨rfl, hb6⟩
  have HB6 := Aside0.mk (HB5.out.trans (hb6.mono HB5.out.size))
  clear f0 f1 f2 f3
  obtain ⟨f0, f1, f2, f3⟩ := GC.out w6 HB6.out
  clear HB5 hb6 K5
  cases p5 with
  | false =>
    go_wp2
    go_ret
    exact ⟨rint (by rw [HCH.out]; rfl), HB0.out.trans (HB6.out.mono HB0.out.size)⟩
  | true =>
  go_wp2
  clear f0 f1 f2 f3 hlt0
  go_loopw [3] (fun i wr => ∃ k : Nat, k ≤ g.nons.length ∧ i = .int .i64 k ∧ Aside0 (Below W0.heap.size W0 wr) ∧ Aside0 (∀ i : Nat, i < k → g.ofS ((g.terms.length : Int) + 1 + i) ≠ [])) (fun i _ => g.nons.length - (intOf i).toNat)
  case atStart => exact ⟨0, Nat.zero_le _, rfl, HB6, ⟨fun j hj => absurd hj (Nat.not_lt_zero _)⟩⟩
  case round =>
    clear HB6
    obtain ⟨k, hk, rfl, HB, AF⟩ := hrel
    obtain ⟨f0, f1, f2, f3⟩ := GC.out _ HB.out
    by_cases hkl : k < g.nons.length
    · have hkz : (k : Int) < (g.nons.length : Int) := by omega
      have KO := Aside0.mk (K6.out wr ((g.terms.length : Int) + 1 + k) HB.out)
      obtain ⟨l, hl⟩ : ∃ l, g.ofS ((g.terms.length : Int) + 1 + k) = l := ⟨_, rfl⟩
      rw [hl] at KO
      have HL := Aside0.mk hl
      clear hl
      cases l with
      | nil =>
        go_wp2_with (go_at_call 18; refine KO.out.mono ?_; rintro e w7 ⟨A, c, rfl, hb7⟩)
        go_ret
        have h6 := HB.out.trans (hb7.mono HB.out.size)
        exact ⟨rint (by rw [HCH.out, LT.out k hkl HL.out]; rfl), HB0.out.trans (h6.mono HB0.out.size)⟩
      | cons x xs =>
        have hne : ((((x :: xs).length : Nat) : Int) == 0) = false := beq_false_of_ne (by simp; omega)
        go_wp2_with (go_at_call 18; refine KO.out.mono ?_; rintro e w7 ⟨A, c, rfl, hb7⟩)
        go_roundw
        case rel => exact ⟨k + 1, by omega, by go_num, ⟨HB.out.trans (hb7.mono HB.out.size)⟩, ⟨lt_snoc (α := Nat) AF.out (by rw [HL.out]; exact List.cons_ne_nil _ _)⟩⟩
        case measure => simp [intOf]; omega
    · have hkz : ¬ (k : Int) < (g.nons.length : Int) := by omega
      obtain rfl : k = g.nons.length := by omega
      go_wp2
      go_ret
      exact ⟨rint (by rw [HCH.out, LF.out AF.out]; rfl), HB0.out.trans (HB.out.mono HB0.out.size)⟩
end Go.Proofs.YtliofoikejdjeaaGreat
