/- The law FaultTells, walked. -/
import Derived.Test.YtnkmpinlijfocaaFmtE16
namespace Go.Proofs.YtnkmpinlijfocaaFmt
open Go.RowKit Go.Proofs.YtnkmpinlijfocaaFmtW.PrintWords Go.Extern.Stop Go.Stop Go.Extern
set_option linter.unusedVariables false
set_option linter.unusedSimpArgs false
/-- What is told of an error, and by the document. -/
structure Told (w : World) (v : Value) (e a x : Int) (ot : Bool) (A2 : Option Addr) (c2 : Nat) (ns : List ByteArray) (cv av : Int) (nv : ByteArray) (iv : Bool) : Prop where
  code : ∀ W, Below w.heap.size w W → Calls Tryf.prog 9 #[v] W fun ev w' => ev = .returned (.int .i64 cv) ∧ Below W.heap.size W w'
  at_ : ∀ W, Below w.heap.size w W → Calls Tryf.prog 10 #[v] W fun ev w' => ev = .returned (.int .i64 av) ∧ Below W.heap.size W w'
  name : ∀ W, Below w.heap.size w W → Calls Tryf.prog 11 #[v] W fun ev w' => ev = .returned (.string nv) ∧ Below W.heap.size W w'
  is : ∀ W, Below w.heap.size w W → Calls Tryf.prog 12 #[v, .int .i64 x] W fun ev w' => ev = .returned (.bool iv) ∧ Below W.heap.size W w'
  rcode : ∀ W, Calls Tryf.prog 15 #[.agg #[.int .i64 e, .int .i64 a, .slice A2 ns.length c2, .bool ot]] W fun ev w' => ev = .returned (.int .i64 cv) ∧ Below W.heap.size W w'
  rat : ∀ W, Calls Tryf.prog 16 #[.agg #[.int .i64 e, .int .i64 a, .slice A2 ns.length c2, .bool ot]] W fun ev w' => ev = .returned (.int .i64 av) ∧ Below W.heap.size W w'
  rname : ∀ W, Below w.heap.size w W → Calls Tryf.prog 17 #[.agg #[.int .i64 e, .int .i64 a, .slice A2 ns.length c2, .bool ot]] W fun ev w' => ev = .returned (.string nv) ∧ Below W.heap.size W w'
  ris : ∀ W, Calls Tryf.prog 18 #[.agg #[.int .i64 e, .int .i64 a, .slice A2 ns.length c2, .bool ot], .int .i64 x] W fun ev w' => ev = .returned (.bool iv) ∧ Below W.heap.size W w'
theorem told_nil (a x : Int) {w : World} : Told w .nilIface 0 a x false none 0 [] (codeV 0 false) (atV 0 a false) (nameV 0 false []) (isV 0 x false) where
  code := fun W _ => fault_Code0 W
  at_ := fun W _ => fault_At0 W
  name := fun W _ => fault_Name0 W
  is := fun W _ => (fault_Is0 W x).mono fun ev w' ⟨h1, h2⟩ => ⟨by rw [h1]; exact rbool (by rw [Bool.eq_iff_iff]; simp [isV]; omega), h2 ▸ Below.refl _ _⟩
  rcode := fun W => ref02_Code 0 a false none _ 0 W
  rat := fun W => ref02_At 0 a false none _ 0 W
  rname := fun W _ => ref02_Name (Kd.C_nil Kd.string W) (by decide)
  ris := fun W => ref02_Is 0 a x false none _ 0 W
theorem last_getD {ns : List ByteArray} : ns.getLast?.getD ⟨#[]⟩ = if ns.length = 0 then ⟨#[]⟩ else ns.getD (ns.length - 1) default := by
  cases ns with
  | nil => rfl
  | cons y r =>
    rw [if_neg (by simp), List.getLast?_eq_getElem?, List.getD_eq_getElem?_getD]
    simp
theorem told_some {w : World} {v : Value} {E : Er} {e a x : Int} {ot : Bool} {A2 : Option Addr} {c2 : Nat} {ns : List ByteArray} {m : Nat} (hne : ot = false → e ≠ 0) (h : ErAt w v E) (hk : Made E e a ot ns m) (hg : GlobalAt w) (hC : Kd.C Kd.string w A2 ns.length ns) (hm : ns.length ≤ 100) :
    Told w v e a x ot A2 c2 ns (codeV e ot) (atV e a ot) (nameV e ot ns) (isV e x ot) where
  code := fun W hb => (fault_Code (h.below hb) (global_below hg hb)).mono fun ev w' ⟨h1, h2⟩ => ⟨by rw [h1, hk.pl]; cases ot <;> rfl, h2⟩
  at_ := fun W hb => (fault_At (h.below hb) (global_below hg hb)).mono fun ev w' ⟨h1, h2⟩ => ⟨by
    rw [h1, hk.pl]
    cases ot
    · simp [atV, hne rfl]
    · rfl, h2⟩
  name := fun W hb => (fault_Name (h.below hb) (global_below hg hb)).mono fun ev w' ⟨h1, h2⟩ => ⟨by
    rw [h1, hk.nm, last_getD]
    unfold nameV
    by_cases h0 : ns.length = 0
    · rw [if_pos h0, if_pos h0]
    · rw [if_neg h0, if_neg h0, if_neg (fun hh => hne hh.1 hh.2)], h2⟩
  is := fun W hb => (fault_Is x (h.below hb)).mono fun ev w' ⟨h1, h2⟩ => ⟨by
    rw [h1, hk.pl]
    refine rbool ?_
    cases ot
    · have := hne rfl
      rw [Bool.eq_iff_iff]
      simp [isV, isOf]
      omega
    · simp [isV, isOf], h2 ▸ Below.refl _ _⟩
  rcode := fun W => ref02_Code e a ot A2 _ c2 W
  rat := fun W => ref02_At e a ot A2 _ c2 W
  rname := fun W hb => ref02_Name (Kd.C_below hC hb) hm
  ris := fun W => ref02_Is e a x ot A2 _ c2 W
theorem tells_many (e a x : Int) (ot : Bool) {A : Option Addr} {c n : Nat} (hn : 30 < n) {w : World} (hg : GlobalAt w) :
    Calls Tryf.prog 4 #[.int .i64 e, .int .i64 a, .bool ot, .slice A n c, .int .i64 x] w fun ev w' => ev = .returned (.bool true) ∧ Below w.heap.size w w' := by
  have hk := law02_awake hg
  have hz : (30 : Int) < (n : Int) := by omega
  clear hg
  go_enter Tryf.func4, Tryf.ntmps4
  go_wp2_with (go_at_call 7; refine hk.mono ?_; rintro ev w1 ⟨rfl, hb⟩)
  go_ret
  exact ⟨rfl, hb⟩
set_option maxHeartbeats 8000000 in
set_option maxRecDepth 100000 in
theorem tells_nil (F : Interp) {w : World} (hF : F.told.answers w.tape) {e a x : Int}  {A : Option Addr} {c : Nat} {xs : List ByteArray} (hx : Kd.C Kd.string w A xs.length xs) (hl : xs.length ≤ 30) (hs : ∀ s ∈ xs, s.size ≤ 140737488351232) (hg : GlobalAt w) :
    Calls Tryf.prog 4 #[.int .i64 0, .int .i64 a, .bool false, .slice A xs.length c, .int .i64 x] w fun ev w' => ev = .returned (.bool true) ∧ Below w.heap.size w w' := by
  have hmade := Aside0.mk (law02_made0 (w := w) (a := a) (A := A) (c := c) (n := xs.length))
  have HG := Aside0.mk hg

  clear hF hx hs hg 
  have hz : ¬ (30 : Int) < (xs.length : Int) := by omega
  go_enter Tryf.func4, Tryf.ntmps4
  go_wp2_with (go_at_call 14; refine hmade.out.mono ?_; rintro ev w1 ⟨rfl, hb1⟩; have HT := Aside0.mk (told_nil a x (w := w1)); have HB1 := Aside0.mk hb1; clear hb1)
  obtain ⟨cv, hcv⟩ : ∃ y, codeV 0 false = y := ⟨_, rfl⟩
  obtain ⟨av, hav⟩ : ∃ y, atV 0 a false = y := ⟨_, rfl⟩
  obtain ⟨nv, hnv⟩ : ∃ y, nameV 0 false ([] : List ByteArray) = y := ⟨_, rfl⟩
  obtain ⟨iv, hiv⟩ : ∃ y, isV 0 x false = y := ⟨_, rfl⟩
  rw [hcv, hav, hnv, hiv] at HT
  clear hcv hav hnv hiv
  go_wp2_with fail
  have HBW := Aside0.mk (below_alloc (Below.refl w1.heap.size w1) (.cells #[.int .i64 0, .int .i64 a, .slice none 0 0, .bool false] 37))
  have HBK := Aside0.mk (blk_new w1 (.cells #[.int .i64 0, .int .i64 a, .slice none 0 0, .bool false] 37))
  obtain ⟨W0, hW0⟩ : ∃ W, W = w1.alloc (.cells #[.int .i64 0, .int .i64 a, .slice none 0 0, .bool false] 37) := ⟨_, rfl⟩
  rw [← hW0] at HBW HBK ⊢
  clear hW0
  obtain ⟨fB, hfB⟩ : ∃ y, y = w1.heap.size := ⟨_, rfl⟩
  rw [← hfB] at HBK ⊢
  clear hfB
  have KEY : Aside0 (∀ W, Below W0.heap.size W0 W → (W.cell? ⟨fB, 0, none⟩ = some (.int .i64 0) ∧ W.cell? ⟨fB, 1, none⟩ = some (.int .i64 a) ∧ W.cell? ⟨fB, 2, none⟩ = some (.slice none 0 0) ∧ W.cell? ⟨fB, 3, none⟩ = some (.bool false)) ∧ Below w1.heap.size w1 W ∧ Below w.heap.size w W) := ⟨fun W hb => by
    have h1 := HBW.out.trans (hb.mono HBW.out.size)
    exact ⟨⟨blk_cell (blk_below HBK.out hb) 0, blk_cell (blk_below HBK.out hb) 1, blk_cell (blk_below HBK.out hb) 2, blk_cell (blk_below HBK.out hb) 3⟩, h1, HB1.out.trans (h1.mono HB1.out.size)⟩⟩
  clear HBW HBK
  refine wp_region_det (vs := [?d1xv0, ?d1xv1, ?d1xv2, ?d1xv3, ?d1xv4, ?d1xv5, ?d1xv6, ?d1xv7, ?d1xv8, ?d1xv9, ?d1xv10, ?d1xv11, ?d1xv12, ?d1xv13, ?d1xv14, ?d1xv15, ?d1xv16, ?d1xv17, ?d1xv18, ?d1xv19, ?d1xv20, ?d1xv21, ?d1xv22, ?d1xv23, ?d1xv24, ?d1xv25, ?d1xv26, ?d1xv27, ?d1xv28, ?d1xv29, ?d1xv30, ?d1xv31]) (fun w' => Below W0.heap.size W0 w') rfl (by kernel_rfl) (putAll_put (by simp only [Act.put, List.setIfInBounds_toArray, List.set_cons_zero, List.set_cons_succ]; rfl) (putAll_put (by simp only [Act.put, List.setIfInBounds_toArray, List.set_cons_zero, List.set_cons_succ]; rfl) (putAll_put (by simp only [Act.put, List.setIfInBounds_toArray, List.set_cons_zero, List.set_cons_succ]; rfl) (putAll_put (by simp only [Act.put, List.setIfInBounds_toArray, List.set_cons_zero, List.set_cons_succ]; rfl) (putAll_put (by simp only [Act.put, List.setIfInBounds_toArray, List.set_cons_zero, List.set_cons_succ]; rfl) (putAll_put (by simp only [Act.put, List.setIfInBounds_toArray, List.set_cons_zero, List.set_cons_succ]; rfl) (putAll_put (by simp only [Act.put, List.setIfInBounds_toArray, List.set_cons_zero, List.set_cons_succ]; rfl) (putAll_put (by simp only [Act.put, List.setIfInBounds_toArray, List.set_cons_zero, List.set_cons_succ]; rfl) (putAll_put (by simp only [Act.put, List.setIfInBounds_toArray, List.set_cons_zero, List.set_cons_succ]; rfl) (putAll_put (by simp only [Act.put, List.setIfInBounds_toArray, List.set_cons_zero, List.set_cons_succ]; rfl) (putAll_put (by simp only [Act.put, List.setIfInBounds_toArray, List.set_cons_zero, List.set_cons_succ]; rfl) (putAll_put (by simp only [Act.put, List.setIfInBounds_toArray, List.set_cons_zero, List.set_cons_succ]; rfl) (putAll_put (by simp only [Act.put, List.setIfInBounds_toArray, List.set_cons_zero, List.set_cons_succ]; rfl) (putAll_put (by simp only [Act.put, List.setIfInBounds_toArray, List.set_cons_zero, List.set_cons_succ]; rfl) (putAll_put (by simp only [Act.put, List.setIfInBounds_toArray, List.set_cons_zero, List.set_cons_succ]; rfl) (putAll_put (by simp only [Act.put, List.setIfInBounds_toArray, List.set_cons_zero, List.set_cons_succ]; rfl) (putAll_put (by simp only [Act.put, List.setIfInBounds_toArray, List.set_cons_zero, List.set_cons_succ]; rfl) (putAll_put (by simp only [Act.put, List.setIfInBounds_toArray, List.set_cons_zero, List.set_cons_succ]; rfl) (putAll_put (by simp only [Act.put, List.setIfInBounds_toArray, List.set_cons_zero, List.set_cons_succ]; rfl) (putAll_put (by simp only [Act.put, List.setIfInBounds_toArray, List.set_cons_zero, List.set_cons_succ]; rfl) (putAll_put (by simp only [Act.put, List.setIfInBounds_toArray, List.set_cons_zero, List.set_cons_succ]; rfl) (putAll_put (by simp only [Act.put, List.setIfInBounds_toArray, List.set_cons_zero, List.set_cons_succ]; rfl) (putAll_put (by simp only [Act.put, List.setIfInBounds_toArray, List.set_cons_zero, List.set_cons_succ]; rfl) (putAll_put (by simp only [Act.put, List.setIfInBounds_toArray, List.set_cons_zero, List.set_cons_succ]; rfl) (putAll_put (by simp only [Act.put, List.setIfInBounds_toArray, List.set_cons_zero, List.set_cons_succ]; rfl) (putAll_put (by simp only [Act.put, List.setIfInBounds_toArray, List.set_cons_zero, List.set_cons_succ]; rfl) (putAll_put (by simp only [Act.put, List.setIfInBounds_toArray, List.set_cons_zero, List.set_cons_succ]; rfl) (putAll_put (by simp only [Act.put, List.setIfInBounds_toArray, List.set_cons_zero, List.set_cons_succ]; rfl) (putAll_put (by simp only [Act.put, List.setIfInBounds_toArray, List.set_cons_zero, List.set_cons_succ]; rfl) (putAll_put (by simp only [Act.put, List.setIfInBounds_toArray, List.set_cons_zero, List.set_cons_succ]; rfl) (putAll_put (by simp only [Act.put, List.setIfInBounds_toArray, List.set_cons_zero, List.set_cons_succ]; rfl) (putAll_put (by simp only [Act.put, List.setIfInBounds_toArray, List.set_cons_zero, List.set_cons_succ]; rfl) (putAll_nil _))))))))))))))))))))))))))))))))) (below_drew (Below.refl _ _)) ?d1xOps ?d1xFin
  case d1xOps =>
    refine ⟨fun w' hw => ?d1xo0, fun w' hw => ?d1xo1, fun w' hw => ?d1xo2, fun w' hw => ?d1xo3, fun w' hw => ?d1xo4, fun w' hw => ?d1xo5, fun w' hw => ?d1xo6, fun w' hw => ?d1xo7, fun w' hw => ?d1xo8, fun w' hw => ?d1xo9, fun w' hw => ?d1xo10, fun w' hw => ?d1xo11, fun w' hw => ?d1xo12, fun w' hw => ?d1xo13, fun w' hw => ?d1xo14, fun w' hw => ?d1xo15, fun w' hw => ?d1xo16, fun w' hw => ?d1xo17, fun w' hw => ?d1xo18, fun w' hw => ?d1xo19, fun w' hw => ?d1xo20, fun w' hw => ?d1xo21, fun w' hw => ?d1xo22, fun w' hw => ?d1xo23, fun w' hw => ?d1xo24, fun w' hw => ?d1xo25, fun w' hw => ?d1xo26, fun w' hw => ?d1xo27, fun w' hw => ?d1xo28, fun w' hw => ?d1xo29, fun w' hw => ?d1xo30, fun w' hw => ?d1xo31, trivial⟩
    case d1xo0 => obtain ⟨⟨f0, f1, f2, f3⟩, f4, f5⟩ := KEY.out w' hw; go_simp; rfl
    case d1xo1 => obtain ⟨⟨f0, f1, f2, f3⟩, f4, f5⟩ := KEY.out w' hw; (go_simp; refine (HT.out.code w' f4).mono ?_; rintro ev w2 ⟨rfl, hb2⟩; exact ⟨by rfl, hw.trans (hb2.mono hw.size)⟩)
    case d1xo2 => obtain ⟨⟨f0, f1, f2, f3⟩, f4, f5⟩ := KEY.out w' hw; go_simp; rfl
    case d1xo3 => obtain ⟨⟨f0, f1, f2, f3⟩, f4, f5⟩ := KEY.out w' hw; (go_simp; refine (HT.out.rcode w').mono ?_; rintro ev w2 ⟨rfl, hb2⟩; exact ⟨by rfl, hw.trans (hb2.mono hw.size)⟩)
    case d1xo4 => obtain ⟨⟨f0, f1, f2, f3⟩, f4, f5⟩ := KEY.out w' hw; go_simp; rfl
    case d1xo5 => obtain ⟨⟨f0, f1, f2, f3⟩, f4, f5⟩ := KEY.out w' hw; go_simp; rfl
    case d1xo6 => obtain ⟨⟨f0, f1, f2, f3⟩, f4, f5⟩ := KEY.out w' hw; go_simp; rfl
    case d1xo7 => obtain ⟨⟨f0, f1, f2, f3⟩, f4, f5⟩ := KEY.out w' hw; (go_simp; refine (HT.out.at_ w' f4).mono ?_; rintro ev w2 ⟨rfl, hb2⟩; exact ⟨by rfl, hw.trans (hb2.mono hw.size)⟩)
    case d1xo8 => obtain ⟨⟨f0, f1, f2, f3⟩, f4, f5⟩ := KEY.out w' hw; go_simp; rfl
    case d1xo9 => obtain ⟨⟨f0, f1, f2, f3⟩, f4, f5⟩ := KEY.out w' hw; (go_simp; refine (HT.out.rat w').mono ?_; rintro ev w2 ⟨rfl, hb2⟩; exact ⟨by rfl, hw.trans (hb2.mono hw.size)⟩)
    case d1xo10 => obtain ⟨⟨f0, f1, f2, f3⟩, f4, f5⟩ := KEY.out w' hw; go_simp; rfl
    case d1xo11 => obtain ⟨⟨f0, f1, f2, f3⟩, f4, f5⟩ := KEY.out w' hw; go_simp; rfl
    case d1xo12 => obtain ⟨⟨f0, f1, f2, f3⟩, f4, f5⟩ := KEY.out w' hw; go_simp; rfl
    case d1xo13 => obtain ⟨⟨f0, f1, f2, f3⟩, f4, f5⟩ := KEY.out w' hw; go_simp; rfl
    case d1xo14 => obtain ⟨⟨f0, f1, f2, f3⟩, f4, f5⟩ := KEY.out w' hw; (go_simp; refine (HT.out.name w' f4).mono ?_; rintro ev w2 ⟨rfl, hb2⟩; exact ⟨by rfl, hw.trans (hb2.mono hw.size)⟩)
    case d1xo15 => obtain ⟨⟨f0, f1, f2, f3⟩, f4, f5⟩ := KEY.out w' hw; go_simp; rfl
    case d1xo16 => obtain ⟨⟨f0, f1, f2, f3⟩, f4, f5⟩ := KEY.out w' hw; (go_simp; refine (HT.out.rname w' f4).mono ?_; rintro ev w2 ⟨rfl, hb2⟩; exact ⟨by rfl, hw.trans (hb2.mono hw.size)⟩)
    case d1xo17 => obtain ⟨⟨f0, f1, f2, f3⟩, f4, f5⟩ := KEY.out w' hw; go_simp; rfl
    case d1xo18 => obtain ⟨⟨f0, f1, f2, f3⟩, f4, f5⟩ := KEY.out w' hw; go_simp; rfl
    case d1xo19 => obtain ⟨⟨f0, f1, f2, f3⟩, f4, f5⟩ := KEY.out w' hw; go_simp; rfl
    case d1xo20 => obtain ⟨⟨f0, f1, f2, f3⟩, f4, f5⟩ := KEY.out w' hw; go_simp; rfl
    case d1xo21 => obtain ⟨⟨f0, f1, f2, f3⟩, f4, f5⟩ := KEY.out w' hw; go_simp; rfl
    case d1xo22 => obtain ⟨⟨f0, f1, f2, f3⟩, f4, f5⟩ := KEY.out w' hw; (go_simp; refine (HT.out.is w' f4).mono ?_; rintro ev w2 ⟨rfl, hb2⟩; exact ⟨by rfl, hw.trans (hb2.mono hw.size)⟩)
    case d1xo23 => obtain ⟨⟨f0, f1, f2, f3⟩, f4, f5⟩ := KEY.out w' hw; go_simp; rfl
    case d1xo24 => obtain ⟨⟨f0, f1, f2, f3⟩, f4, f5⟩ := KEY.out w' hw; go_simp; rfl
    case d1xo25 => obtain ⟨⟨f0, f1, f2, f3⟩, f4, f5⟩ := KEY.out w' hw; (go_simp; refine (HT.out.ris w').mono ?_; rintro ev w2 ⟨rfl, hb2⟩; exact ⟨by rfl, hw.trans (hb2.mono hw.size)⟩)
    case d1xo26 => obtain ⟨⟨f0, f1, f2, f3⟩, f4, f5⟩ := KEY.out w' hw; go_simp; rfl
    case d1xo27 => obtain ⟨⟨f0, f1, f2, f3⟩, f4, f5⟩ := KEY.out w' hw; go_simp; rfl
    case d1xo28 => obtain ⟨⟨f0, f1, f2, f3⟩, f4, f5⟩ := KEY.out w' hw; go_simp; rfl
    case d1xo29 => obtain ⟨⟨f0, f1, f2, f3⟩, f4, f5⟩ := KEY.out w' hw; (go_simp; refine (law02_awake (global_below HG.out f5)).mono ?_; rintro ev w2 ⟨rfl, hb2⟩; exact ⟨by rfl, hw.trans (hb2.mono hw.size)⟩)
    case d1xo30 => obtain ⟨⟨f0, f1, f2, f3⟩, f4, f5⟩ := KEY.out w' hw; go_simp; rfl
    case d1xo31 => obtain ⟨⟨f0, f1, f2, f3⟩, f4, f5⟩ := KEY.out w' hw; go_simp; rfl
  case d1xFin =>
    intro w9 hw9
    go_wp2
    go_ret
    exact ⟨rfl, (KEY.out w9 hw9).2.2⟩
set_option maxHeartbeats 8000000 in
set_option maxRecDepth 100000 in
theorem tells_other (F : Interp) {w : World} (hF : F.told.answers w.tape) {e a x : Int}  {A : Option Addr} {c : Nat} {xs : List ByteArray} (hx : Kd.C Kd.string w A xs.length xs) (hl : xs.length ≤ 30) (hs : ∀ s ∈ xs, s.size ≤ 140737488351232) (hg : GlobalAt w) :
    Calls Tryf.prog 4 #[.int .i64 e, .int .i64 a, .bool true, .slice A xs.length c, .int .i64 x] w fun ev w' => ev = .returned (.bool true) ∧ Below w.heap.size w w' := by
  have hmade := Aside0.mk (law02_made_true F hF hx hl hs (e := e) (a := a) (c := c))
  have HG := Aside0.mk hg
  have HNE : Aside0 (true = false → e ≠ 0) := ⟨fun h => by cases h⟩

  clear hF hx hs hg 
  have hz : ¬ (30 : Int) < (xs.length : Int) := by omega
  go_enter Tryf.func4, Tryf.ntmps4
  go_wp2_with (go_at_call 14; refine hmade.out.mono ?_; rintro ev w1 ⟨v, E, A2, c2, ns, rfl, h1, h2, h3, h4, hb1, h5⟩; have HT := Aside0.mk (told_some (x := x) (c2 := c2) HNE.out h1 h2 (global_below HG.out hb1) h3 h5); have HB1 := Aside0.mk hb1; obtain ⟨vt, vb, rfl⟩ := erAt_iface h1; clear h1 h2 h3 h4 h5 hb1)
  obtain ⟨cv, hcv⟩ : ∃ y, codeV e true = y := ⟨_, rfl⟩
  obtain ⟨av, hav⟩ : ∃ y, atV e a true = y := ⟨_, rfl⟩
  obtain ⟨nv, hnv⟩ : ∃ y, nameV e true ns = y := ⟨_, rfl⟩
  obtain ⟨iv, hiv⟩ : ∃ y, isV e x true = y := ⟨_, rfl⟩
  rw [hcv, hav, hnv, hiv] at HT
  clear hcv hav hnv hiv
  go_wp2_with fail
  have HBW := Aside0.mk (below_alloc (Below.refl w1.heap.size w1) (.cells #[.int .i64 e, .int .i64 a, .slice A2 ns.length c2, .bool true] 37))
  have HBK := Aside0.mk (blk_new w1 (.cells #[.int .i64 e, .int .i64 a, .slice A2 ns.length c2, .bool true] 37))
  obtain ⟨W0, hW0⟩ : ∃ W, W = w1.alloc (.cells #[.int .i64 e, .int .i64 a, .slice A2 ns.length c2, .bool true] 37) := ⟨_, rfl⟩
  rw [← hW0] at HBW HBK ⊢
  clear hW0
  obtain ⟨fB, hfB⟩ : ∃ y, y = w1.heap.size := ⟨_, rfl⟩
  rw [← hfB] at HBK ⊢
  clear hfB
  have KEY : Aside0 (∀ W, Below W0.heap.size W0 W → (W.cell? ⟨fB, 0, none⟩ = some (.int .i64 e) ∧ W.cell? ⟨fB, 1, none⟩ = some (.int .i64 a) ∧ W.cell? ⟨fB, 2, none⟩ = some (.slice A2 ns.length c2) ∧ W.cell? ⟨fB, 3, none⟩ = some (.bool true)) ∧ Below w1.heap.size w1 W ∧ Below w.heap.size w W) := ⟨fun W hb => by
    have h1 := HBW.out.trans (hb.mono HBW.out.size)
    exact ⟨⟨blk_cell (blk_below HBK.out hb) 0, blk_cell (blk_below HBK.out hb) 1, blk_cell (blk_below HBK.out hb) 2, blk_cell (blk_below HBK.out hb) 3⟩, h1, HB1.out.trans (h1.mono HB1.out.size)⟩⟩
  clear HBW HBK
  refine wp_region_det (vs := [?d2xv0, ?d2xv1, ?d2xv2, ?d2xv3, ?d2xv4, ?d2xv5, ?d2xv6, ?d2xv7, ?d2xv8, ?d2xv9, ?d2xv10, ?d2xv11, ?d2xv12, ?d2xv13, ?d2xv14, ?d2xv15, ?d2xv16, ?d2xv17, ?d2xv18, ?d2xv19, ?d2xv20, ?d2xv21, ?d2xv22, ?d2xv23, ?d2xv24, ?d2xv25, ?d2xv26, ?d2xv27, ?d2xv28, ?d2xv29, ?d2xv30, ?d2xv31]) (fun w' => Below W0.heap.size W0 w') rfl (by kernel_rfl) (putAll_put (by simp only [Act.put, List.setIfInBounds_toArray, List.set_cons_zero, List.set_cons_succ]; rfl) (putAll_put (by simp only [Act.put, List.setIfInBounds_toArray, List.set_cons_zero, List.set_cons_succ]; rfl) (putAll_put (by simp only [Act.put, List.setIfInBounds_toArray, List.set_cons_zero, List.set_cons_succ]; rfl) (putAll_put (by simp only [Act.put, List.setIfInBounds_toArray, List.set_cons_zero, List.set_cons_succ]; rfl) (putAll_put (by simp only [Act.put, List.setIfInBounds_toArray, List.set_cons_zero, List.set_cons_succ]; rfl) (putAll_put (by simp only [Act.put, List.setIfInBounds_toArray, List.set_cons_zero, List.set_cons_succ]; rfl) (putAll_put (by simp only [Act.put, List.setIfInBounds_toArray, List.set_cons_zero, List.set_cons_succ]; rfl) (putAll_put (by simp only [Act.put, List.setIfInBounds_toArray, List.set_cons_zero, List.set_cons_succ]; rfl) (putAll_put (by simp only [Act.put, List.setIfInBounds_toArray, List.set_cons_zero, List.set_cons_succ]; rfl) (putAll_put (by simp only [Act.put, List.setIfInBounds_toArray, List.set_cons_zero, List.set_cons_succ]; rfl) (putAll_put (by simp only [Act.put, List.setIfInBounds_toArray, List.set_cons_zero, List.set_cons_succ]; rfl) (putAll_put (by simp only [Act.put, List.setIfInBounds_toArray, List.set_cons_zero, List.set_cons_succ]; rfl) (putAll_put (by simp only [Act.put, List.setIfInBounds_toArray, List.set_cons_zero, List.set_cons_succ]; rfl) (putAll_put (by simp only [Act.put, List.setIfInBounds_toArray, List.set_cons_zero, List.set_cons_succ]; rfl) (putAll_put (by simp only [Act.put, List.setIfInBounds_toArray, List.set_cons_zero, List.set_cons_succ]; rfl) (putAll_put (by simp only [Act.put, List.setIfInBounds_toArray, List.set_cons_zero, List.set_cons_succ]; rfl) (putAll_put (by simp only [Act.put, List.setIfInBounds_toArray, List.set_cons_zero, List.set_cons_succ]; rfl) (putAll_put (by simp only [Act.put, List.setIfInBounds_toArray, List.set_cons_zero, List.set_cons_succ]; rfl) (putAll_put (by simp only [Act.put, List.setIfInBounds_toArray, List.set_cons_zero, List.set_cons_succ]; rfl) (putAll_put (by simp only [Act.put, List.setIfInBounds_toArray, List.set_cons_zero, List.set_cons_succ]; rfl) (putAll_put (by simp only [Act.put, List.setIfInBounds_toArray, List.set_cons_zero, List.set_cons_succ]; rfl) (putAll_put (by simp only [Act.put, List.setIfInBounds_toArray, List.set_cons_zero, List.set_cons_succ]; rfl) (putAll_put (by simp only [Act.put, List.setIfInBounds_toArray, List.set_cons_zero, List.set_cons_succ]; rfl) (putAll_put (by simp only [Act.put, List.setIfInBounds_toArray, List.set_cons_zero, List.set_cons_succ]; rfl) (putAll_put (by simp only [Act.put, List.setIfInBounds_toArray, List.set_cons_zero, List.set_cons_succ]; rfl) (putAll_put (by simp only [Act.put, List.setIfInBounds_toArray, List.set_cons_zero, List.set_cons_succ]; rfl) (putAll_put (by simp only [Act.put, List.setIfInBounds_toArray, List.set_cons_zero, List.set_cons_succ]; rfl) (putAll_put (by simp only [Act.put, List.setIfInBounds_toArray, List.set_cons_zero, List.set_cons_succ]; rfl) (putAll_put (by simp only [Act.put, List.setIfInBounds_toArray, List.set_cons_zero, List.set_cons_succ]; rfl) (putAll_put (by simp only [Act.put, List.setIfInBounds_toArray, List.set_cons_zero, List.set_cons_succ]; rfl) (putAll_put (by simp only [Act.put, List.setIfInBounds_toArray, List.set_cons_zero, List.set_cons_succ]; rfl) (putAll_put (by simp only [Act.put, List.setIfInBounds_toArray, List.set_cons_zero, List.set_cons_succ]; rfl) (putAll_nil _))))))))))))))))))))))))))))))))) (below_drew (Below.refl _ _)) ?d2xOps ?d2xFin
  case d2xOps =>
    refine ⟨fun w' hw => ?d2xo0, fun w' hw => ?d2xo1, fun w' hw => ?d2xo2, fun w' hw => ?d2xo3, fun w' hw => ?d2xo4, fun w' hw => ?d2xo5, fun w' hw => ?d2xo6, fun w' hw => ?d2xo7, fun w' hw => ?d2xo8, fun w' hw => ?d2xo9, fun w' hw => ?d2xo10, fun w' hw => ?d2xo11, fun w' hw => ?d2xo12, fun w' hw => ?d2xo13, fun w' hw => ?d2xo14, fun w' hw => ?d2xo15, fun w' hw => ?d2xo16, fun w' hw => ?d2xo17, fun w' hw => ?d2xo18, fun w' hw => ?d2xo19, fun w' hw => ?d2xo20, fun w' hw => ?d2xo21, fun w' hw => ?d2xo22, fun w' hw => ?d2xo23, fun w' hw => ?d2xo24, fun w' hw => ?d2xo25, fun w' hw => ?d2xo26, fun w' hw => ?d2xo27, fun w' hw => ?d2xo28, fun w' hw => ?d2xo29, fun w' hw => ?d2xo30, fun w' hw => ?d2xo31, trivial⟩
    case d2xo0 => obtain ⟨⟨f0, f1, f2, f3⟩, f4, f5⟩ := KEY.out w' hw; go_simp; rfl
    case d2xo1 => obtain ⟨⟨f0, f1, f2, f3⟩, f4, f5⟩ := KEY.out w' hw; (go_simp; refine (HT.out.code w' f4).mono ?_; rintro ev w2 ⟨rfl, hb2⟩; exact ⟨by rfl, hw.trans (hb2.mono hw.size)⟩)
    case d2xo2 => obtain ⟨⟨f0, f1, f2, f3⟩, f4, f5⟩ := KEY.out w' hw; go_simp; rfl
    case d2xo3 => obtain ⟨⟨f0, f1, f2, f3⟩, f4, f5⟩ := KEY.out w' hw; (go_simp; refine (HT.out.rcode w').mono ?_; rintro ev w2 ⟨rfl, hb2⟩; exact ⟨by rfl, hw.trans (hb2.mono hw.size)⟩)
    case d2xo4 => obtain ⟨⟨f0, f1, f2, f3⟩, f4, f5⟩ := KEY.out w' hw; go_simp; rfl
    case d2xo5 => obtain ⟨⟨f0, f1, f2, f3⟩, f4, f5⟩ := KEY.out w' hw; go_simp; rfl
    case d2xo6 => obtain ⟨⟨f0, f1, f2, f3⟩, f4, f5⟩ := KEY.out w' hw; go_simp; rfl
    case d2xo7 => obtain ⟨⟨f0, f1, f2, f3⟩, f4, f5⟩ := KEY.out w' hw; (go_simp; refine (HT.out.at_ w' f4).mono ?_; rintro ev w2 ⟨rfl, hb2⟩; exact ⟨by rfl, hw.trans (hb2.mono hw.size)⟩)
    case d2xo8 => obtain ⟨⟨f0, f1, f2, f3⟩, f4, f5⟩ := KEY.out w' hw; go_simp; rfl
    case d2xo9 => obtain ⟨⟨f0, f1, f2, f3⟩, f4, f5⟩ := KEY.out w' hw; (go_simp; refine (HT.out.rat w').mono ?_; rintro ev w2 ⟨rfl, hb2⟩; exact ⟨by rfl, hw.trans (hb2.mono hw.size)⟩)
    case d2xo10 => obtain ⟨⟨f0, f1, f2, f3⟩, f4, f5⟩ := KEY.out w' hw; go_simp; rfl
    case d2xo11 => obtain ⟨⟨f0, f1, f2, f3⟩, f4, f5⟩ := KEY.out w' hw; go_simp; rfl
    case d2xo12 => obtain ⟨⟨f0, f1, f2, f3⟩, f4, f5⟩ := KEY.out w' hw; go_simp; rfl
    case d2xo13 => obtain ⟨⟨f0, f1, f2, f3⟩, f4, f5⟩ := KEY.out w' hw; go_simp; rfl
    case d2xo14 => obtain ⟨⟨f0, f1, f2, f3⟩, f4, f5⟩ := KEY.out w' hw; (go_simp; refine (HT.out.name w' f4).mono ?_; rintro ev w2 ⟨rfl, hb2⟩; exact ⟨by rfl, hw.trans (hb2.mono hw.size)⟩)
    case d2xo15 => obtain ⟨⟨f0, f1, f2, f3⟩, f4, f5⟩ := KEY.out w' hw; go_simp; rfl
    case d2xo16 => obtain ⟨⟨f0, f1, f2, f3⟩, f4, f5⟩ := KEY.out w' hw; (go_simp; refine (HT.out.rname w' f4).mono ?_; rintro ev w2 ⟨rfl, hb2⟩; exact ⟨by rfl, hw.trans (hb2.mono hw.size)⟩)
    case d2xo17 => obtain ⟨⟨f0, f1, f2, f3⟩, f4, f5⟩ := KEY.out w' hw; go_simp; rfl
    case d2xo18 => obtain ⟨⟨f0, f1, f2, f3⟩, f4, f5⟩ := KEY.out w' hw; go_simp; rfl
    case d2xo19 => obtain ⟨⟨f0, f1, f2, f3⟩, f4, f5⟩ := KEY.out w' hw; go_simp; rfl
    case d2xo20 => obtain ⟨⟨f0, f1, f2, f3⟩, f4, f5⟩ := KEY.out w' hw; go_simp; rfl
    case d2xo21 => obtain ⟨⟨f0, f1, f2, f3⟩, f4, f5⟩ := KEY.out w' hw; go_simp; rfl
    case d2xo22 => obtain ⟨⟨f0, f1, f2, f3⟩, f4, f5⟩ := KEY.out w' hw; (go_simp; refine (HT.out.is w' f4).mono ?_; rintro ev w2 ⟨rfl, hb2⟩; exact ⟨by rfl, hw.trans (hb2.mono hw.size)⟩)
    case d2xo23 => obtain ⟨⟨f0, f1, f2, f3⟩, f4, f5⟩ := KEY.out w' hw; go_simp; rfl
    case d2xo24 => obtain ⟨⟨f0, f1, f2, f3⟩, f4, f5⟩ := KEY.out w' hw; go_simp; rfl
    case d2xo25 => obtain ⟨⟨f0, f1, f2, f3⟩, f4, f5⟩ := KEY.out w' hw; (go_simp; refine (HT.out.ris w').mono ?_; rintro ev w2 ⟨rfl, hb2⟩; exact ⟨by rfl, hw.trans (hb2.mono hw.size)⟩)
    case d2xo26 => obtain ⟨⟨f0, f1, f2, f3⟩, f4, f5⟩ := KEY.out w' hw; go_simp; rfl
    case d2xo27 => obtain ⟨⟨f0, f1, f2, f3⟩, f4, f5⟩ := KEY.out w' hw; go_simp; rfl
    case d2xo28 => obtain ⟨⟨f0, f1, f2, f3⟩, f4, f5⟩ := KEY.out w' hw; go_simp; rfl
    case d2xo29 => obtain ⟨⟨f0, f1, f2, f3⟩, f4, f5⟩ := KEY.out w' hw; (go_simp; refine (law02_awake (global_below HG.out f5)).mono ?_; rintro ev w2 ⟨rfl, hb2⟩; exact ⟨by rfl, hw.trans (hb2.mono hw.size)⟩)
    case d2xo30 => obtain ⟨⟨f0, f1, f2, f3⟩, f4, f5⟩ := KEY.out w' hw; go_simp; rfl
    case d2xo31 => obtain ⟨⟨f0, f1, f2, f3⟩, f4, f5⟩ := KEY.out w' hw; go_simp; rfl
  case d2xFin =>
    intro w9 hw9
    go_wp2
    go_ret
    exact ⟨rfl, (KEY.out w9 hw9).2.2⟩
set_option maxHeartbeats 8000000 in
set_option maxRecDepth 100000 in
theorem tells_place (F : Interp) {w : World} (hF : F.told.answers w.tape) {e a x : Int} (hne : e ≠ 0) {A : Option Addr} {c : Nat} {xs : List ByteArray} (hx : Kd.C Kd.string w A xs.length xs) (hl : xs.length ≤ 30) (hs : ∀ s ∈ xs, s.size ≤ 140737488351232) (hg : GlobalAt w) :
    Calls Tryf.prog 4 #[.int .i64 e, .int .i64 a, .bool false, .slice A xs.length c, .int .i64 x] w fun ev w' => ev = .returned (.bool true) ∧ Below w.heap.size w w' := by
  have hmade := Aside0.mk (law02_made_false F hF hne hx hl hs (e := e) (a := a) (c := c))
  have HG := Aside0.mk hg
  have HNE : Aside0 (false = false → e ≠ 0) := ⟨fun _ => hne⟩
  have hq : (e == 0) = false := beq_false_of_ne hne
  clear hF hx hs hg hne
  have hz : ¬ (30 : Int) < (xs.length : Int) := by omega
  go_enter Tryf.func4, Tryf.ntmps4
  go_wp2_with (go_at_call 14; refine hmade.out.mono ?_; rintro ev w1 ⟨v, E, A2, c2, ns, rfl, h1, h2, h3, h4, hb1, h5⟩; have HT := Aside0.mk (told_some (x := x) (c2 := c2) HNE.out h1 h2 (global_below HG.out hb1) h3 h5); have HB1 := Aside0.mk hb1; obtain ⟨vt, vb, rfl⟩ := erAt_iface h1; clear h1 h2 h3 h4 h5 hb1)
  obtain ⟨cv, hcv⟩ : ∃ y, codeV e false = y := ⟨_, rfl⟩
  obtain ⟨av, hav⟩ : ∃ y, atV e a false = y := ⟨_, rfl⟩
  obtain ⟨nv, hnv⟩ : ∃ y, nameV e false ns = y := ⟨_, rfl⟩
  obtain ⟨iv, hiv⟩ : ∃ y, isV e x false = y := ⟨_, rfl⟩
  rw [hcv, hav, hnv, hiv] at HT
  clear hcv hav hnv hiv
  go_wp2_with fail
  have HBW := Aside0.mk (below_alloc (Below.refl w1.heap.size w1) (.cells #[.int .i64 e, .int .i64 a, .slice A2 ns.length c2, .bool false] 37))
  have HBK := Aside0.mk (blk_new w1 (.cells #[.int .i64 e, .int .i64 a, .slice A2 ns.length c2, .bool false] 37))
  obtain ⟨W0, hW0⟩ : ∃ W, W = w1.alloc (.cells #[.int .i64 e, .int .i64 a, .slice A2 ns.length c2, .bool false] 37) := ⟨_, rfl⟩
  rw [← hW0] at HBW HBK ⊢
  clear hW0
  obtain ⟨fB, hfB⟩ : ∃ y, y = w1.heap.size := ⟨_, rfl⟩
  rw [← hfB] at HBK ⊢
  clear hfB
  have KEY : Aside0 (∀ W, Below W0.heap.size W0 W → (W.cell? ⟨fB, 0, none⟩ = some (.int .i64 e) ∧ W.cell? ⟨fB, 1, none⟩ = some (.int .i64 a) ∧ W.cell? ⟨fB, 2, none⟩ = some (.slice A2 ns.length c2) ∧ W.cell? ⟨fB, 3, none⟩ = some (.bool false)) ∧ Below w1.heap.size w1 W ∧ Below w.heap.size w W) := ⟨fun W hb => by
    have h1 := HBW.out.trans (hb.mono HBW.out.size)
    exact ⟨⟨blk_cell (blk_below HBK.out hb) 0, blk_cell (blk_below HBK.out hb) 1, blk_cell (blk_below HBK.out hb) 2, blk_cell (blk_below HBK.out hb) 3⟩, h1, HB1.out.trans (h1.mono HB1.out.size)⟩⟩
  clear HBW HBK
  refine wp_region_det (vs := [?d3xv0, ?d3xv1, ?d3xv2, ?d3xv3, ?d3xv4, ?d3xv5, ?d3xv6, ?d3xv7, ?d3xv8, ?d3xv9, ?d3xv10, ?d3xv11, ?d3xv12, ?d3xv13, ?d3xv14, ?d3xv15, ?d3xv16, ?d3xv17, ?d3xv18, ?d3xv19, ?d3xv20, ?d3xv21, ?d3xv22, ?d3xv23, ?d3xv24, ?d3xv25, ?d3xv26, ?d3xv27, ?d3xv28, ?d3xv29, ?d3xv30, ?d3xv31]) (fun w' => Below W0.heap.size W0 w') rfl (by kernel_rfl) (putAll_put (by simp only [Act.put, List.setIfInBounds_toArray, List.set_cons_zero, List.set_cons_succ]; rfl) (putAll_put (by simp only [Act.put, List.setIfInBounds_toArray, List.set_cons_zero, List.set_cons_succ]; rfl) (putAll_put (by simp only [Act.put, List.setIfInBounds_toArray, List.set_cons_zero, List.set_cons_succ]; rfl) (putAll_put (by simp only [Act.put, List.setIfInBounds_toArray, List.set_cons_zero, List.set_cons_succ]; rfl) (putAll_put (by simp only [Act.put, List.setIfInBounds_toArray, List.set_cons_zero, List.set_cons_succ]; rfl) (putAll_put (by simp only [Act.put, List.setIfInBounds_toArray, List.set_cons_zero, List.set_cons_succ]; rfl) (putAll_put (by simp only [Act.put, List.setIfInBounds_toArray, List.set_cons_zero, List.set_cons_succ]; rfl) (putAll_put (by simp only [Act.put, List.setIfInBounds_toArray, List.set_cons_zero, List.set_cons_succ]; rfl) (putAll_put (by simp only [Act.put, List.setIfInBounds_toArray, List.set_cons_zero, List.set_cons_succ]; rfl) (putAll_put (by simp only [Act.put, List.setIfInBounds_toArray, List.set_cons_zero, List.set_cons_succ]; rfl) (putAll_put (by simp only [Act.put, List.setIfInBounds_toArray, List.set_cons_zero, List.set_cons_succ]; rfl) (putAll_put (by simp only [Act.put, List.setIfInBounds_toArray, List.set_cons_zero, List.set_cons_succ]; rfl) (putAll_put (by simp only [Act.put, List.setIfInBounds_toArray, List.set_cons_zero, List.set_cons_succ]; rfl) (putAll_put (by simp only [Act.put, List.setIfInBounds_toArray, List.set_cons_zero, List.set_cons_succ]; rfl) (putAll_put (by simp only [Act.put, List.setIfInBounds_toArray, List.set_cons_zero, List.set_cons_succ]; rfl) (putAll_put (by simp only [Act.put, List.setIfInBounds_toArray, List.set_cons_zero, List.set_cons_succ]; rfl) (putAll_put (by simp only [Act.put, List.setIfInBounds_toArray, List.set_cons_zero, List.set_cons_succ]; rfl) (putAll_put (by simp only [Act.put, List.setIfInBounds_toArray, List.set_cons_zero, List.set_cons_succ]; rfl) (putAll_put (by simp only [Act.put, List.setIfInBounds_toArray, List.set_cons_zero, List.set_cons_succ]; rfl) (putAll_put (by simp only [Act.put, List.setIfInBounds_toArray, List.set_cons_zero, List.set_cons_succ]; rfl) (putAll_put (by simp only [Act.put, List.setIfInBounds_toArray, List.set_cons_zero, List.set_cons_succ]; rfl) (putAll_put (by simp only [Act.put, List.setIfInBounds_toArray, List.set_cons_zero, List.set_cons_succ]; rfl) (putAll_put (by simp only [Act.put, List.setIfInBounds_toArray, List.set_cons_zero, List.set_cons_succ]; rfl) (putAll_put (by simp only [Act.put, List.setIfInBounds_toArray, List.set_cons_zero, List.set_cons_succ]; rfl) (putAll_put (by simp only [Act.put, List.setIfInBounds_toArray, List.set_cons_zero, List.set_cons_succ]; rfl) (putAll_put (by simp only [Act.put, List.setIfInBounds_toArray, List.set_cons_zero, List.set_cons_succ]; rfl) (putAll_put (by simp only [Act.put, List.setIfInBounds_toArray, List.set_cons_zero, List.set_cons_succ]; rfl) (putAll_put (by simp only [Act.put, List.setIfInBounds_toArray, List.set_cons_zero, List.set_cons_succ]; rfl) (putAll_put (by simp only [Act.put, List.setIfInBounds_toArray, List.set_cons_zero, List.set_cons_succ]; rfl) (putAll_put (by simp only [Act.put, List.setIfInBounds_toArray, List.set_cons_zero, List.set_cons_succ]; rfl) (putAll_put (by simp only [Act.put, List.setIfInBounds_toArray, List.set_cons_zero, List.set_cons_succ]; rfl) (putAll_put (by simp only [Act.put, List.setIfInBounds_toArray, List.set_cons_zero, List.set_cons_succ]; rfl) (putAll_nil _))))))))))))))))))))))))))))))))) (below_drew (Below.refl _ _)) ?d3xOps ?d3xFin
  case d3xOps =>
    refine ⟨fun w' hw => ?d3xo0, fun w' hw => ?d3xo1, fun w' hw => ?d3xo2, fun w' hw => ?d3xo3, fun w' hw => ?d3xo4, fun w' hw => ?d3xo5, fun w' hw => ?d3xo6, fun w' hw => ?d3xo7, fun w' hw => ?d3xo8, fun w' hw => ?d3xo9, fun w' hw => ?d3xo10, fun w' hw => ?d3xo11, fun w' hw => ?d3xo12, fun w' hw => ?d3xo13, fun w' hw => ?d3xo14, fun w' hw => ?d3xo15, fun w' hw => ?d3xo16, fun w' hw => ?d3xo17, fun w' hw => ?d3xo18, fun w' hw => ?d3xo19, fun w' hw => ?d3xo20, fun w' hw => ?d3xo21, fun w' hw => ?d3xo22, fun w' hw => ?d3xo23, fun w' hw => ?d3xo24, fun w' hw => ?d3xo25, fun w' hw => ?d3xo26, fun w' hw => ?d3xo27, fun w' hw => ?d3xo28, fun w' hw => ?d3xo29, fun w' hw => ?d3xo30, fun w' hw => ?d3xo31, trivial⟩
    case d3xo0 => obtain ⟨⟨f0, f1, f2, f3⟩, f4, f5⟩ := KEY.out w' hw; go_simp; rfl
    case d3xo1 => obtain ⟨⟨f0, f1, f2, f3⟩, f4, f5⟩ := KEY.out w' hw; (go_simp; refine (HT.out.code w' f4).mono ?_; rintro ev w2 ⟨rfl, hb2⟩; exact ⟨by rfl, hw.trans (hb2.mono hw.size)⟩)
    case d3xo2 => obtain ⟨⟨f0, f1, f2, f3⟩, f4, f5⟩ := KEY.out w' hw; go_simp; rfl
    case d3xo3 => obtain ⟨⟨f0, f1, f2, f3⟩, f4, f5⟩ := KEY.out w' hw; (go_simp; refine (HT.out.rcode w').mono ?_; rintro ev w2 ⟨rfl, hb2⟩; exact ⟨by rfl, hw.trans (hb2.mono hw.size)⟩)
    case d3xo4 => obtain ⟨⟨f0, f1, f2, f3⟩, f4, f5⟩ := KEY.out w' hw; go_simp; rfl
    case d3xo5 => obtain ⟨⟨f0, f1, f2, f3⟩, f4, f5⟩ := KEY.out w' hw; go_simp; rfl
    case d3xo6 => obtain ⟨⟨f0, f1, f2, f3⟩, f4, f5⟩ := KEY.out w' hw; go_simp; rfl
    case d3xo7 => obtain ⟨⟨f0, f1, f2, f3⟩, f4, f5⟩ := KEY.out w' hw; (go_simp; refine (HT.out.at_ w' f4).mono ?_; rintro ev w2 ⟨rfl, hb2⟩; exact ⟨by rfl, hw.trans (hb2.mono hw.size)⟩)
    case d3xo8 => obtain ⟨⟨f0, f1, f2, f3⟩, f4, f5⟩ := KEY.out w' hw; go_simp; rfl
    case d3xo9 => obtain ⟨⟨f0, f1, f2, f3⟩, f4, f5⟩ := KEY.out w' hw; (go_simp; refine (HT.out.rat w').mono ?_; rintro ev w2 ⟨rfl, hb2⟩; exact ⟨by rfl, hw.trans (hb2.mono hw.size)⟩)
    case d3xo10 => obtain ⟨⟨f0, f1, f2, f3⟩, f4, f5⟩ := KEY.out w' hw; go_simp; rfl
    case d3xo11 => obtain ⟨⟨f0, f1, f2, f3⟩, f4, f5⟩ := KEY.out w' hw; go_simp; rfl
    case d3xo12 => obtain ⟨⟨f0, f1, f2, f3⟩, f4, f5⟩ := KEY.out w' hw; go_simp; rfl
    case d3xo13 => obtain ⟨⟨f0, f1, f2, f3⟩, f4, f5⟩ := KEY.out w' hw; go_simp; rfl
    case d3xo14 => obtain ⟨⟨f0, f1, f2, f3⟩, f4, f5⟩ := KEY.out w' hw; (go_simp; refine (HT.out.name w' f4).mono ?_; rintro ev w2 ⟨rfl, hb2⟩; exact ⟨by rfl, hw.trans (hb2.mono hw.size)⟩)
    case d3xo15 => obtain ⟨⟨f0, f1, f2, f3⟩, f4, f5⟩ := KEY.out w' hw; go_simp; rfl
    case d3xo16 => obtain ⟨⟨f0, f1, f2, f3⟩, f4, f5⟩ := KEY.out w' hw; (go_simp; refine (HT.out.rname w' f4).mono ?_; rintro ev w2 ⟨rfl, hb2⟩; exact ⟨by rfl, hw.trans (hb2.mono hw.size)⟩)
    case d3xo17 => obtain ⟨⟨f0, f1, f2, f3⟩, f4, f5⟩ := KEY.out w' hw; go_simp; rfl
    case d3xo18 => obtain ⟨⟨f0, f1, f2, f3⟩, f4, f5⟩ := KEY.out w' hw; go_simp; rfl
    case d3xo19 => obtain ⟨⟨f0, f1, f2, f3⟩, f4, f5⟩ := KEY.out w' hw; go_simp; rfl
    case d3xo20 => obtain ⟨⟨f0, f1, f2, f3⟩, f4, f5⟩ := KEY.out w' hw; go_simp; rfl
    case d3xo21 => obtain ⟨⟨f0, f1, f2, f3⟩, f4, f5⟩ := KEY.out w' hw; go_simp; rfl
    case d3xo22 => obtain ⟨⟨f0, f1, f2, f3⟩, f4, f5⟩ := KEY.out w' hw; (go_simp; refine (HT.out.is w' f4).mono ?_; rintro ev w2 ⟨rfl, hb2⟩; exact ⟨by rfl, hw.trans (hb2.mono hw.size)⟩)
    case d3xo23 => obtain ⟨⟨f0, f1, f2, f3⟩, f4, f5⟩ := KEY.out w' hw; go_simp; rfl
    case d3xo24 => obtain ⟨⟨f0, f1, f2, f3⟩, f4, f5⟩ := KEY.out w' hw; go_simp; rfl
    case d3xo25 => obtain ⟨⟨f0, f1, f2, f3⟩, f4, f5⟩ := KEY.out w' hw; (go_simp; refine (HT.out.ris w').mono ?_; rintro ev w2 ⟨rfl, hb2⟩; exact ⟨by rfl, hw.trans (hb2.mono hw.size)⟩)
    case d3xo26 => obtain ⟨⟨f0, f1, f2, f3⟩, f4, f5⟩ := KEY.out w' hw; go_simp; rfl
    case d3xo27 => obtain ⟨⟨f0, f1, f2, f3⟩, f4, f5⟩ := KEY.out w' hw; go_simp; rfl
    case d3xo28 => obtain ⟨⟨f0, f1, f2, f3⟩, f4, f5⟩ := KEY.out w' hw; go_simp; rfl
    case d3xo29 => obtain ⟨⟨f0, f1, f2, f3⟩, f4, f5⟩ := KEY.out w' hw; (go_simp; refine (law02_awake (global_below HG.out f5)).mono ?_; rintro ev w2 ⟨rfl, hb2⟩; exact ⟨by rfl, hw.trans (hb2.mono hw.size)⟩)
    case d3xo30 => obtain ⟨⟨f0, f1, f2, f3⟩, f4, f5⟩ := KEY.out w' hw; go_simp; rfl
    case d3xo31 => obtain ⟨⟨f0, f1, f2, f3⟩, f4, f5⟩ := KEY.out w' hw; go_simp; rfl
  case d3xFin =>
    intro w9 hw9
    go_wp2
    go_ret
    exact ⟨rfl, (KEY.out w9 hw9).2.2⟩
end Go.Proofs.YtnkmpinlijfocaaFmt
