/- conchlaw02.made: an error, and what it is made of. -/
import Derived.Test.YtnkmpinlijfocaaFmtE13
import Derived.Test.YtnkmpinlijfocaaFmtWTab
import Derived.Test.YtnkmpinlijfocaaFmtPa
namespace Go.Proofs.YtnkmpinlijfocaaFmt
open Go.RowKit Go.Proofs.YtnkmpinlijfocaaFmtW.PrintWords Go.Proofs.YtnkmpinlijfocaaFmtW.PrintLast Go.Extern.Stop Go.Stop Go.Extern
set_option linter.unusedVariables false
set_option linter.unusedSimpArgs false
def madeT : Bool × List (List Nat × List Nat) := (true, [([], []), ([], []), ([1], [1]), ([0, 2], [0, 2]), ([], []), ([], []), ([4, 5], [4, 5]), ([6], [6]), ([7], [7]), ([3, 8, 3], [3, 8]), ([0, 1, 2, 3, 4, 5, 6, 7, 8, 9], []), ([10, 9, 9, 0, 1, 2, 3, 4, 5, 6, 7, 8, 9], [9, 10])])
def madeB : List Nat := [0, 0, 2, 7, 0, 0, 48, 112, 240, 511, 1023, 2047]
theorem madeTab : rtab .any (opsOf Tryf.f14 11) = madeT := by kernel_rfl
theorem madeBits : waitsOk madeT.2 madeB = true := by kernel_rfl
def made2T : Bool × List (List Nat × List Nat) := (true, [([], []), ([], []), ([0, 0], [0]), ([1, 2, 0, 1, 2], [1])])
def made2B : List Nat := [0, 0, 1, 7]
theorem made2Tab : rtab .any (opsOf Tryf.f14 12) = made2T := by kernel_rfl
theorem made2Bits : waitsOk made2T.2 made2B = true := by kernel_rfl
theorem errorf_more_any (F : Interp) {w : World} {v : Value} {E : Er} {blk : Nat} (hF : F.answers w.tape) (h : ErAt w v E) (hs : E.small) (hc0 : w.cell? ⟨blk, 0, none⟩ = some v) :
    Calls Tryf.prog 8 #[.string ⟨#[109, 111, 114, 101, 58, 32, 37, 119]⟩, .slice (some ⟨blk, 0, none⟩) 1 1] w fun e w' => ∃ v', e = .returned v' ∧ ErAt w' v' (.wrap (FmtStop.textOf (F "fmt.errorf" (askedOf [109, 111, 114, 101, 58, 32, 37, 119] E) 0)) E) ∧ Below w.heap.size w w' := by
  cases hp : E.plain with
  | true => exact errorfp_more F hF h hs hp hc0
  | false => exact errorf_more F hF h hs hp hc0
theorem fault_New_any (e a : Int) (w : World) : Calls Tryf.prog 5 #[.int .i64 e, .int .i64 a] w fun ev w' => ∃ v, ev = .returned v ∧ Below w.heap.size w w' := by
  by_cases he : e = 0
  · subst he
    exact (fault_New0 a w).mono fun ev w' ⟨h1, h2⟩ => ⟨_, h1, h2 ▸ Below.refl _ _⟩
  · exact (fault_New a he w).mono fun ev w' ⟨v, h1, _, h2⟩ => ⟨v, h1, h2⟩
theorem ErAt.set_ {w : World} {g : Nat} {cs : Array Value} (hb : w.heap[g]? = some (.cells cs 37 (0, 0))) (i : Nat) (u : Value) : ∀ {E : Er} {v : Value}, ErAt w v E → ErAt (w.setCell ⟨g, i, none⟩ u) v E := by
  intro E
  induction E with
  | place e a => rintro v ⟨b, rfl, h⟩; exact ⟨b, rfl, blk_far (p := ⟨g, i, none⟩) h (blk_ne h hb (by decide)) _⟩
  | named n i ih => rintro v ⟨b, u, rfl, h, hu⟩; exact ⟨b, u, rfl, blk_far (p := ⟨g, _, none⟩) h (blk_ne h hb (by decide)) _, ih hu⟩
  | wrap m i ih => rintro v ⟨b, u, rfl, h, hu⟩; exact ⟨b, u, rfl, blk_far (p := ⟨g, _, none⟩) h (blk_ne h hb (by decide)) _, ih hu⟩
  | other s => rintro v ⟨b, rfl, h⟩; exact ⟨b, rfl, blk_far (p := ⟨g, i, none⟩) h (blk_ne h hb (by decide)) _⟩
/-- What is known of the error that is made, and of the names within it. -/
structure Made (E : Er) (e a : Int) (ot : Bool) (ns : List ByteArray) (m : Nat) : Prop where
  pl : E.pl = if ot then none else some (e, a)
  nm : E.nm = ns.getLast?
  small : E.small
  size : E.text.size ≤ m
/-- The world at the loop's head. -/
structure MadeAt (w wr : World) (fB rB : Nat) (v : Value) (e a : Int) (ot : Bool) (k : Nat) (E : Er) (ns : List ByteArray) (A2 : Option Addr) (c2 : Nat) : Prop where
  err : ErAt wr v E
  made : Made E e a ot ns (100 + k * 281474976710656)
  f : wr.heap[fB]? = some (.cells #[.int .i64 e, .int .i64 a, .slice A2 ns.length c2, .bool ot] 37 (0, 0))
  res : wr.heap[rB]? = some (.cells #[.int .i64 0, .int .i64 0, .slice none 0 0, .bool false] 37 (0, 0))
  names : Kd.R Kd.string 9 wr w.heap.size (fun _ => True) (.slice A2 ns.length c2) ns
  len : ns.length ≤ k
  below : Below w.heap.size w wr
theorem made_at {w W : World} {v : Value} {E : Er} {e a : Int} {ot : Bool} (hb : Below ((w.alloc (.cells #[.int .i64 0, .int .i64 0, .slice none 0 0, .bool false] 37)).alloc (.cells #[.int .i64 e, .int .i64 a, .slice none 0 0, .bool ot] 37)).heap.size ((w.alloc (.cells #[.int .i64 0, .int .i64 0, .slice none 0 0, .bool false] 37)).alloc (.cells #[.int .i64 e, .int .i64 a, .slice none 0 0, .bool ot] 37)) W)
    (h : ErAt W v E) (hk : Made E e a ot [] 100) : MadeAt w W (w.heap.size + 1) w.heap.size v e a ot 0 E [] none 0 := by
  have h1 := blk_alloc (blk_new w (.cells #[.int .i64 0, .int .i64 0, .slice none 0 0, .bool false] 37)) (.cells #[.int .i64 e, .int .i64 a, .slice none 0 0, .bool ot] 37)
  have h2 := blk_new (w.alloc (.cells #[.int .i64 0, .int .i64 0, .slice none 0 0, .bool false] 37)) (.cells #[.int .i64 e, .int .i64 a, .slice none 0 0, .bool ot] 37)
  rw [show (w.alloc (.cells #[.int .i64 0, .int .i64 0, .slice none 0 0, .bool false] 37)).heap.size = w.heap.size + 1 from by simp] at h2
  exact ⟨h, hk, blk_below h2 hb, blk_below h1 hb, Kd.R_nil Kd.string _ _ _ _, Nat.zero_le _, below_new2 hb⟩
theorem made_text (F : Interp) {E : Er} {e a : Int} {ot : Bool} {ns : List ByteArray} {m : Nat} (h : Made E e a ot ns m) (hm : m ≤ 4611686018427387904) :
    Made (.wrap (FmtStop.textOf (F.told "fmt.errorf" (askedOf [109, 111, 114, 101, 58, 32, 37, 119] E) 0)) E) e a ot ns (m + 281474976710656) := by
  have hs : (Er.wrap (FmtStop.textOf (F.told "fmt.errorf" (askedOf [109, 111, 114, 101, 58, 32, 37, 119] E) 0)) E).text.size = 6 + E.text.size := told_size F parse_more (by decide) E (Nat.le_trans h.size hm)
  exact ⟨h.pl, h.nm, trivial, by rw [hs]; have := h.size; omega⟩
theorem made_named {E : Er} {e a : Int} {ot : Bool} {ns : List ByteArray} {m : Nat} {x : ByteArray} (h : Made E e a ot ns m) (hx : x.size ≤ 140737488351232) (hm : m ≤ 1000000000000000000) :
    Made (.named x E) e a ot (ns ++ [x]) (m + 281474976710656) := by
  have hs := named_size x E
  have := h.size
  exact ⟨h.pl, by rw [List.getLast?_concat]; rfl, ⟨by omega, h.small⟩, by omega⟩
set_option maxHeartbeats 8000000 in
set_option maxRecDepth 100000 in
theorem law02_made_true (F : Interp) {w : World} (hF : F.told.answers w.tape) {e a : Int} {A : Option Addr} {c : Nat} {xs : List ByteArray} (hx : Kd.C Kd.string w A xs.length xs) (hl : xs.length ≤ 30) (hs : ∀ s ∈ xs, s.size ≤ 140737488351232) :
    Calls Tryf.prog 14 #[.int .i64 e, .int .i64 a, .bool true, .slice A xs.length c] w fun ev w' => ∃ v E A2 c2 ns, ev = .returned (.tuple #[v, .agg #[.int .i64 e, .int .i64 a, .slice A2 ns.length c2, .bool true]]) ∧ ErAt w' v E ∧ Made E e a true ns 8444249301319780 ∧ Kd.C Kd.string w' A2 ns.length ns ∧ ns.length ≤ c2 ∧ Below w.heap.size w w' ∧ ns.length ≤ 100 := by
  have HF := Aside0.mk hF
  have HXS := Aside0.mk hx
  have HS := Aside0.mk hs
  have HN := Aside0.mk True.intro
  clear hF hx hs 
  go_enter Tryf.func14, Tryf.ntmps14
  go_wp2_with (first
    | (go_at_call 5; refine (fault_New_any e a _).mono ?_; rintro ev w1 ⟨v1, rfl, hb1⟩; have HB1 := Aside0.mk hb1; clear hb1)
    | (go_at_call 20; refine (errors_New _ _).mono ?_; rintro ev w2 ⟨v2, rfl, h2, hb2⟩; have HM := Aside0.mk (made_at (HB1.out.trans (hb2.mono HB1.out.size)) h2 (e := e) (a := a) ⟨rfl, rfl, trivial, by show 5 ≤ _; omega⟩); clear h2 hb2 HB1))
  obtain ⟨fB, hfB⟩ : ∃ x, x = w.heap.size + 1 := ⟨_, rfl⟩
  rw [← hfB] at HM ⊢
  have hfb : w.heap.size ≤ fB := by omega
  have hfr : fB ≠ w.heap.size := by omega
  clear hfB
  go_loopg [11, 12] xs.length (fun gg v11 v12 wr => ∃ (k : Nat) (E : Er) (ns : List ByteArray) (A2 : Option Addr) (c2 : Nat), k ≤ xs.length ∧ xs.length - k ≤ gg ∧ v12 = .int .i64 k ∧ Aside0 (MadeAt w wr fB w.heap.size v11 e a true k E ns A2 c2))
  case atStart => exact ⟨0, _, _, _, _, by omega, by omega, rfl, HM⟩
  case round =>
    clear HM
    obtain ⟨k, E, ns, A2, c2, hk, hgg, rfl, HM⟩ := hrel
    obtain ⟨ty, eb, rfl⟩ := erAt_iface HM.out.err
    by_cases hlt : k < xs.length
    · obtain ⟨ad, rfl, hcx⟩ := at_str HXS.out k hlt
      obtain ⟨x, hx⟩ : ∃ x, xs.getD k default = x := ⟨_, rfl⟩
      rw [hx] at hcx
      have HXZ : Aside0 (x.size ≤ 140737488351232) := ⟨by rw [← hx]; exact HS.out _ (getD_mem hlt)⟩
      have HX := Aside0.mk hcx
      have hlen := HM.out.len
      clear hx hcx
      have hcw := pw_cell_below HM.out.below HX.out
      by_cases hsp : x = ⟨#[32]⟩
      · subst hsp
        go_wp2_with (go_at_call 8; refine (errorf_more_any F.told (E := E) (answers_below HF.out (below_alloc HM.out.below _)) (HM.out.err.below (below_alloc (Below.refl _ _) _)) HM.out.made.small (by simp)).mono ?_; rintro ev w2 ⟨v2, rfl, h2, hb2⟩; have H2 := Aside0.mk h2; have HB2 := Aside0.mk (below_new hb2); clear h2 hb2 hcw)
        go_roundg (xs.length - (k + 1))
        case measure => omega
        case rel =>
          have hm := HM.out
          refine ⟨k + 1, _, ns, A2, c2, hlt, by omega, by go_num, ⟨⟨H2.out, ?_, blk_below hm.f HB2.out, blk_below hm.res HB2.out, Kd.R_below hm.names HB2.out, Nat.le_succ_of_le hm.len, hm.below.trans (HB2.out.mono hm.below.size)⟩⟩⟩
          rw [show 100 + (k + 1) * 281474976710656 = 100 + k * 281474976710656 + 281474976710656 from by omega]
          exact made_text F hm.made (by omega)
      · have hne2 := str_ne hsp
        rw [show (ByteArray.mk #[32]).toList = [32] from by rw [ByteArray.toList_eq]] at hne2
        clear hsp
        go_wp2_with (go_at_call 6; refine (fault_In x HM.out.err).mono ?_; rintro ev w3 ⟨v3, rfl, h3, hb3⟩; have H3 := Aside0.mk h3; have HB3 := Aside0.mk hb3; clear h3 hb3 hcw)
        have hm := HM.out
        obtain ⟨wr, hwr⟩ : ∃ W, W = w3 := ⟨_, rfl⟩
        rw [← hwr] at H3 HB3 ⊢
        clear hwr
        have hwd : Below wr.heap.size wr wr.drew := below_drew (Below.refl _ _)
        have BK := Aside0.mk (blk_below (blk_below hm.f HB3.out) hwd)
        have HC := Aside0.mk (Kd.C_below (Kd.C_below (Kd.R_reads' hm.names).2.2 HB3.out) hwd)
        have hbx := HB3.out.trans (hwd.mono HB3.out.size)
        have HX5 := Aside0.mk (pw_cell_below (hm.below.trans (hbx.mono hm.below.size)) HX.out)
        have H35 := Aside0.mk (H3.out.below hwd)
        have HM5 : Aside0 (wr.drew.heap[w.heap.size]? = some (.cells #[.int .i64 0, .int .i64 0, .slice none 0 0, .bool false] 37 (0, 0)) ∧ Below w.heap.size w wr.drew) := ⟨blk_below hm.res hbx, hm.below.trans (hbx.mono hm.below.size)⟩
        have HK5 : Aside0 (Made (.named x E) e a true (ns ++ [x]) (100 + (k + 1) * 281474976710656) ∧ ns.length ≤ k ∧ w.heap.size ≤ wr.drew.heap.size) := ⟨by rw [show 100 + (k + 1) * 281474976710656 = 100 + k * 281474976710656 + 281474976710656 from by omega]; exact made_named hm.made HXZ.out (by omega), hm.len, (hm.below.trans (hbx.mono hm.below.size)).size⟩
        have HB := Aside0.mk (Below.refl wr.drew.heap.size wr.drew)
        clear hm hwd hbx HX H3 HB3 HM
        have HX := HX5
        have H3 := H35
        clear HX5 H35
        refine start_ (n := 12) (S := fun w' => w'.cell? ⟨fB, 2, none⟩ = some (.slice A2 ns.length c2) ∧ w'.cell? (ad.add k) = some (.string x)) (ds := [11]) #[false, false, false, false, false, false, false, false, false, false, false, false] (by kernel_rfl) rfl rfl ⟨(blk_cell (blk_below BK.out HB.out) 2).trans rfl, pw_cell_below HB.out HX.out⟩ (fun hHeld => ?_)
        refine with_tabW madeTab madeBits (fun HT_ HW_ => ?_)
        generalize wr.drew = w5 at BK HB HX HC H3 HM5 HK5 hHeld ⊢
        refine pure_ (i := 1) (N := (some 47)) (v := ?_) (a' := ?_) #[false, true, false, false, false, false, false, false, false, false, false, false] rfl rfl (any_of HT_.out (by kernel_rfl)) (fun _ _ _ h => h) (Or.inl ⟨by rfl, ?_⟩) ?_ ?_
        rotate_left
        · intro w'
          go_simp
          with_reducible rfl
        rotate_left
        · simp only [Act.put, List.setIfInBounds_toArray, List.set_cons_zero, List.set_cons_succ, i64_w, i32_w]
          rfl
        refine pure_ (i := 4) (N := (some 50)) (v := ?_) (a' := ?_) #[false, true, false, false, true, false, false, false, false, false, false, false] rfl rfl (any_of HT_.out (by kernel_rfl)) (fun _ _ _ h => h) (Or.inl ⟨by rfl, ?_⟩) ?_ ?_
        rotate_left
        · intro w'
          go_simp
          with_reducible rfl
        rotate_left
        · simp only [Act.put, List.setIfInBounds_toArray, List.set_cons_zero, List.set_cons_succ, i64_w, i32_w]
          rfl
        refine pure_ (i := 5) (N := (some 51)) (v := ?_) (a' := ?_) #[false, true, false, false, true, true, false, false, false, false, false, false] rfl rfl (any_of HT_.out (by kernel_rfl)) (fun _ _ _ h => h) (Or.inl ⟨by rfl, ?_⟩) ?_ ?_
        rotate_left
        · intro w'
          go_simp
          with_reducible rfl
        rotate_left
        · simp only [Act.put, List.setIfInBounds_toArray, List.set_cons_zero, List.set_cons_succ, i64_w, i32_w]
          rfl
        refine pure_ (i := 6) (N := (some 52)) (v := ?_) (a' := ?_) #[false, true, false, false, true, true, true, false, false, false, false, false] rfl rfl (any_of HT_.out (by kernel_rfl)) (fun _ _ _ h => h) (Or.inl ⟨by rfl, ?_⟩) ?_ ?_
        rotate_left
        · intro w'
          go_simp
          with_reducible rfl
        rotate_left
        · simp only [Act.put, List.setIfInBounds_toArray, List.set_cons_zero, List.set_cons_succ, i64_w, i32_w]
          rfl
        refine take_ (i := 2) (N := (some 48)) (v := ?_) (a' := ?_) #[false, true, true, false, true, true, true, false, false, false, false, false] rfl rfl (take_ofW HT_.out HW_.out (by kernel_rfl)) (fun _ _ _ h => h) (Or.inl ⟨by rfl, ?_⟩) hHeld ?_ ?_
        rotate_left
        · rintro w' ⟨s0, s1⟩
          go_simp
          with_reducible rfl
        rotate_left
        · simp only [Act.put, List.setIfInBounds_toArray, List.set_cons_zero, List.set_cons_succ, i64_w, i32_w]
          rfl
        refine take_ (i := 7) (N := (some 53)) (v := ?_) (a' := ?_) #[false, true, true, false, true, true, true, true, false, false, false, false] rfl rfl (take_ofW HT_.out HW_.out (by kernel_rfl)) (fun _ _ _ h => h) (Or.inl ⟨by rfl, ?_⟩) hHeld ?_ ?_
        rotate_left
        · rintro w' ⟨s0, s1⟩
          go_simp
          with_reducible rfl
        rotate_left
        · simp only [Act.put, List.setIfInBounds_toArray, List.set_cons_zero, List.set_cons_succ, i64_w, i32_w]
          rfl
        refine join_ (σ := Value × Value × Value × Option Addr × Nat) 3 #[true, true, true, true, true, true, true, true, true, false, false, false] (fun s => [(46, s.1), (49, s.2.1), (54, s.2.2.1)]) (fun s w' => Aside0 (Kd.R Kd.string 9 w' w5.heap.size (fun _ => True) s.2.1 ([] ++ ns)) ∧ Aside0 (s.2.2.1 = .slice s.2.2.2.1 [x].length s.2.2.2.2) ∧ Aside0 (Kd.C Kd.string w' s.2.2.2.1 [x].length [x]) ∧ Aside0 (Below w5.heap.size w5 w')) ?_ (fun hJ => ?_)
        rotate_left
        refine two_ (i := 0) (j := 8) (Ni := (some 46)) (Nj := (some 54)) (ds := [11]) #[true, true, true, false, true, true, true, true, false, false, false, false] #[false, true, true, false, true, true, true, true, true, false, false, false] rfl rfl rfl rfl (two_of HT_.out (by kernel_rfl)) (by decide) (by decide) (fun K hK => ?_) (fun K hK => ?_)
        · refine Kd.R_lit_step Kd.string (w0 := w5) w5.heap.size 9 ?hg (N := 46) ?hd (xs := ([] : List ByteArray)) (inner := []) (ok := fun _ => True) (okp := fun _ => True) ?hr ?hp (fun _ hk => hk) trivial HB.out (below_size HB.out) (by simp) ?_; (case hd => rfl); (case hg => rfl); (case hr => first | (go_simp; done) | (go_simp; rfl)); (case hp => exact (Reps.none _ _))
          intro v46 w6 ho hb hg hnew
          clear HB
          have HB := Aside0.mk hb
          have HO := Aside0.mk ho
          clear ho hb hg hnew
          refine hK.out _ _ ⟨(blk_cell (blk_below BK.out HB.out) 2).trans rfl, pw_cell_below HB.out HX.out⟩ (fun hHeld => ?_)
          clear hK K
          refine norm_ (a' := ?_) ?_ ?_
          rotate_left
          · show Act.put _ (some 46) _ = _
            simp only [Act.put, List.setIfInBounds_toArray, List.set_cons_zero, List.set_cons_succ, i64_w, i32_w]
            rfl
          refine two_ (i := 3) (j := 8) (Ni := (some 49)) (Nj := (some 54)) (ds := [11]) #[true, true, true, true, true, true, true, true, false, false, false, false] #[true, true, true, false, true, true, true, true, true, false, false, false] rfl rfl rfl rfl (two_of HT_.out (by kernel_rfl)) (by decide) (by decide) (fun K hK => ?_) (fun K hK => ?_)
          · refine Kd.R_append_rows_step Kd.string (w0 := w5) w5.heap.size (by rfl) (.tmp 46) (.tmp 48) 35 9 (.string ⟨#[]⟩) 16 rfl Tryf.underlying35 info9 rfl (by decide) (by omega) v46 [] ns _ _ _ (fun _ => True) (fun _ => False) rfl rfl HO.out (Kd.C_below HC.out HB.out) (fun _ _ h => h) (fun _ h => h.elim) (fun _ _ => trivial) HB.out (below_size HB.out) ?aL ?_
            case aL => simp only [List.length_nil]; omega
            intro v49 w7 ho hb hg hat
            clear HB
            have HB := Aside0.mk hb
            clear HO
            have HO := Aside0.mk ho
            clear ho hb hg hat
            refine hK.out _ _ ⟨(blk_cell (blk_below BK.out HB.out) 2).trans rfl, pw_cell_below HB.out HX.out⟩ (fun hHeld => ?_)
            clear hK K
            refine norm_ (a' := ?_) ?_ ?_
            rotate_left
            · show Act.put _ (some 49) _ = _
              simp only [Act.put, List.setIfInBounds_toArray, List.set_cons_zero, List.set_cons_succ, i64_w, i32_w]
              rfl
            refine one_ (i := 8) (N := (some 54)) #[true, true, true, true, true, true, true, true, true, false, false, false] rfl rfl (one_of HT_.out (by kernel_rfl)) (by decide) (fun K hK => ?_)
            refine Kd.R_lit_step Kd.string (w0 := w5) w5.heap.size 9 ?hg (N := 54) ?hd (xs := [x]) (inner := [.string x]) (ok := fun _ => True) (okp := fun _ => True) ?hr ?hp (fun _ hk => hk) trivial HB.out (below_size HB.out) (by simp) ?_; (case hd => rfl); (case hg => rfl); (case hr => first | (go_simp; done) | (go_simp; rfl)); (case hp => exact (Reps.snoc (Reps.none _ _) rfl rfl))
            intro v54 w8 ho hb hg hnew
            have H54 := Aside0.mk ho
            have n5_ := Aside0.mk (Kd.R_grown HO.out hg (fun _ _ => by simp))
            clear HO
            have HO := n5_
            clear n5_
            clear HB
            have HB := Aside0.mk hb
            clear ho hb hg hnew
            refine hK.out _ _ ⟨(blk_cell (blk_below BK.out HB.out) 2).trans rfl, pw_cell_below HB.out HX.out⟩ (fun hHeld => ?_)
            clear hK K
            refine norm_ (a' := ?_) ?_ ?_
            rotate_left
            · show Act.put _ (some 54) _ = _
              simp only [Act.put, List.setIfInBounds_toArray, List.set_cons_zero, List.set_cons_succ, i64_w, i32_w]
              rfl
            obtain ⟨A54, c54, e54, l54, C54⟩ := Kd.R_reads H54.out
            have := hJ (v46, v49, v54, A54, c54) _ ⟨HO, ⟨e54⟩, ⟨C54⟩, HB⟩
            exact this
          · refine Kd.R_lit_step Kd.string (w0 := w5) w5.heap.size 9 ?hg (N := 54) ?hd (xs := [x]) (inner := [.string x]) (ok := fun q => some q ≠ v46.ownBlock) (okp := fun q => some q ≠ v46.ownBlock) ?hr ?hp (fun _ hk => hk) (fun he => by have := Kd.R_lt HO.out _ he.symm; omega) HB.out (below_size HB.out) (by simp) ?_; (case hd => rfl); (case hg => rfl); (case hr => first | (go_simp; done) | (go_simp; rfl)); (case hp => exact (Reps.snoc (Reps.none _ _) rfl rfl))
            intro v54 w8 ho hb hg hnew
            have H54 := Aside0.mk ho
            have n5_ := Aside0.mk (Kd.R_grown HO.out hg (fun _ _ => by simp))
            clear HO
            have HO := n5_
            clear n5_
            clear HB
            have HB := Aside0.mk hb
            clear ho hb hg hnew
            refine hK.out _ _ ⟨(blk_cell (blk_below BK.out HB.out) 2).trans rfl, pw_cell_below HB.out HX.out⟩ (fun hHeld => ?_)
            clear hK K
            refine norm_ (a' := ?_) ?_ ?_
            rotate_left
            · show Act.put _ (some 54) _ = _
              simp only [Act.put, List.setIfInBounds_toArray, List.set_cons_zero, List.set_cons_succ, i64_w, i32_w]
              rfl
            refine one_ (i := 3) (N := (some 49)) #[true, true, true, true, true, true, true, true, true, false, false, false] rfl rfl (one_of HT_.out (by kernel_rfl)) (by decide) (fun K hK => ?_)
            refine Kd.R_append_rows_step Kd.string (w0 := w5) w5.heap.size (by rfl) (.tmp 46) (.tmp 48) 35 9 (.string ⟨#[]⟩) 16 rfl Tryf.underlying35 info9 rfl (by decide) (by omega) v46 [] ns _ _ _ (fun _ => True) (fun _ => False) rfl rfl HO.out (Kd.C_below HC.out HB.out) (fun _ _ h => h) (fun _ h => h.elim) (fun _ _ => trivial) HB.out (below_size HB.out) ?aL ?_
            case aL => simp only [List.length_nil]; omega
            intro v49 w7 ho hb hg hat
            have n4_ : Aside0 (Kd.R Kd.string 9 w7 w5.heap.size (fun _ => True) v54 [x]) := ⟨Kd.R_mono (Kd.R_grown H54.out hg (fun _ hk => hk)) (fun _ _ => trivial)⟩
            clear H54
            have H54 := n4_
            clear n4_
            clear HB
            have HB := Aside0.mk hb
            clear HO
            have HO := Aside0.mk ho
            clear ho hb hg hat
            refine hK.out _ _ ⟨(blk_cell (blk_below BK.out HB.out) 2).trans rfl, pw_cell_below HB.out HX.out⟩ (fun hHeld => ?_)
            clear hK K
            refine norm_ (a' := ?_) ?_ ?_
            rotate_left
            · show Act.put _ (some 49) _ = _
              simp only [Act.put, List.setIfInBounds_toArray, List.set_cons_zero, List.set_cons_succ, i64_w, i32_w]
              rfl
            obtain ⟨A54, c54, e54, l54, C54⟩ := Kd.R_reads H54.out
            have := hJ (v46, v49, v54, A54, c54) _ ⟨HO, ⟨e54⟩, ⟨C54⟩, HB⟩
            exact this
        · refine Kd.R_lit_step Kd.string (w0 := w5) w5.heap.size 9 ?hg (N := 54) ?hd (xs := [x]) (inner := [.string x]) (ok := fun _ => True) (okp := fun _ => True) ?hr ?hp (fun _ hk => hk) trivial HB.out (below_size HB.out) (by simp) ?_; (case hd => rfl); (case hg => rfl); (case hr => first | (go_simp; done) | (go_simp; rfl)); (case hp => exact (Reps.snoc (Reps.none _ _) rfl rfl))
          intro v54 w8 ho hb hg hnew
          have H54 := Aside0.mk ho
          clear HB
          have HB := Aside0.mk hb
          clear ho hb hg hnew
          refine hK.out _ _ ⟨(blk_cell (blk_below BK.out HB.out) 2).trans rfl, pw_cell_below HB.out HX.out⟩ (fun hHeld => ?_)
          clear hK K
          refine norm_ (a' := ?_) ?_ ?_
          rotate_left
          · show Act.put _ (some 54) _ = _
            simp only [Act.put, List.setIfInBounds_toArray, List.set_cons_zero, List.set_cons_succ, i64_w, i32_w]
            rfl
          refine one_ (i := 0) (N := (some 46)) #[true, true, true, false, true, true, true, true, true, false, false, false] rfl rfl (one_of HT_.out (by kernel_rfl)) (by decide) (fun K hK => ?_)
          refine Kd.R_lit_step Kd.string (w0 := w5) w5.heap.size 9 ?hg (N := 46) ?hd (xs := ([] : List ByteArray)) (inner := []) (ok := fun _ => True) (okp := fun _ => True) ?hr ?hp (fun _ hk => hk) trivial HB.out (below_size HB.out) (by simp) ?_; (case hd => rfl); (case hg => rfl); (case hr => first | (go_simp; done) | (go_simp; rfl)); (case hp => exact (Reps.none _ _))
          intro v46 w6 ho hb hg hnew
          have n4_ : Aside0 (Kd.R Kd.string 9 w6 w5.heap.size (fun q => some q ≠ v46.ownBlock) v54 [x]) := ⟨Kd.R_mono (Kd.R_grown (Kd.R_bound H54.out) hg (fun _ _ => by simp)) (fun q hq he => by obtain ⟨b', h1, h2⟩ := hnew; rw [h1] at he; have := Option.some.inj he; have := hq.2.2.1; omega)⟩
          clear H54
          have H54 := n4_
          clear n4_
          clear HB
          have HB := Aside0.mk hb
          have HO := Aside0.mk ho
          clear ho hb hg hnew
          refine hK.out _ _ ⟨(blk_cell (blk_below BK.out HB.out) 2).trans rfl, pw_cell_below HB.out HX.out⟩ (fun hHeld => ?_)
          clear hK K
          refine norm_ (a' := ?_) ?_ ?_
          rotate_left
          · show Act.put _ (some 46) _ = _
            simp only [Act.put, List.setIfInBounds_toArray, List.set_cons_zero, List.set_cons_succ, i64_w, i32_w]
            rfl
          refine one_ (i := 3) (N := (some 49)) #[true, true, true, true, true, true, true, true, true, false, false, false] rfl rfl (one_of HT_.out (by kernel_rfl)) (by decide) (fun K hK => ?_)
          refine Kd.R_append_rows_step Kd.string (w0 := w5) w5.heap.size (by rfl) (.tmp 46) (.tmp 48) 35 9 (.string ⟨#[]⟩) 16 rfl Tryf.underlying35 info9 rfl (by decide) (by omega) v46 [] ns _ _ _ (fun _ => True) (fun _ => False) rfl rfl HO.out (Kd.C_below HC.out HB.out) (fun _ _ h => h) (fun _ h => h.elim) (fun _ _ => trivial) HB.out (below_size HB.out) ?aL ?_
          case aL => simp only [List.length_nil]; omega
          intro v49 w7 ho hb hg hat
          have n4_ : Aside0 (Kd.R Kd.string 9 w7 w5.heap.size (fun _ => True) v54 [x]) := ⟨Kd.R_mono (Kd.R_grown H54.out hg (fun _ hk => hk)) (fun _ _ => trivial)⟩
          clear H54
          have H54 := n4_
          clear n4_
          clear HB
          have HB := Aside0.mk hb
          clear HO
          have HO := Aside0.mk ho
          clear ho hb hg hat
          refine hK.out _ _ ⟨(blk_cell (blk_below BK.out HB.out) 2).trans rfl, pw_cell_below HB.out HX.out⟩ (fun hHeld => ?_)
          clear hK K
          refine norm_ (a' := ?_) ?_ ?_
          rotate_left
          · show Act.put _ (some 49) _ = _
            simp only [Act.put, List.setIfInBounds_toArray, List.set_cons_zero, List.set_cons_succ, i64_w, i32_w]
            rfl
          obtain ⟨A54, c54, e54, l54, C54⟩ := Kd.R_reads H54.out
          have := hJ (v46, v49, v54, A54, c54) _ ⟨HO, ⟨e54⟩, ⟨C54⟩, HB⟩
          exact this
        rintro ⟨v46, v49, v54, A54, c54⟩ w9 ⟨HO_, h54_, C54_, HB_⟩
        clear HB
        have HO : Aside0 (Kd.R Kd.string 9 w9 w5.heap.size (fun _ => True) v49 ([] ++ ns)) := HO_
        obtain rfl : v54 = .slice A54 [x].length c54 := h54_.out
        have C54 : Aside0 (Kd.C Kd.string w9 A54 [x].length [x]) := C54_
        have HB : Aside0 (Below w5.heap.size w5 w9) := HB_
        clear HO_ h54_ C54_ HB_
        refine norm_ (a' := ?_) ?_ ?_
        rotate_left
        · simp only [Go.Proofs.YtnkmpinlijfocaaFmtW.PrintLast.putAll, Act.put, List.setIfInBounds_toArray, List.set_cons_zero, List.set_cons_succ, i64_w, i32_w]
          rfl
        refine one_ (i := 9) (N := (some 55)) #[true, true, true, true, true, true, true, true, true, true, false, false] rfl rfl (one_of HT_.out (by kernel_rfl)) (by decide) (fun K hK => ?_)
        refine Kd.R_append_rows_step Kd.string (w0 := w5) w5.heap.size (by rfl) (.tmp 49) (.tmp 54) 35 9 (.string ⟨#[]⟩) 16 rfl Tryf.underlying35 info9 rfl (by decide) (by omega) v49 ([] ++ ns) [x] _ _ _ (fun _ => True) (fun _ => False) rfl rfl HO.out (C54.out) (fun _ _ h => h) (fun _ h => h.elim) (fun _ _ => trivial) HB.out (below_size HB.out) ?aL ?_
        case aL => simp only [List.nil_append, List.length_cons, List.length_nil]; omega
        intro v55 w7 ho hb hg hat
        clear HB
        have HB := Aside0.mk hb
        clear HO C54
        obtain ⟨A55, c55, e55, l55, C55⟩ := Kd.R_reads ho
        obtain rfl : v55 = .slice A55 (ns ++ [x]).length c55 := e55
        have HO : Aside0 (Kd.R Kd.string 9 w7 w5.heap.size (fun _ => True) (.slice A55 (ns ++ [x]).length c55) (ns ++ [x])) := Aside0.mk ho
        have HZ := Aside0.mk l55
        clear ho hb hg hat l55 C55
        refine hK.out _ _ ⟨(blk_cell (blk_below BK.out HB.out) 2).trans rfl, pw_cell_below HB.out HX.out⟩ (fun hHeld => ?_)
        clear hK K
        refine norm_ (a' := ?_) ?_ ?_
        rotate_left
        · show Act.put _ (some 55) _ = _
          simp only [Act.put, List.setIfInBounds_toArray, List.set_cons_zero, List.set_cons_succ, i64_w, i32_w]
          rfl
        refine pure_ (i := 10) (N := (some 56)) (v := ?_) (a' := ?_) #[true, true, true, true, true, true, true, true, true, true, true, false] rfl rfl (any_of HT_.out (by kernel_rfl)) (fun _ _ _ h => h) (Or.inl ⟨by rfl, ?_⟩) ?_ ?_
        rotate_left
        · intro w'
          go_simp
          with_reducible rfl
        rotate_left
        · simp only [Act.put, List.setIfInBounds_toArray, List.set_cons_zero, List.set_cons_succ, i64_w, i32_w]
          rfl
        refine last_ (i := 11) (N := none) #[true, true, true, true, true, true, true, true, true, true, true, true] rfl rfl (one_of HT_.out (by kernel_rfl)) (by decide) (fun K hK => ?_)
        have f0 := (blk_cell (blk_below BK.out HB.out) 2).trans rfl
        have f1 := blk_frozen (blk_below BK.out HB.out) 2
        refine skip_ (by rfl) rfl (w1 := w7.setCell ⟨fB, 2, none⟩ (.slice A55 (ns ++ [x]).length c55)) ?hrun ?_; (case hrun => first | (go_simp; done) | (go_simp; rfl))
        refine hK.out _ _ ?_
        clear hK K
        refine done_ (done_of HT_.out (by kernel_rfl)) ?_
        go_wp2
        go_roundg (xs.length - (k + 1))
        case measure => omega
        case rel =>
          have hb5 := blk_below BK.out HB.out
          refine ⟨k + 1, _, ns ++ [x], A55, c55, hlt, by omega, by go_num, ⟨⟨ErAt.set_ hb5 2 _ (H3.out.below HB.out), HK5.out.1, ?_, ?_, ?_, ?_, ?_⟩⟩⟩
          · have := blk_set hb5 2 (.slice A55 (ns.length + 1) c55)
            rw [show (ns ++ [x]).length = ns.length + 1 from by simp]
            exact this
          · exact blk_far (p := ⟨fB, 2, none⟩) (blk_below HM5.out.1 HB.out) (Ne.symm hfr) _
          · exact Kd.R_lower (Kd.R_set HO.out hb5 (by decide) 2 (.slice A55 (ns.length + 1) c55)) HK5.out.2.2
          · have := HK5.out.2.1
            rw [List.length_append]
            exact Nat.succ_le_succ this
          · exact (HM5.out.2.trans (HB.out.mono HM5.out.2.size)).setCell (p := ⟨fB, 2, none⟩) hfb _
    · have hkk : k = xs.length := by omega
      subst hkk
      go_wp2
      have hm := HM.out
      have BK := Aside0.mk (blk_drew hm.f)
      have BR := Aside0.mk (blk_drew hm.res)
      have HE := Aside0.mk (hm.err.below (below_drew (Below.refl _ _)))
      have HN2 := Aside0.mk (Kd.R_drew hm.names)
      have HB := Aside0.mk (below_drew hm.below)
      have HMM := Aside0.mk hm.made
      have HLN := Aside0.mk hm.len
      clear hm HM
      refine start_ (n := 4) (S := fun w' => w'.cell? ⟨fB, 0, none⟩ = some (.int .i64 e) ∧ w'.cell? ⟨fB, 1, none⟩ = some (.int .i64 a) ∧ w'.cell? ⟨fB, 2, none⟩ = some (.slice A2 ns.length c2) ∧ w'.cell? ⟨fB, 3, none⟩ = some (.bool true)) (ds := [3]) #[false, false, false, false] (by kernel_rfl) rfl rfl ⟨(blk_cell BK.out 0).trans rfl, (blk_cell BK.out 1).trans rfl, (blk_cell BK.out 2).trans rfl, (blk_cell BK.out 3).trans rfl⟩ (fun hHeld => ?_)
      refine with_tabW made2Tab made2Bits (fun HT_ HW_ => ?_)
      generalize World.drew _ = w5 at BK BR HE HN2 HB hHeld ⊢
      refine pure_ (i := 0) (N := (some 57)) (v := ?_) (a' := ?_) #[true, false, false, false] rfl rfl (any_of HT_.out (by kernel_rfl)) (fun _ _ _ h => h) (Or.inl ⟨by rfl, ?_⟩) ?_ ?_
      rotate_left
      · intro w'
        go_simp
        with_reducible rfl
      rotate_left
      · simp only [Act.put, List.setIfInBounds_toArray, List.set_cons_zero, List.set_cons_succ, i64_w, i32_w]
        rfl
      refine take_ (i := 1) (N := (some 58)) (v := ?_) (a' := ?_) #[true, true, false, false] rfl rfl (take_ofW HT_.out HW_.out (by kernel_rfl)) (fun _ _ _ h => h) (Or.inl ⟨by rfl, ?_⟩) hHeld ?_ ?_
      rotate_left
      · rintro w' ⟨s0, s1, s2, s3⟩
        go_simp
        with_reducible rfl
      rotate_left
      · simp only [Act.put, List.setIfInBounds_toArray, List.set_cons_zero, List.set_cons_succ, i64_w, i32_w]
        rfl
      refine pure_ (i := 2) (N := (some 8)) (v := ?_) (a' := ?_) #[true, true, true, false] rfl rfl (any_of HT_.out (by kernel_rfl)) (fun _ _ _ h => h) (Or.inl ⟨by rfl, ?_⟩) ?_ ?_
      rotate_left
      · intro w'
        go_simp
        with_reducible rfl
      rotate_left
      · simp only [Act.put, List.setIfInBounds_toArray, List.set_cons_zero, List.set_cons_succ, i64_w, i32_w]
        rfl
      refine last_ (i := 3) (N := none) #[true, true, true, true] rfl rfl (one_of HT_.out (by kernel_rfl)) (by decide) (fun K hK => ?_)
      have f0 := blk_frozen BR.out 0
      have f1 := blk_frozen BR.out 1
      have f2 := blk_frozen BR.out 2
      have f3 := blk_frozen BR.out 3
      refine skip_ (by rfl) rfl (w1 := (((w5.setCell ⟨w.heap.size, 0, none⟩ (.int .i64 e)).setCell ⟨w.heap.size, 1, none⟩ (.int .i64 a)).setCell ⟨w.heap.size, 2, none⟩ (.slice A2 ns.length c2)).setCell ⟨w.heap.size, 3, none⟩ (.bool true)) ?hrun ?_; (case hrun => have g0 := (blk_cell BR.out 0).trans rfl; have g1 := (blk_cell BR.out 1).trans rfl; have g2 := (blk_cell BR.out 2).trans rfl; have g3 := (blk_cell BR.out 3).trans rfl; first | (go_simp; done) | (go_simp; rfl))
      refine hK.out _ _ ?_
      clear hK K
      refine done_ (done_of HT_.out (by kernel_rfl)) ?_
      go_wp2
      have b1 := blk_set BR.out 0 (.int .i64 e)
      have b2 := blk_set b1 1 (.int .i64 a)
      have b3 := blk_set b2 2 (.slice A2 ns.length c2)
      have b4 := blk_set b3 3 (.bool true)
      have hr := Kd.R_set (Kd.R_set (Kd.R_set (Kd.R_set HN2.out BR.out (by decide) 0 (.int .i64 e)) b1 (by decide) 1 (.int .i64 a)) b2 (by decide) 2 (.slice A2 ns.length c2)) b3 (by decide) 3 (.bool true)
      obtain ⟨_, hcap, hC⟩ := Kd.R_reads' hr
      refine bodyPost_ret (results_tc (fn := Tryf.f14) rfl _ _ w.heap.size 37 _ (0, 0) _ rfl b4 Tryf.underlying37 rfl (by kernel_rfl)) rfl ⟨_, E, A2, c2, ns, rfl, ErAt.set_ b3 3 _ (ErAt.set_ b2 2 _ (ErAt.set_ b1 1 _ (ErAt.set_ BR.out 0 _ HE.out))), ⟨HMM.out.pl, HMM.out.nm, HMM.out.small, Nat.le_trans HMM.out.size (by omega)⟩, hC, hcap, ?_, by have := HLN.out; omega⟩
      exact (((HB.out.setCell (p := ⟨w.heap.size, 0, none⟩) (Nat.le_refl _) _).setCell (p := ⟨w.heap.size, 1, none⟩) (Nat.le_refl _) _).setCell (p := ⟨w.heap.size, 2, none⟩) (Nat.le_refl _) _).setCell (p := ⟨w.heap.size, 3, none⟩) (Nat.le_refl _) _
set_option maxHeartbeats 8000000 in
set_option maxRecDepth 100000 in
theorem law02_made_false (F : Interp) {w : World} (hF : F.told.answers w.tape) {e a : Int} (hne : e ≠ 0) {A : Option Addr} {c : Nat} {xs : List ByteArray} (hx : Kd.C Kd.string w A xs.length xs) (hl : xs.length ≤ 30) (hs : ∀ s ∈ xs, s.size ≤ 140737488351232) :
    Calls Tryf.prog 14 #[.int .i64 e, .int .i64 a, .bool false, .slice A xs.length c] w fun ev w' => ∃ v E A2 c2 ns, ev = .returned (.tuple #[v, .agg #[.int .i64 e, .int .i64 a, .slice A2 ns.length c2, .bool false]]) ∧ ErAt w' v E ∧ Made E e a false ns 8444249301319780 ∧ Kd.C Kd.string w' A2 ns.length ns ∧ ns.length ≤ c2 ∧ Below w.heap.size w w' ∧ ns.length ≤ 100 := by
  have HF := Aside0.mk hF
  have HXS := Aside0.mk hx
  have HS := Aside0.mk hs
  have HN := Aside0.mk hne
  clear hF hx hs hne
  go_enter Tryf.func14, Tryf.ntmps14
  go_wp2_with (go_at_call 5; refine (fault_New a HN.out _).mono ?_; rintro ev w1 ⟨v1, rfl, h1, hb1⟩; have HM := Aside0.mk (made_at hb1 h1 (e := e) (a := a) ⟨rfl, rfl, trivial, by show 15 ≤ _; omega⟩); clear h1 hb1)
  obtain ⟨fB, hfB⟩ : ∃ x, x = w.heap.size + 1 := ⟨_, rfl⟩
  rw [← hfB] at HM ⊢
  have hfb : w.heap.size ≤ fB := by omega
  have hfr : fB ≠ w.heap.size := by omega
  clear hfB
  go_loopg [11, 12] xs.length (fun gg v11 v12 wr => ∃ (k : Nat) (E : Er) (ns : List ByteArray) (A2 : Option Addr) (c2 : Nat), k ≤ xs.length ∧ xs.length - k ≤ gg ∧ v12 = .int .i64 k ∧ Aside0 (MadeAt w wr fB w.heap.size v11 e a false k E ns A2 c2))
  case atStart => exact ⟨0, _, _, _, _, by omega, by omega, rfl, HM⟩
  case round =>
    clear HM
    obtain ⟨k, E, ns, A2, c2, hk, hgg, rfl, HM⟩ := hrel
    obtain ⟨ty, eb, rfl⟩ := erAt_iface HM.out.err
    by_cases hlt : k < xs.length
    · obtain ⟨ad, rfl, hcx⟩ := at_str HXS.out k hlt
      obtain ⟨x, hx⟩ : ∃ x, xs.getD k default = x := ⟨_, rfl⟩
      rw [hx] at hcx
      have HXZ : Aside0 (x.size ≤ 140737488351232) := ⟨by rw [← hx]; exact HS.out _ (getD_mem hlt)⟩
      have HX := Aside0.mk hcx
      have hlen := HM.out.len
      clear hx hcx
      have hcw := pw_cell_below HM.out.below HX.out
      by_cases hsp : x = ⟨#[32]⟩
      · subst hsp
        go_wp2_with (go_at_call 8; refine (errorf_more_any F.told (E := E) (answers_below HF.out (below_alloc HM.out.below _)) (HM.out.err.below (below_alloc (Below.refl _ _) _)) HM.out.made.small (by simp)).mono ?_; rintro ev w2 ⟨v2, rfl, h2, hb2⟩; have H2 := Aside0.mk h2; have HB2 := Aside0.mk (below_new hb2); clear h2 hb2 hcw)
        go_roundg (xs.length - (k + 1))
        case measure => omega
        case rel =>
          have hm := HM.out
          refine ⟨k + 1, _, ns, A2, c2, hlt, by omega, by go_num, ⟨⟨H2.out, ?_, blk_below hm.f HB2.out, blk_below hm.res HB2.out, Kd.R_below hm.names HB2.out, Nat.le_succ_of_le hm.len, hm.below.trans (HB2.out.mono hm.below.size)⟩⟩⟩
          rw [show 100 + (k + 1) * 281474976710656 = 100 + k * 281474976710656 + 281474976710656 from by omega]
          exact made_text F hm.made (by omega)
      · have hne2 := str_ne hsp
        rw [show (ByteArray.mk #[32]).toList = [32] from by rw [ByteArray.toList_eq]] at hne2
        clear hsp
        go_wp2_with (go_at_call 6; refine (fault_In x HM.out.err).mono ?_; rintro ev w3 ⟨v3, rfl, h3, hb3⟩; have H3 := Aside0.mk h3; have HB3 := Aside0.mk hb3; clear h3 hb3 hcw)
        have hm := HM.out
        obtain ⟨wr, hwr⟩ : ∃ W, W = w3 := ⟨_, rfl⟩
        rw [← hwr] at H3 HB3 ⊢
        clear hwr
        have hwd : Below wr.heap.size wr wr.drew := below_drew (Below.refl _ _)
        have BK := Aside0.mk (blk_below (blk_below hm.f HB3.out) hwd)
        have HC := Aside0.mk (Kd.C_below (Kd.C_below (Kd.R_reads' hm.names).2.2 HB3.out) hwd)
        have hbx := HB3.out.trans (hwd.mono HB3.out.size)
        have HX5 := Aside0.mk (pw_cell_below (hm.below.trans (hbx.mono hm.below.size)) HX.out)
        have H35 := Aside0.mk (H3.out.below hwd)
        have HM5 : Aside0 (wr.drew.heap[w.heap.size]? = some (.cells #[.int .i64 0, .int .i64 0, .slice none 0 0, .bool false] 37 (0, 0)) ∧ Below w.heap.size w wr.drew) := ⟨blk_below hm.res hbx, hm.below.trans (hbx.mono hm.below.size)⟩
        have HK5 : Aside0 (Made (.named x E) e a false (ns ++ [x]) (100 + (k + 1) * 281474976710656) ∧ ns.length ≤ k ∧ w.heap.size ≤ wr.drew.heap.size) := ⟨by rw [show 100 + (k + 1) * 281474976710656 = 100 + k * 281474976710656 + 281474976710656 from by omega]; exact made_named hm.made HXZ.out (by omega), hm.len, (hm.below.trans (hbx.mono hm.below.size)).size⟩
        have HB := Aside0.mk (Below.refl wr.drew.heap.size wr.drew)
        clear hm hwd hbx HX H3 HB3 HM
        have HX := HX5
        have H3 := H35
        clear HX5 H35
        refine start_ (n := 12) (S := fun w' => w'.cell? ⟨fB, 2, none⟩ = some (.slice A2 ns.length c2) ∧ w'.cell? (ad.add k) = some (.string x)) (ds := [11]) #[false, false, false, false, false, false, false, false, false, false, false, false] (by kernel_rfl) rfl rfl ⟨(blk_cell (blk_below BK.out HB.out) 2).trans rfl, pw_cell_below HB.out HX.out⟩ (fun hHeld => ?_)
        refine with_tabW madeTab madeBits (fun HT_ HW_ => ?_)
        generalize wr.drew = w5 at BK HB HX HC H3 HM5 HK5 hHeld ⊢
        refine pure_ (i := 1) (N := (some 47)) (v := ?_) (a' := ?_) #[false, true, false, false, false, false, false, false, false, false, false, false] rfl rfl (any_of HT_.out (by kernel_rfl)) (fun _ _ _ h => h) (Or.inl ⟨by rfl, ?_⟩) ?_ ?_
        rotate_left
        · intro w'
          go_simp
          with_reducible rfl
        rotate_left
        · simp only [Act.put, List.setIfInBounds_toArray, List.set_cons_zero, List.set_cons_succ, i64_w, i32_w]
          rfl
        refine pure_ (i := 4) (N := (some 50)) (v := ?_) (a' := ?_) #[false, true, false, false, true, false, false, false, false, false, false, false] rfl rfl (any_of HT_.out (by kernel_rfl)) (fun _ _ _ h => h) (Or.inl ⟨by rfl, ?_⟩) ?_ ?_
        rotate_left
        · intro w'
          go_simp
          with_reducible rfl
        rotate_left
        · simp only [Act.put, List.setIfInBounds_toArray, List.set_cons_zero, List.set_cons_succ, i64_w, i32_w]
          rfl
        refine pure_ (i := 5) (N := (some 51)) (v := ?_) (a' := ?_) #[false, true, false, false, true, true, false, false, false, false, false, false] rfl rfl (any_of HT_.out (by kernel_rfl)) (fun _ _ _ h => h) (Or.inl ⟨by rfl, ?_⟩) ?_ ?_
        rotate_left
        · intro w'
          go_simp
          with_reducible rfl
        rotate_left
        · simp only [Act.put, List.setIfInBounds_toArray, List.set_cons_zero, List.set_cons_succ, i64_w, i32_w]
          rfl
        refine pure_ (i := 6) (N := (some 52)) (v := ?_) (a' := ?_) #[false, true, false, false, true, true, true, false, false, false, false, false] rfl rfl (any_of HT_.out (by kernel_rfl)) (fun _ _ _ h => h) (Or.inl ⟨by rfl, ?_⟩) ?_ ?_
        rotate_left
        · intro w'
          go_simp
          with_reducible rfl
        rotate_left
        · simp only [Act.put, List.setIfInBounds_toArray, List.set_cons_zero, List.set_cons_succ, i64_w, i32_w]
          rfl
        refine take_ (i := 2) (N := (some 48)) (v := ?_) (a' := ?_) #[false, true, true, false, true, true, true, false, false, false, false, false] rfl rfl (take_ofW HT_.out HW_.out (by kernel_rfl)) (fun _ _ _ h => h) (Or.inl ⟨by rfl, ?_⟩) hHeld ?_ ?_
        rotate_left
        · rintro w' ⟨s0, s1⟩
          go_simp
          with_reducible rfl
        rotate_left
        · simp only [Act.put, List.setIfInBounds_toArray, List.set_cons_zero, List.set_cons_succ, i64_w, i32_w]
          rfl
        refine take_ (i := 7) (N := (some 53)) (v := ?_) (a' := ?_) #[false, true, true, false, true, true, true, true, false, false, false, false] rfl rfl (take_ofW HT_.out HW_.out (by kernel_rfl)) (fun _ _ _ h => h) (Or.inl ⟨by rfl, ?_⟩) hHeld ?_ ?_
        rotate_left
        · rintro w' ⟨s0, s1⟩
          go_simp
          with_reducible rfl
        rotate_left
        · simp only [Act.put, List.setIfInBounds_toArray, List.set_cons_zero, List.set_cons_succ, i64_w, i32_w]
          rfl
        refine join_ (σ := Value × Value × Value × Option Addr × Nat) 3 #[true, true, true, true, true, true, true, true, true, false, false, false] (fun s => [(46, s.1), (49, s.2.1), (54, s.2.2.1)]) (fun s w' => Aside0 (Kd.R Kd.string 9 w' w5.heap.size (fun _ => True) s.2.1 ([] ++ ns)) ∧ Aside0 (s.2.2.1 = .slice s.2.2.2.1 [x].length s.2.2.2.2) ∧ Aside0 (Kd.C Kd.string w' s.2.2.2.1 [x].length [x]) ∧ Aside0 (Below w5.heap.size w5 w')) ?_ (fun hJ => ?_)
        rotate_left
        refine two_ (i := 0) (j := 8) (Ni := (some 46)) (Nj := (some 54)) (ds := [11]) #[true, true, true, false, true, true, true, true, false, false, false, false] #[false, true, true, false, true, true, true, true, true, false, false, false] rfl rfl rfl rfl (two_of HT_.out (by kernel_rfl)) (by decide) (by decide) (fun K hK => ?_) (fun K hK => ?_)
        · refine Kd.R_lit_step Kd.string (w0 := w5) w5.heap.size 9 ?hg (N := 46) ?hd (xs := ([] : List ByteArray)) (inner := []) (ok := fun _ => True) (okp := fun _ => True) ?hr ?hp (fun _ hk => hk) trivial HB.out (below_size HB.out) (by simp) ?_; (case hd => rfl); (case hg => rfl); (case hr => first | (go_simp; done) | (go_simp; rfl)); (case hp => exact (Reps.none _ _))
          intro v46 w6 ho hb hg hnew
          clear HB
          have HB := Aside0.mk hb
          have HO := Aside0.mk ho
          clear ho hb hg hnew
          refine hK.out _ _ ⟨(blk_cell (blk_below BK.out HB.out) 2).trans rfl, pw_cell_below HB.out HX.out⟩ (fun hHeld => ?_)
          clear hK K
          refine norm_ (a' := ?_) ?_ ?_
          rotate_left
          · show Act.put _ (some 46) _ = _
            simp only [Act.put, List.setIfInBounds_toArray, List.set_cons_zero, List.set_cons_succ, i64_w, i32_w]
            rfl
          refine two_ (i := 3) (j := 8) (Ni := (some 49)) (Nj := (some 54)) (ds := [11]) #[true, true, true, true, true, true, true, true, false, false, false, false] #[true, true, true, false, true, true, true, true, true, false, false, false] rfl rfl rfl rfl (two_of HT_.out (by kernel_rfl)) (by decide) (by decide) (fun K hK => ?_) (fun K hK => ?_)
          · refine Kd.R_append_rows_step Kd.string (w0 := w5) w5.heap.size (by rfl) (.tmp 46) (.tmp 48) 35 9 (.string ⟨#[]⟩) 16 rfl Tryf.underlying35 info9 rfl (by decide) (by omega) v46 [] ns _ _ _ (fun _ => True) (fun _ => False) rfl rfl HO.out (Kd.C_below HC.out HB.out) (fun _ _ h => h) (fun _ h => h.elim) (fun _ _ => trivial) HB.out (below_size HB.out) ?aL ?_
            case aL => simp only [List.length_nil]; omega
            intro v49 w7 ho hb hg hat
            clear HB
            have HB := Aside0.mk hb
            clear HO
            have HO := Aside0.mk ho
            clear ho hb hg hat
            refine hK.out _ _ ⟨(blk_cell (blk_below BK.out HB.out) 2).trans rfl, pw_cell_below HB.out HX.out⟩ (fun hHeld => ?_)
            clear hK K
            refine norm_ (a' := ?_) ?_ ?_
            rotate_left
            · show Act.put _ (some 49) _ = _
              simp only [Act.put, List.setIfInBounds_toArray, List.set_cons_zero, List.set_cons_succ, i64_w, i32_w]
              rfl
            refine one_ (i := 8) (N := (some 54)) #[true, true, true, true, true, true, true, true, true, false, false, false] rfl rfl (one_of HT_.out (by kernel_rfl)) (by decide) (fun K hK => ?_)
            refine Kd.R_lit_step Kd.string (w0 := w5) w5.heap.size 9 ?hg (N := 54) ?hd (xs := [x]) (inner := [.string x]) (ok := fun _ => True) (okp := fun _ => True) ?hr ?hp (fun _ hk => hk) trivial HB.out (below_size HB.out) (by simp) ?_; (case hd => rfl); (case hg => rfl); (case hr => first | (go_simp; done) | (go_simp; rfl)); (case hp => exact (Reps.snoc (Reps.none _ _) rfl rfl))
            intro v54 w8 ho hb hg hnew
            have H54 := Aside0.mk ho
            have n5_ := Aside0.mk (Kd.R_grown HO.out hg (fun _ _ => by simp))
            clear HO
            have HO := n5_
            clear n5_
            clear HB
            have HB := Aside0.mk hb
            clear ho hb hg hnew
            refine hK.out _ _ ⟨(blk_cell (blk_below BK.out HB.out) 2).trans rfl, pw_cell_below HB.out HX.out⟩ (fun hHeld => ?_)
            clear hK K
            refine norm_ (a' := ?_) ?_ ?_
            rotate_left
            · show Act.put _ (some 54) _ = _
              simp only [Act.put, List.setIfInBounds_toArray, List.set_cons_zero, List.set_cons_succ, i64_w, i32_w]
              rfl
            obtain ⟨A54, c54, e54, l54, C54⟩ := Kd.R_reads H54.out
            have := hJ (v46, v49, v54, A54, c54) _ ⟨HO, ⟨e54⟩, ⟨C54⟩, HB⟩
            exact this
          · refine Kd.R_lit_step Kd.string (w0 := w5) w5.heap.size 9 ?hg (N := 54) ?hd (xs := [x]) (inner := [.string x]) (ok := fun q => some q ≠ v46.ownBlock) (okp := fun q => some q ≠ v46.ownBlock) ?hr ?hp (fun _ hk => hk) (fun he => by have := Kd.R_lt HO.out _ he.symm; omega) HB.out (below_size HB.out) (by simp) ?_; (case hd => rfl); (case hg => rfl); (case hr => first | (go_simp; done) | (go_simp; rfl)); (case hp => exact (Reps.snoc (Reps.none _ _) rfl rfl))
            intro v54 w8 ho hb hg hnew
            have H54 := Aside0.mk ho
            have n5_ := Aside0.mk (Kd.R_grown HO.out hg (fun _ _ => by simp))
            clear HO
            have HO := n5_
            clear n5_
            clear HB
            have HB := Aside0.mk hb
            clear ho hb hg hnew
            refine hK.out _ _ ⟨(blk_cell (blk_below BK.out HB.out) 2).trans rfl, pw_cell_below HB.out HX.out⟩ (fun hHeld => ?_)
            clear hK K
            refine norm_ (a' := ?_) ?_ ?_
            rotate_left
            · show Act.put _ (some 54) _ = _
              simp only [Act.put, List.setIfInBounds_toArray, List.set_cons_zero, List.set_cons_succ, i64_w, i32_w]
              rfl
            refine one_ (i := 3) (N := (some 49)) #[true, true, true, true, true, true, true, true, true, false, false, false] rfl rfl (one_of HT_.out (by kernel_rfl)) (by decide) (fun K hK => ?_)
            refine Kd.R_append_rows_step Kd.string (w0 := w5) w5.heap.size (by rfl) (.tmp 46) (.tmp 48) 35 9 (.string ⟨#[]⟩) 16 rfl Tryf.underlying35 info9 rfl (by decide) (by omega) v46 [] ns _ _ _ (fun _ => True) (fun _ => False) rfl rfl HO.out (Kd.C_below HC.out HB.out) (fun _ _ h => h) (fun _ h => h.elim) (fun _ _ => trivial) HB.out (below_size HB.out) ?aL ?_
            case aL => simp only [List.length_nil]; omega
            intro v49 w7 ho hb hg hat
            have n4_ : Aside0 (Kd.R Kd.string 9 w7 w5.heap.size (fun _ => True) v54 [x]) := ⟨Kd.R_mono (Kd.R_grown H54.out hg (fun _ hk => hk)) (fun _ _ => trivial)⟩
            clear H54
            have H54 := n4_
            clear n4_
            clear HB
            have HB := Aside0.mk hb
            clear HO
            have HO := Aside0.mk ho
            clear ho hb hg hat
            refine hK.out _ _ ⟨(blk_cell (blk_below BK.out HB.out) 2).trans rfl, pw_cell_below HB.out HX.out⟩ (fun hHeld => ?_)
            clear hK K
            refine norm_ (a' := ?_) ?_ ?_
            rotate_left
            · show Act.put _ (some 49) _ = _
              simp only [Act.put, List.setIfInBounds_toArray, List.set_cons_zero, List.set_cons_succ, i64_w, i32_w]
              rfl
            obtain ⟨A54, c54, e54, l54, C54⟩ := Kd.R_reads H54.out
            have := hJ (v46, v49, v54, A54, c54) _ ⟨HO, ⟨e54⟩, ⟨C54⟩, HB⟩
            exact this
        · refine Kd.R_lit_step Kd.string (w0 := w5) w5.heap.size 9 ?hg (N := 54) ?hd (xs := [x]) (inner := [.string x]) (ok := fun _ => True) (okp := fun _ => True) ?hr ?hp (fun _ hk => hk) trivial HB.out (below_size HB.out) (by simp) ?_; (case hd => rfl); (case hg => rfl); (case hr => first | (go_simp; done) | (go_simp; rfl)); (case hp => exact (Reps.snoc (Reps.none _ _) rfl rfl))
          intro v54 w8 ho hb hg hnew
          have H54 := Aside0.mk ho
          clear HB
          have HB := Aside0.mk hb
          clear ho hb hg hnew
          refine hK.out _ _ ⟨(blk_cell (blk_below BK.out HB.out) 2).trans rfl, pw_cell_below HB.out HX.out⟩ (fun hHeld => ?_)
          clear hK K
          refine norm_ (a' := ?_) ?_ ?_
          rotate_left
          · show Act.put _ (some 54) _ = _
            simp only [Act.put, List.setIfInBounds_toArray, List.set_cons_zero, List.set_cons_succ, i64_w, i32_w]
            rfl
          refine one_ (i := 0) (N := (some 46)) #[true, true, true, false, true, true, true, true, true, false, false, false] rfl rfl (one_of HT_.out (by kernel_rfl)) (by decide) (fun K hK => ?_)
          refine Kd.R_lit_step Kd.string (w0 := w5) w5.heap.size 9 ?hg (N := 46) ?hd (xs := ([] : List ByteArray)) (inner := []) (ok := fun _ => True) (okp := fun _ => True) ?hr ?hp (fun _ hk => hk) trivial HB.out (below_size HB.out) (by simp) ?_; (case hd => rfl); (case hg => rfl); (case hr => first | (go_simp; done) | (go_simp; rfl)); (case hp => exact (Reps.none _ _))
          intro v46 w6 ho hb hg hnew
          have n4_ : Aside0 (Kd.R Kd.string 9 w6 w5.heap.size (fun q => some q ≠ v46.ownBlock) v54 [x]) := ⟨Kd.R_mono (Kd.R_grown (Kd.R_bound H54.out) hg (fun _ _ => by simp)) (fun q hq he => by obtain ⟨b', h1, h2⟩ := hnew; rw [h1] at he; have := Option.some.inj he; have := hq.2.2.1; omega)⟩
          clear H54
          have H54 := n4_
          clear n4_
          clear HB
          have HB := Aside0.mk hb
          have HO := Aside0.mk ho
          clear ho hb hg hnew
          refine hK.out _ _ ⟨(blk_cell (blk_below BK.out HB.out) 2).trans rfl, pw_cell_below HB.out HX.out⟩ (fun hHeld => ?_)
          clear hK K
          refine norm_ (a' := ?_) ?_ ?_
          rotate_left
          · show Act.put _ (some 46) _ = _
            simp only [Act.put, List.setIfInBounds_toArray, List.set_cons_zero, List.set_cons_succ, i64_w, i32_w]
            rfl
          refine one_ (i := 3) (N := (some 49)) #[true, true, true, true, true, true, true, true, true, false, false, false] rfl rfl (one_of HT_.out (by kernel_rfl)) (by decide) (fun K hK => ?_)
          refine Kd.R_append_rows_step Kd.string (w0 := w5) w5.heap.size (by rfl) (.tmp 46) (.tmp 48) 35 9 (.string ⟨#[]⟩) 16 rfl Tryf.underlying35 info9 rfl (by decide) (by omega) v46 [] ns _ _ _ (fun _ => True) (fun _ => False) rfl rfl HO.out (Kd.C_below HC.out HB.out) (fun _ _ h => h) (fun _ h => h.elim) (fun _ _ => trivial) HB.out (below_size HB.out) ?aL ?_
          case aL => simp only [List.length_nil]; omega
          intro v49 w7 ho hb hg hat
          have n4_ : Aside0 (Kd.R Kd.string 9 w7 w5.heap.size (fun _ => True) v54 [x]) := ⟨Kd.R_mono (Kd.R_grown H54.out hg (fun _ hk => hk)) (fun _ _ => trivial)⟩
          clear H54
          have H54 := n4_
          clear n4_
          clear HB
          have HB := Aside0.mk hb
          clear HO
          have HO := Aside0.mk ho
          clear ho hb hg hat
          refine hK.out _ _ ⟨(blk_cell (blk_below BK.out HB.out) 2).trans rfl, pw_cell_below HB.out HX.out⟩ (fun hHeld => ?_)
          clear hK K
          refine norm_ (a' := ?_) ?_ ?_
          rotate_left
          · show Act.put _ (some 49) _ = _
            simp only [Act.put, List.setIfInBounds_toArray, List.set_cons_zero, List.set_cons_succ, i64_w, i32_w]
            rfl
          obtain ⟨A54, c54, e54, l54, C54⟩ := Kd.R_reads H54.out
          have := hJ (v46, v49, v54, A54, c54) _ ⟨HO, ⟨e54⟩, ⟨C54⟩, HB⟩
          exact this
        rintro ⟨v46, v49, v54, A54, c54⟩ w9 ⟨HO_, h54_, C54_, HB_⟩
        clear HB
        have HO : Aside0 (Kd.R Kd.string 9 w9 w5.heap.size (fun _ => True) v49 ([] ++ ns)) := HO_
        obtain rfl : v54 = .slice A54 [x].length c54 := h54_.out
        have C54 : Aside0 (Kd.C Kd.string w9 A54 [x].length [x]) := C54_
        have HB : Aside0 (Below w5.heap.size w5 w9) := HB_
        clear HO_ h54_ C54_ HB_
        refine norm_ (a' := ?_) ?_ ?_
        rotate_left
        · simp only [Go.Proofs.YtnkmpinlijfocaaFmtW.PrintLast.putAll, Act.put, List.setIfInBounds_toArray, List.set_cons_zero, List.set_cons_succ, i64_w, i32_w]
          rfl
        refine one_ (i := 9) (N := (some 55)) #[true, true, true, true, true, true, true, true, true, true, false, false] rfl rfl (one_of HT_.out (by kernel_rfl)) (by decide) (fun K hK => ?_)
        refine Kd.R_append_rows_step Kd.string (w0 := w5) w5.heap.size (by rfl) (.tmp 49) (.tmp 54) 35 9 (.string ⟨#[]⟩) 16 rfl Tryf.underlying35 info9 rfl (by decide) (by omega) v49 ([] ++ ns) [x] _ _ _ (fun _ => True) (fun _ => False) rfl rfl HO.out (C54.out) (fun _ _ h => h) (fun _ h => h.elim) (fun _ _ => trivial) HB.out (below_size HB.out) ?aL ?_
        case aL => simp only [List.nil_append, List.length_cons, List.length_nil]; omega
        intro v55 w7 ho hb hg hat
        clear HB
        have HB := Aside0.mk hb
        clear HO C54
        obtain ⟨A55, c55, e55, l55, C55⟩ := Kd.R_reads ho
        obtain rfl : v55 = .slice A55 (ns ++ [x]).length c55 := e55
        have HO : Aside0 (Kd.R Kd.string 9 w7 w5.heap.size (fun _ => True) (.slice A55 (ns ++ [x]).length c55) (ns ++ [x])) := Aside0.mk ho
        have HZ := Aside0.mk l55
        clear ho hb hg hat l55 C55
        refine hK.out _ _ ⟨(blk_cell (blk_below BK.out HB.out) 2).trans rfl, pw_cell_below HB.out HX.out⟩ (fun hHeld => ?_)
        clear hK K
        refine norm_ (a' := ?_) ?_ ?_
        rotate_left
        · show Act.put _ (some 55) _ = _
          simp only [Act.put, List.setIfInBounds_toArray, List.set_cons_zero, List.set_cons_succ, i64_w, i32_w]
          rfl
        refine pure_ (i := 10) (N := (some 56)) (v := ?_) (a' := ?_) #[true, true, true, true, true, true, true, true, true, true, true, false] rfl rfl (any_of HT_.out (by kernel_rfl)) (fun _ _ _ h => h) (Or.inl ⟨by rfl, ?_⟩) ?_ ?_
        rotate_left
        · intro w'
          go_simp
          with_reducible rfl
        rotate_left
        · simp only [Act.put, List.setIfInBounds_toArray, List.set_cons_zero, List.set_cons_succ, i64_w, i32_w]
          rfl
        refine last_ (i := 11) (N := none) #[true, true, true, true, true, true, true, true, true, true, true, true] rfl rfl (one_of HT_.out (by kernel_rfl)) (by decide) (fun K hK => ?_)
        have f0 := (blk_cell (blk_below BK.out HB.out) 2).trans rfl
        have f1 := blk_frozen (blk_below BK.out HB.out) 2
        refine skip_ (by rfl) rfl (w1 := w7.setCell ⟨fB, 2, none⟩ (.slice A55 (ns ++ [x]).length c55)) ?hrun ?_; (case hrun => first | (go_simp; done) | (go_simp; rfl))
        refine hK.out _ _ ?_
        clear hK K
        refine done_ (done_of HT_.out (by kernel_rfl)) ?_
        go_wp2
        go_roundg (xs.length - (k + 1))
        case measure => omega
        case rel =>
          have hb5 := blk_below BK.out HB.out
          refine ⟨k + 1, _, ns ++ [x], A55, c55, hlt, by omega, by go_num, ⟨⟨ErAt.set_ hb5 2 _ (H3.out.below HB.out), HK5.out.1, ?_, ?_, ?_, ?_, ?_⟩⟩⟩
          · have := blk_set hb5 2 (.slice A55 (ns.length + 1) c55)
            rw [show (ns ++ [x]).length = ns.length + 1 from by simp]
            exact this
          · exact blk_far (p := ⟨fB, 2, none⟩) (blk_below HM5.out.1 HB.out) (Ne.symm hfr) _
          · exact Kd.R_lower (Kd.R_set HO.out hb5 (by decide) 2 (.slice A55 (ns.length + 1) c55)) HK5.out.2.2
          · have := HK5.out.2.1
            rw [List.length_append]
            exact Nat.succ_le_succ this
          · exact (HM5.out.2.trans (HB.out.mono HM5.out.2.size)).setCell (p := ⟨fB, 2, none⟩) hfb _
    · have hkk : k = xs.length := by omega
      subst hkk
      go_wp2
      have hm := HM.out
      have BK := Aside0.mk (blk_drew hm.f)
      have BR := Aside0.mk (blk_drew hm.res)
      have HE := Aside0.mk (hm.err.below (below_drew (Below.refl _ _)))
      have HN2 := Aside0.mk (Kd.R_drew hm.names)
      have HB := Aside0.mk (below_drew hm.below)
      have HMM := Aside0.mk hm.made
      have HLN := Aside0.mk hm.len
      clear hm HM
      refine start_ (n := 4) (S := fun w' => w'.cell? ⟨fB, 0, none⟩ = some (.int .i64 e) ∧ w'.cell? ⟨fB, 1, none⟩ = some (.int .i64 a) ∧ w'.cell? ⟨fB, 2, none⟩ = some (.slice A2 ns.length c2) ∧ w'.cell? ⟨fB, 3, none⟩ = some (.bool false)) (ds := [3]) #[false, false, false, false] (by kernel_rfl) rfl rfl ⟨(blk_cell BK.out 0).trans rfl, (blk_cell BK.out 1).trans rfl, (blk_cell BK.out 2).trans rfl, (blk_cell BK.out 3).trans rfl⟩ (fun hHeld => ?_)
      refine with_tabW made2Tab made2Bits (fun HT_ HW_ => ?_)
      generalize World.drew _ = w5 at BK BR HE HN2 HB hHeld ⊢
      refine pure_ (i := 0) (N := (some 57)) (v := ?_) (a' := ?_) #[true, false, false, false] rfl rfl (any_of HT_.out (by kernel_rfl)) (fun _ _ _ h => h) (Or.inl ⟨by rfl, ?_⟩) ?_ ?_
      rotate_left
      · intro w'
        go_simp
        with_reducible rfl
      rotate_left
      · simp only [Act.put, List.setIfInBounds_toArray, List.set_cons_zero, List.set_cons_succ, i64_w, i32_w]
        rfl
      refine take_ (i := 1) (N := (some 58)) (v := ?_) (a' := ?_) #[true, true, false, false] rfl rfl (take_ofW HT_.out HW_.out (by kernel_rfl)) (fun _ _ _ h => h) (Or.inl ⟨by rfl, ?_⟩) hHeld ?_ ?_
      rotate_left
      · rintro w' ⟨s0, s1, s2, s3⟩
        go_simp
        with_reducible rfl
      rotate_left
      · simp only [Act.put, List.setIfInBounds_toArray, List.set_cons_zero, List.set_cons_succ, i64_w, i32_w]
        rfl
      refine pure_ (i := 2) (N := (some 8)) (v := ?_) (a' := ?_) #[true, true, true, false] rfl rfl (any_of HT_.out (by kernel_rfl)) (fun _ _ _ h => h) (Or.inl ⟨by rfl, ?_⟩) ?_ ?_
      rotate_left
      · intro w'
        go_simp
        with_reducible rfl
      rotate_left
      · simp only [Act.put, List.setIfInBounds_toArray, List.set_cons_zero, List.set_cons_succ, i64_w, i32_w]
        rfl
      refine last_ (i := 3) (N := none) #[true, true, true, true] rfl rfl (one_of HT_.out (by kernel_rfl)) (by decide) (fun K hK => ?_)
      have f0 := blk_frozen BR.out 0
      have f1 := blk_frozen BR.out 1
      have f2 := blk_frozen BR.out 2
      have f3 := blk_frozen BR.out 3
      refine skip_ (by rfl) rfl (w1 := (((w5.setCell ⟨w.heap.size, 0, none⟩ (.int .i64 e)).setCell ⟨w.heap.size, 1, none⟩ (.int .i64 a)).setCell ⟨w.heap.size, 2, none⟩ (.slice A2 ns.length c2)).setCell ⟨w.heap.size, 3, none⟩ (.bool false)) ?hrun ?_; (case hrun => have g0 := (blk_cell BR.out 0).trans rfl; have g1 := (blk_cell BR.out 1).trans rfl; have g2 := (blk_cell BR.out 2).trans rfl; have g3 := (blk_cell BR.out 3).trans rfl; first | (go_simp; done) | (go_simp; rfl))
      refine hK.out _ _ ?_
      clear hK K
      refine done_ (done_of HT_.out (by kernel_rfl)) ?_
      go_wp2
      have b1 := blk_set BR.out 0 (.int .i64 e)
      have b2 := blk_set b1 1 (.int .i64 a)
      have b3 := blk_set b2 2 (.slice A2 ns.length c2)
      have b4 := blk_set b3 3 (.bool false)
      have hr := Kd.R_set (Kd.R_set (Kd.R_set (Kd.R_set HN2.out BR.out (by decide) 0 (.int .i64 e)) b1 (by decide) 1 (.int .i64 a)) b2 (by decide) 2 (.slice A2 ns.length c2)) b3 (by decide) 3 (.bool false)
      obtain ⟨_, hcap, hC⟩ := Kd.R_reads' hr
      refine bodyPost_ret (results_tc (fn := Tryf.f14) rfl _ _ w.heap.size 37 _ (0, 0) _ rfl b4 Tryf.underlying37 rfl (by kernel_rfl)) rfl ⟨_, E, A2, c2, ns, rfl, ErAt.set_ b3 3 _ (ErAt.set_ b2 2 _ (ErAt.set_ b1 1 _ (ErAt.set_ BR.out 0 _ HE.out))), ⟨HMM.out.pl, HMM.out.nm, HMM.out.small, Nat.le_trans HMM.out.size (by omega)⟩, hC, hcap, ?_, by have := HLN.out; omega⟩
      exact (((HB.out.setCell (p := ⟨w.heap.size, 0, none⟩) (Nat.le_refl _) _).setCell (p := ⟨w.heap.size, 1, none⟩) (Nat.le_refl _) _).setCell (p := ⟨w.heap.size, 2, none⟩) (Nat.le_refl _) _).setCell (p := ⟨w.heap.size, 3, none⟩) (Nat.le_refl _) _
end Go.Proofs.YtnkmpinlijfocaaFmt
