/- The law FaultStays, walked. -/
import Derived.Test.YtnkmpinlijfocaaFmtE12
namespace Go.Proofs.YtnkmpinlijfocaaFmt
open Go.RowKit Go.Proofs.YtnkmpinlijfocaaFmtW.PrintWords Go.Extern.Stop Go.Stop Go.Extern
set_option linter.unusedVariables false
set_option linter.unusedSimpArgs false
theorem named_size (n : ByteArray) (i : Er) : (Er.named n i).text.size = n.size + 2 + i.text.size := by
  show (n ++ ⟨#[58, 32]⟩ ++ i.text).size = _
  rw [ByteArray.size_append, ByteArray.size_append]
  rfl
theorem answers_below {F : Interp} {w w' : World} (hF : F.answers w.tape) (hb : Below w.heap.size w w') : F.answers w'.tape := by rw [hb.tape]; exact hF
set_option maxHeartbeats 2000000 in
theorem stays0 (a : Int) (n : ByteArray) (k : Int) {w : World} (hg : GlobalAt w) : Calls Tryf.prog 3 #[.int .i64 0, .int .i64 a, .string n, .int .u8 k] w fun e w' => e = .returned (.bool true) ∧ Below w.heap.size w w' := by
  have hk := law02_awake hg
  clear hg
  go_enter Tryf.func3, Tryf.ntmps3
  go_wp2_with (first
    | (go_at_call 5; refine (fault_New0 _ _).mono ?_; rintro ev w1 ⟨rfl, rfl⟩)
    | (go_at_call 6; refine (fault_In0 _ _).mono ?_; rintro ev w1 ⟨rfl, rfl⟩)
    | (go_at_call 7; refine hk.mono ?_; rintro ev w1 ⟨rfl, hb⟩))
  go_ret
  exact ⟨rfl, hb⟩
/-- What a wrapped error is known by, in the loop. -/
structure Known (E : Er) (e a : Int) (m : Nat) : Prop where
  pl : E.pl = some (e, a)
  plain : E.plain = false
  small : E.small
  size : E.text.size ≤ m
set_option maxHeartbeats 8000000 in
set_option maxRecDepth 100000 in
theorem law02_FaultStays (F : Interp) {w : World} (hF : F.told.answers w.tape) {e : Int} (he : e ≠ 0) (a : Int) (n : ByteArray) (hn : n.size ≤ 9223372036854775807) (k : Int) (hk0 : 0 ≤ k) (hk1 : k ≤ 255) (hg : GlobalAt w) :
    Calls Tryf.prog 3 #[.int .i64 e, .int .i64 a, .string n, .int .u8 k] w fun ev w' => ev = .returned (.bool true) ∧ Below w.heap.size w w' := by
  have HF := Aside0.mk hF
  have HG := Aside0.mk hg
  have HE := Aside0.mk he
  have hq : (e == 0) = false := beq_false_of_ne he
  clear hF hg he
  go_enter Tryf.func3, Tryf.ntmps3
  go_wp2_with (go_at_call 5; refine (fault_New a HE.out _).mono ?_; rintro ev w1 ⟨v1, rfl, h1, hb1⟩; have H1 := Aside0.mk h1; have HB1 := Aside0.mk hb1; clear h1 hb1)
  go_loopg [9, 10] 20 (fun gg v9 v10 wr => ∃ (j : Nat) (E : Er), j ≤ 20 ∧ 20 - j ≤ gg ∧ v10 = .int .i64 j ∧ Aside0 (ErAt wr v9 E) ∧ Aside0 (Known E e a ((j + 1) * 100)) ∧ Aside0 (Below w.heap.size w wr))
  case atStart => exact ⟨0, .place e a, by omega, by omega, rfl, H1, ⟨⟨rfl, rfl, trivial, by show 15 ≤ _; omega⟩⟩, HB1⟩
  case round =>
    obtain ⟨j, E, hj, hgg, rfl, HV, HK, HB⟩ := hrel
    clear H1 HB1
    obtain ⟨ty, eb, rfl⟩ := erAt_iface HV.out
    by_cases hlt : (j : Int) < k % 20
    · have hnext : j + 1 ≤ 20 := by omega
      go_wp2_with (first
        | (go_at_call 8; refine (errorf_y F.told (E := E) (answers_below HF.out (below_alloc HB.out _)) (HV.out.below (below_alloc (Below.refl _ _) _)) HK.out.small HK.out.plain (by simp)).mono ?_; rintro ev w2 ⟨v2, rfl, h2, hb2⟩; have H2 := Aside0.mk h2; have HB2 := Aside0.mk (below_new hb2); clear h2 hb2)
        | (go_at_call 6; refine (fault_In _ H2.out).mono ?_; rintro ev w3 ⟨v3, rfl, h3, hb3⟩; have H3 := Aside0.mk h3; have HB3 := Aside0.mk (hb3); clear h3 hb3))
      go_roundg (20 - (j + 1))
      case measure => omega
      case rel =>
        have hsz := HK.out.size
        have hts : (Er.wrap (FmtStop.textOf (F.told "fmt.errorf" (askedOf [121, 58, 32, 37, 119] E) 0)) E).text.size = 3 + E.text.size := told_size F parse_y (by decide) E (by omega)
        refine ⟨j + 1, _, hnext, by omega, by go_num, H3, ⟨⟨HK.out.pl, rfl, ?_, ?_⟩⟩, ⟨HB.out.trans ((HB2.out.trans (HB3.out.mono HB2.out.size)).mono HB.out.size)⟩⟩
        · exact ⟨by rw [hts]; show 1 + (3 + E.text.size) ≤ _; omega, trivial⟩
        · rw [named_size, hts]
          show 1 + 2 + (3 + E.text.size) ≤ _
          omega
    · have HP : Aside0 ((Er.named n E).pl = some (e, a)) := ⟨HK.out.pl⟩
      go_wp2_with (first
        | (go_at_call 6; refine (fault_In n HV.out).mono ?_; rintro ev w3 ⟨v3, rfl, h3, hb3⟩; have H3 := Aside0.mk h3; have b3 := Aside0.mk (HB.out.trans (hb3.mono HB.out.size)); clear h3 hb3)
        | (go_at_call 9; refine (code_is (e := e) (a := a) HP.out H3.out (global_below HG.out b3.out)).mono ?_; rintro ev w4 ⟨rfl, hb4⟩; have b4 := Aside0.mk (b3.out.trans (hb4.mono b3.out.size)); have H4 := Aside0.mk (H3.out.below hb4); clear hb4 H3 b3)
        | (go_at_call 10; refine (at_is (e := e) (a := a) HP.out H4.out (global_below HG.out b4.out)).mono ?_; rintro ev w5 ⟨rfl, hb5⟩; have b5 := Aside0.mk (b4.out.trans (hb5.mono b4.out.size)); have H5 := Aside0.mk (H4.out.below hb5); clear hb5 H4 b4)
        | (go_at_call 11; refine (name_is rfl H5.out (global_below HG.out b5.out)).mono ?_; rintro ev w6 ⟨rfl, hb6⟩; have b6 := Aside0.mk (b5.out.trans (hb6.mono b5.out.size)); have H6 := Aside0.mk (H5.out.below hb6); clear hb6 H5 b5)
        | (go_at_call 12; refine (is_is (e := e) (a := a) HP.out HE.out H6.out).mono ?_; rintro ev w7 ⟨rfl, rfl⟩)
        | (go_at_call 13; refine (eis_is (e := e) (a := a) HP.out H6.out).mono ?_; rintro ev w8 ⟨rfl, rfl⟩)
        | (go_at_call 7; refine (law02_awake (global_below HG.out b6.out)).mono ?_; rintro ev w9 ⟨rfl, hb9⟩))
      go_ret
      exact ⟨rfl, b6.out.trans (hb9.mono b6.out.size)⟩
end Go.Proofs.YtnkmpinlijfocaaFmt
