/- Texts laid one behind the other: R8, B1, B2. -/
import Derived.Test.YtliofoikejdjeaaDoorV3
import Derived.Test.YtliofoikejdjeaaDoorWTab
/- gread's reader: a rule, whole; the form. -/
namespace Go.Proofs.YtliofoikejdjeaaDoor
open Go.RowKit Go.Proofs.YtliofoikejdjeaaDoorW.PrintWords
set_option linter.unusedVariables false
set_option linter.unusedSimpArgs false
theorem ruleS_eq {x y : Tk} {l : List Tk} (hx : x.k = 1) (hy : y.k = 3) : ruleS (x :: y :: l) = ruleOf x (sidesS ((x :: y :: l).length + 1) l []) := by
  unfold ruleS
  rw [if_pos (show (hd (x :: y :: l)).k = 1 from hx), if_pos (show (hd (x :: y :: l).tail).k = 3 from hy)]
  rfl
set_option maxHeartbeats 1000000 in
theorem rd_rule {W0 w : World} {b : Nat} {v1 v2 v3 v4 : Value} {m : Nat} {D : List Tk} {M : List Int} {S : List Tk} {rs : List Ru} {l : List Tk} (h : RS W0 w b l v1 v2 v3 v4 m D M S rs) (ht : TEnd l) (hs : ∀ t ∈ l, t.s.size ≤ 10000) (hm : l.length + rs.length ≤ 100000) :
    Calls Tryd.prog 58 #[.pointer (some ⟨b, 0, none⟩)] w (RuleEnd W0 b v1 v2 v3 m D M S rs (ruleS l)) := by
  by_cases h1 : (hd l).k = 1
  · obtain ⟨x, l1, rfl, hl1, ht1⟩ := ht.hd (by rw [h1]; decide)
    by_cases h3 : (hd l1).k = 3
    · obtain ⟨y, l2, rfl, hl2, ht2⟩ := ht1.hd (by rw [h3]; decide)
      rw [ruleS_eq (x := x) (y := y) h1 h3]
      exact rd_rule3 h h1 h3 hl2 ht2 (hs x List.mem_cons_self) (by simp only [List.length_cons] at hm; omega) (by simp only [List.length_cons]; omega) rfl
    · have HE := Aside0.mk h
      have HX1 := Aside0.mk (show x.k = 1 from h1)
      have HY3 := Aside0.mk h3
      have HRv : Aside0 (ruleS (x :: l1) = .error (badS l1)) := ⟨by unfold ruleS; rw [if_pos h1, if_neg (show ¬ (hd (x :: l1).tail).k = 3 from h3)]; rfl⟩
      clear h h1 h3 ht1 hs
      go_enter Tryd.func58, Tryd.ntmps58
      go_wp2_with (go_at_call 84; ((with_reducible refine (rd_want HE.out.rl hl1 HX1.out).mono ?_); rintro e w1 ⟨rfl, h1, hb1⟩; have H1 := Aside0.mk h1; clear h1 hb1; unfold tkV))
      go_wp2_with (go_at_call 84; ((with_reducible refine (rd_want_no (H1.out.alloc _) HY3.out).mono ?_); rintro e w2 ⟨⟨older, rfl, ho⟩, hb2⟩))
      refine ⟨rfl, ?_⟩
      rw [HRv.out]
      exact ⟨⟨older, rfl, ho⟩, (H1.out.alloc _).below.trans (hb2.below H1.out.hb (H1.out.alloc _).below.size)⟩
  · have HE := Aside0.mk h
    have HX1 := Aside0.mk h1
    have HRv : Aside0 (ruleS l = .error (badS l)) := ⟨by unfold ruleS; rw [if_neg h1]⟩
    clear h h1 hs
    go_enter Tryd.func58, Tryd.ntmps58
    go_wp2_with (go_at_call 84; ((with_reducible refine (rd_want_no HE.out.rl HX1.out).mono ?_); rintro e w2 ⟨⟨older, rfl, ho⟩, hb2⟩))
    refine ⟨rfl, ?_⟩
    rw [HRv.out]
    exact ⟨⟨older, rfl, ho⟩, HE.out.rl.below.trans (hb2.below HE.out.rl.hb HE.out.rl.below.size)⟩
theorem sides_rest : ∀ (f : Nat) {l : List Tk} {acc : List Sd} {l' : List Tk} {sd : List Sd}, sidesS f l acc = .ok (l', sd) → TEnd l → TEnd l' ∧ l'.length < l.length ∧ ∀ t ∈ l', t ∈ l := by
  intro f
  induction f with
  | zero => intro l acc l' sd h; cases h
  | succ f ih =>
    intro l acc l' sd h ht
    rw [sides_cont] at h
    have hd2 := ht.drop
    have hlen := drop_len l
    have hmem : ∀ t ∈ l.dropWhile symB, t ∈ l := fun t h => (List.dropWhile_suffix symB).subset h
    generalize l.dropWhile symB = l2 at *
    unfold contS at h
    by_cases h4 : (hd l2).k = 4
    · rw [if_pos h4] at h
      obtain ⟨z, l3, rfl, hl3, ht3⟩ := hd2.hd (by rw [h4]; decide)
      obtain ⟨h1, h2, h3⟩ := ih h ht3
      exact ⟨h1, by simp only [List.length_cons, List.tail_cons] at *; omega, fun t h => hmem t (List.mem_cons_of_mem _ (h3 t h))⟩
    · rw [if_neg h4] at h
      by_cases h5 : (hd l2).k = 5
      · rw [if_pos h5] at h
        obtain ⟨z, l3, rfl, hl3, ht3⟩ := hd2.hd (by rw [h5]; decide)
        injection h with h
        injection h with h _
        subst h
        exact ⟨ht3, by simp only [List.length_cons, List.tail_cons] at *; omega, fun t h => hmem t (List.mem_cons_of_mem _ h)⟩
      · rw [if_neg h5] at h
        cases h
theorem rule_rest {l l' : List Tk} {r : Ru} (h : ruleS l = .ok (l', r)) (ht : TEnd l) : TEnd l' ∧ l'.length < l.length ∧ ∀ t ∈ l', t ∈ l := by
  unfold ruleS at h
  by_cases h1 : (hd l).k = 1
  · rw [if_pos h1] at h
    obtain ⟨x, l1, rfl, hl1, ht1⟩ := ht.hd (by rw [h1]; decide)
    by_cases h3 : (hd l1).k = 3
    · obtain ⟨y, l2, rfl, hl2, ht2⟩ := ht1.hd (by rw [h3]; decide)
      rw [if_pos (show (hd (x :: y :: l2).tail).k = 3 from h3)] at h
      cases hr : sidesS ((x :: y :: l2).length + 1) (x :: y :: l2).tail.tail [] with
      | error e => rw [hr] at h; cases h
      | ok p =>
        obtain ⟨l3, sd⟩ := p
        rw [hr] at h
        injection h with h
        injection h with h _
        subst h
        obtain ⟨h1, h2, h3⟩ := sides_rest _ hr ht2
        exact ⟨h1, by simp only [List.length_cons, List.tail_cons] at *; omega, fun t h => List.mem_cons_of_mem _ (List.mem_cons_of_mem _ (h3 t h))⟩
    · rw [if_neg (show ¬ (hd (x :: l1).tail).k = 3 from h3)] at h
      cases h
  · rw [if_neg h1] at h
    cases h
def formRest (n : Nat) (R : Except Ft (List Tk × Hd)) : Except Ft (Hd × List Ru) :=
  match R with
  | .error e => .error e
  | .ok (l', x) =>
    match ruleS l' with
    | .error e => .error e
    | .ok (l'', r) =>
      match rulesS n l'' [r] with
      | .error e => .error e
      | .ok rs => .ok (x, rs)
theorem form_rest (l : List Tk) : formS l = formRest (l.length + 1) (headsS (l.length + 1) l ⟨[], [], []⟩) := rfl
def formLast (x : Hd) (R : Except Ft (List Ru)) : Except Ft (Hd × List Ru) :=
  match R with
  | .error e => .error e
  | .ok rs => .ok (x, rs)
theorem form_last {n : Nat} {l3 l4 : List Tk} {x : Hd} {r4 : Ru} (h : ruleS l3 = .ok (l4, r4)) : formRest n (.ok (l3, x)) = formLast x (rulesS n l4 [r4]) := by
  unfold formRest formLast
  simp only [h]
theorem rules_step (f : Nat) (l : List Tk) (acc : List Ru) (h : (hd l).k ≠ 0) : rulesS (f + 1) l acc = match ruleS l with | .ok (l', r) => rulesS f l' (acc ++ [r]) | .error e => .error e := by
  rw [rulesS, if_neg h]
  cases ruleS l with
  | error e => rfl
  | ok p => rfl
def FormEnd (W0 : World) (b m : Nat) (R : Except Ft (Hd × List Ru)) (e : Ending) (w' : World) : Prop :=
  match R with
  | .error f => Panics f e ∧ Below W0.heap.size W0 w'
  | .ok (x, rs) => e = .returned (.tuple #[]) ∧ ∃ l' v1 v2 v3 v4, RS W0 w' b l' v1 v2 v3 v4 m x.declared x.marks x.starts rs
theorem heads_step (f : Nat) (l : List Tk) (x : Hd) (h : (hd l).k ≠ 6) : headsS (f + 1) l x = match headS l x with | .ok (l', x') => headsS f l' x' | .error e => .error e := by
  rw [headsS, if_neg h]
  cases headS l x with
  | error e => rfl
  | ok p => rfl
theorem while_len (l : List Tk) : (l.takeWhile symB).length + (l.dropWhile symB).length = l.length := by rw [← List.length_append, List.takeWhile_append_dropWhile]
set_option maxHeartbeats 16000000 in
set_option maxRecDepth 100000 in
theorem rd_form {W0 w : World} {b m : Nat} {l : List Tk} (h : HS W0 w b l (.slice none 0 0) (.slice none 0 0) (.slice none 0 0) (.slice none 0 0) m 0 (fun _ => none) 0 [] [] []) (ht : TEnd l) (hs : ∀ t ∈ l, t.s.size ≤ 10000) (hm : l.length ≤ 10000) :
    Calls Tryd.prog 40 #[.pointer (some ⟨b, 0, none⟩)] w (FormEnd W0 b m (formS l)) := by
  rw [form_rest]
  obtain ⟨R, hR⟩ : ∃ R, headsS (l.length + 1) l ⟨[], [], []⟩ = R := ⟨_, rfl⟩
  rw [hR]
  have HR := Aside0.mk hR
  have HE := Aside0.mk h
  have HT := Aside0.mk ht
  have HSZ := Aside0.mk hs
  clear h ht hR hs
  go_enter Tryd.func40, Tryd.ntmps40
  go_wp2_with fail
  go_loopg [3] l.length (fun gg u3 wr => ∃ (f : Nat) (l2 : List Tk) (x : Hd) (v1 v2 v3 : Value), l2.length ≤ l.length ∧ l2.length ≤ gg ∧ l2.length ≤ f ∧ x.declared.length + l2.length ≤ l.length ∧ x.marks.length + l2.length ≤ l.length ∧ x.starts.length + l2.length ≤ l.length ∧ Aside0 (headsS f l2 x = R) ∧ Aside0 (TEnd l2 ∧ ∀ t ∈ l2, t ∈ l) ∧ Aside0 (HS W0 wr b l2 v1 v2 v3 (.slice none 0 0) m 0 (fun _ => none) 0 x.declared x.marks x.starts))
  case atStart => exact ⟨l.length + 1, l, ⟨[], [], []⟩, _, _, _, Nat.le_refl _, Nat.le_refl _, by omega, by simp, by simp, by simp, HR, ⟨HT.out, fun t h => h⟩, HE⟩
  case round =>
    clear HR HE HT
    obtain ⟨f, l2, x, v1, v2, v3, hl2, hgg, hff, hD, hM, hS, HR, HT, HE⟩ := hrel
    by_cases h6 : (hd l2).k = 6
    · obtain ⟨t, l3, rfl, hl3, ht3⟩ := HT.out.1.hd (by rw [h6]; decide)
      have HK6 := Aside0.mk (show (hd (t :: l3)).k = 6 from h6)
      have HT3 := Aside0.mk (And.intro ht3 (fun u (h : u ∈ l3) => HT.out.2 u (List.mem_cons_of_mem _ h)))
      simp only [List.length_cons] at hl2 hgg hff hD hM hS
      obtain ⟨g, rfl⟩ : ∃ g, f = g + 1 := ⟨f - 1, by omega⟩
      have HR2 : Aside0 (R = .ok (l3, x)) := ⟨by
        have hst := HR.out
        rw [headsS, if_pos (show (hd (t :: l3)).k = 6 from h6)] at hst
        exact hst.symm⟩
      have hmm : l3.length + ([] : List Ru).length ≤ 100000 := by simp only [List.length_nil]; omega
      clear h6 ht3 HR HT
      have hrr := fun (W : World) (hw : RS W0 W b l3 v1 v2 v3 (.slice none 0 0) m x.declared x.marks x.starts []) => rd_rule hw HT3.out.1 (fun u hu => HSZ.out u (HT3.out.2 u hu)) hmm
      cases hre : ruleS l3 with
      | error ef =>
        rw [hre] at hrr
        have HRE := Aside0.mk hre
        clear hre
        go_wp2_with (first | (go_at_call 55; ((with_reducible refine (rd_isy HE.out.rl HK6.out).mono ?_); rintro e w' ⟨rfl, rfl⟩)) | (go_at_call 57; refine (rd_take HE.out.rl hl3).mono ?_; rintro e w2 ⟨rfl, h2, hb2⟩; have H2 := Aside0.mk (HE.out.but hb2 h2); clear h2 hb2; unfold tkV) | (go_at_call 58; refine (hrr _ ⟨⟨0, _, 0, H2.out, fun u => rfl, Nat.le_refl _⟩, Kd.R_nil _ _ _ _ _⟩).mono ?_; rintro e w3 ⟨⟨older, rfl, ho⟩, hb3⟩))
        refine ⟨rfl, ?_⟩
        rw [HR2.out]
        unfold formRest
        simp only [HRE.out]
        exact ⟨⟨older, rfl, ho⟩, hb3⟩
      | ok p =>
        obtain ⟨l4, r4⟩ := p
        rw [hre] at hrr
        have HRE := Aside0.mk hre
        have HT4 := Aside0.mk (rule_rest hre HT3.out.1)
        have hl4 := HT4.out.2.1
        clear hre
        go_wp2_with (first | (go_at_call 55; ((with_reducible refine (rd_isy HE.out.rl HK6.out).mono ?_); rintro e w' ⟨rfl, rfl⟩)) | (go_at_call 57; refine (rd_take HE.out.rl hl3).mono ?_; rintro e w2 ⟨rfl, h2, hb2⟩; have H2 := Aside0.mk (HE.out.but hb2 h2); clear h2 hb2; unfold tkV) | (go_at_call 58; refine (hrr _ ⟨⟨0, _, 0, H2.out, fun u => rfl, Nat.le_refl _⟩, Kd.R_nil _ _ _ _ _⟩).mono ?_; rintro e w3 ⟨rfl, v4', h3⟩; have H3 := Aside0.mk h3; clear h3))
        clear hrr
        obtain ⟨R2, hR2⟩ : ∃ R2, rulesS (l.length + 1) l4 [r4] = R2 := ⟨_, rfl⟩
        have HF : Aside0 (formRest (l.length + 1) R = formLast x R2) := ⟨by rw [HR2.out, form_last HRE.out, hR2]⟩
        have HRR := Aside0.mk hR2
        have HL4 : Aside0 (TEnd l4 ∧ ∀ t ∈ l4, t ∈ l) := ⟨HT4.out.1, fun u hu => HT3.out.2 u (HT4.out.2.2 u hu)⟩
        clear hR2 HR2 HRE HT3 HT4 HE HK6 hgg hff
        go_loopg [12] l.length (fun gg u12 wr => ∃ (f : Nat) (l5 : List Tk) (acc : List Ru) (v4 : Value), acc.length + l5.length ≤ l.length + 1 ∧ l5.length ≤ gg ∧ l5.length ≤ f ∧ Aside0 (rulesS f l5 acc = R2) ∧ Aside0 (TEnd l5 ∧ ∀ t ∈ l5, t ∈ l) ∧ Aside0 (RS W0 wr b l5 v1 v2 v3 v4 m x.declared x.marks x.starts acc))
        case atStart => exact ⟨l.length + 1, l4, [r4], v4', by simp only [List.length_cons, List.length_nil]; omega, by omega, by omega, HRR, HL4, H3⟩
        case round =>
          clear HRR HL4 H3
          obtain ⟨f, l5, acc, v4, hlen, hgg, hff, HRR, HT, HE⟩ := hrel
          by_cases h0 : (hd l5).k = 0
          · have HK0 := Aside0.mk h0
            have HRv : Aside0 (R2 = .ok acc) := ⟨by
              obtain ⟨l0, t, e, _⟩ := HT.out.1
              cases f with
              | zero => rw [e] at hff; simp at hff
              | succ f =>
                have hst := HRR.out
                rw [rulesS, if_pos h0] at hst
                exact hst.symm⟩
            clear h0 HRR
            go_wp2_with (go_at_call 55; ((with_reducible refine (rd_isy HE.out.rl HK0.out).mono ?_); rintro e w' ⟨rfl, rfl⟩))
            (first | go_end0 | refine bodyPost_ret (results_none rfl _ _ _) rfl ?_)
            rw [HF.out, HRv.out]
            exact ⟨rfl, _, _, _, _, _, HE.out⟩
          · have HK0 := Aside0.mk h0
            obtain ⟨t, l6, e5, hl6, ht6⟩ := HT.out.1.hd h0
            obtain ⟨g, rfl⟩ : ∃ g, f = g + 1 := ⟨f - 1, by rw [e5] at hff; simp only [List.length_cons] at hff; omega⟩
            have hst := HRR.out
            rw [rules_step g l5 acc h0] at hst
            have hrr := rd_rule HE.out HT.out.1 (fun u hu => HSZ.out u (HT.out.2 u hu)) (by omega)
            clear e5 hl6 ht6 HRR h0
            cases hre : ruleS l5 with
            | error ef =>
              rw [hre] at hrr hst
              have HRv : Aside0 (R2 = .error ef) := ⟨hst.symm⟩
              clear hre hst
              go_wp2_with (first | (go_at_call 55; ((with_reducible refine (rd_isn HE.out.rl HK0.out).mono ?_); rintro e w' ⟨rfl, rfl⟩)) | (go_at_call 58; refine hrr.mono ?_; rintro e w3 ⟨⟨older, rfl, ho⟩, hb3⟩))
              refine ⟨rfl, ?_⟩
              rw [HF.out, HRv.out]
              exact ⟨⟨older, rfl, ho⟩, hb3⟩
            | ok p =>
              obtain ⟨l7, r7⟩ := p
              rw [hre] at hrr hst
              have HR7 : Aside0 (rulesS g l7 (acc ++ [r7]) = R2) := ⟨hst⟩
              have HT7 := Aside0.mk (rule_rest hre HT.out.1)
              have hl7 := HT7.out.2.1
              clear hre hst
              go_wp2_with (first | (go_at_call 55; ((with_reducible refine (rd_isn HE.out.rl HK0.out).mono ?_); rintro e w' ⟨rfl, rfl⟩)) | (go_at_call 58; refine hrr.mono ?_; rintro e w3 ⟨rfl, v5', h3⟩; have H3 := Aside0.mk h3; clear h3))
              go_roundg l7.length
              case measure => omega
              case rel =>
                exact ⟨g, l7, acc ++ [r7], v5', by simp only [List.length_append, List.length_cons, List.length_nil]; omega, Nat.le_refl _, by omega, HR7, ⟨HT7.out.1, fun u hu => HT.out.2 u (HT7.out.2.2 u hu)⟩, H3⟩
    · have HK6 := Aside0.mk h6
      obtain ⟨t0, tt0, hpos⟩ : ∃ t r, l2 = t :: r := by
        obtain ⟨l0, t, e, _⟩ := HT.out.1
        cases l2 with
        | nil => simp at e
        | cons y r => exact ⟨y, r, rfl⟩
      obtain ⟨g, rfl⟩ : ∃ g, f = g + 1 := ⟨f - 1, by rw [hpos] at hff; simp only [List.length_cons] at hff; omega⟩
      clear hpos t0 tt0
      have hst := HR.out
      rw [heads_step g l2 x h6] at hst
      clear h6 HR
      by_cases h7 : (hd l2).k = 7
      · obtain ⟨t, l3, rfl, hl3, ht3⟩ := HT.out.1.hd (by rw [h7]; decide)
        have HT3 := Aside0.mk ht3
        have HK7 := Aside0.mk (show t.k = 7 from h7)
        simp only [List.length_cons] at hl2 hgg hff hD hM hS
        have hsum := while_len l3
        have hdl := drop_len l3
        cases hq : symB (hd l3) with
        | true =>
          have HQ := Aside0.mk hq
          have HR2 : Aside0 (headsS g (l3.dropWhile symB) { x with declared := x.declared ++ l3.takeWhile symB } = R) := ⟨by
            unfold headS at hst
            rw [if_pos h7, if_pos (show symB (hd (t :: l3).tail) = true from hq)] at hst
            exact hst⟩
          clear hst h7 ht3 hq
          go_wp2_with (first | (go_at_call 55; ((with_reducible refine (rd_isn HE.out.rl HK6.out).mono ?_); rintro e w' ⟨rfl, rfl⟩)) | (go_at_call 56; refine (rd_head7 HE.out HK7.out hl3 HT3.out HQ.out (by omega)).mono ?_; rintro e w2 ⟨rfl, v1', h2⟩; have H2 := Aside0.mk h2; clear h2))
          go_roundg (l3.dropWhile symB).length
          case measure => omega
          case rel =>
            exact ⟨g, l3.dropWhile symB, { x with declared := x.declared ++ l3.takeWhile symB }, v1', v2, v3, by omega, Nat.le_refl _, by omega, by rw [List.length_append]; omega, by show x.marks.length + _ ≤ _; omega, by show x.starts.length + _ ≤ _; omega, HR2, ⟨HT3.out.drop, fun t h => HT.out.2 t (List.mem_cons_of_mem _ ((List.dropWhile_suffix symB).subset h))⟩, H2⟩
        | false =>
          have HQ := Aside0.mk hq
          have HR2 : Aside0 (R = .error (badS l3)) := ⟨by
            unfold headS at hst
            rw [if_pos h7, if_neg (show ¬ symB (hd (t :: l3).tail) = true from by rw [show (t :: l3).tail = l3 from rfl, hq]; decide)] at hst
            exact hst.symm⟩
          clear hst h7 ht3 hq
          go_wp2_with (first | (go_at_call 55; ((with_reducible refine (rd_isn HE.out.rl HK6.out).mono ?_); rintro e w' ⟨rfl, rfl⟩)) | (go_at_call 56; refine (rd_head7_no HE.out HK7.out hl3 HQ.out).mono ?_; rintro e w2 ⟨⟨older, rfl, ho⟩, h2⟩))
          refine ⟨rfl, ?_⟩
          rw [HR2.out]
          exact ⟨⟨older, rfl, ho⟩, h2⟩
      · by_cases h8 : (hd l2).k = 8
        · obtain ⟨t, l3, rfl, hl3, ht3⟩ := HT.out.1.hd (by rw [h8]; decide)
          have HK8 := Aside0.mk (show t.k = 8 from h8)
          by_cases hy : (hd l3).k = 1
          · obtain ⟨y, l4, rfl, hl4, ht4⟩ := ht3.hd (by rw [hy]; decide)
            simp only [List.length_cons] at hl2 hgg hff hD hM hS
            have HT4 := Aside0.mk ht4
            have HY := Aside0.mk (show y.k = 1 from hy)
            have HR2 : Aside0 (headsS g l4 { x with marks := x.marks ++ [t.at_], starts := x.starts ++ [y] } = R) := ⟨by
              unfold headS at hst
              rw [if_neg h7, if_pos h8, if_pos (show (hd (t :: y :: l4).tail).k = 1 from hy)] at hst
              exact hst⟩
            clear hst h7 h8 ht3 ht4 hy
            go_wp2_with (first | (go_at_call 55; ((with_reducible refine (rd_isn HE.out.rl HK6.out).mono ?_); rintro e w' ⟨rfl, rfl⟩)) | (go_at_call 56; refine (rd_head8 HE.out HK8.out hl4 HY.out ⟨by omega, by omega⟩).mono ?_; rintro e w2 ⟨rfl, v2', v3', h2⟩; have H2 := Aside0.mk h2; clear h2))
            go_roundg l4.length
            case measure => omega
            case rel =>
              exact ⟨g, l4, { x with marks := x.marks ++ [t.at_], starts := x.starts ++ [y] }, v1, v2', v3', by omega, Nat.le_refl _, by omega, by show x.declared.length + _ ≤ _; omega, by simp only [List.length_append, List.length_cons, List.length_nil]; omega, by simp only [List.length_append, List.length_cons, List.length_nil]; omega, HR2, ⟨HT4.out, fun t h => HT.out.2 t (List.mem_cons_of_mem _ (List.mem_cons_of_mem _ h))⟩, H2⟩
          · have HY := Aside0.mk hy
            have HR2 : Aside0 (R = .error (badS l3)) := ⟨by
              unfold headS at hst
              rw [if_neg h7, if_pos h8, if_neg (show ¬ (hd (t :: l3).tail).k = 1 from hy)] at hst
              exact hst.symm⟩
            clear hst h7 h8 ht3 hy
            go_wp2_with (first | (go_at_call 55; ((with_reducible refine (rd_isn HE.out.rl HK6.out).mono ?_); rintro e w' ⟨rfl, rfl⟩)) | (go_at_call 56; refine (rd_head8_no HE.out HK8.out hl3 HY.out ⟨by omega, by omega⟩).mono ?_; rintro e w2 ⟨⟨older, rfl, ho⟩, h2⟩))
            refine ⟨rfl, ?_⟩
            rw [HR2.out]
            exact ⟨⟨older, rfl, ho⟩, h2⟩
        · have HK7 := Aside0.mk h7
          have HK8 := Aside0.mk h8
          have HR2 : Aside0 (R = .error (badS l2)) := ⟨by
            unfold headS at hst
            rw [if_neg h7, if_neg h8] at hst
            exact hst.symm⟩
          clear hst h7 h8
          go_wp2_with (first | (go_at_call 55; ((with_reducible refine (rd_isn HE.out.rl HK6.out).mono ?_); rintro e w' ⟨rfl, rfl⟩)) | (go_at_call 56; refine (rd_head_no HE.out HK7.out HK8.out).mono ?_; rintro e w2 ⟨⟨older, rfl, ho⟩, h2⟩))
          refine ⟨rfl, ?_⟩
          rw [HR2.out]
          exact ⟨⟨older, rfl, ho⟩, h2⟩
end Go.Proofs.YtliofoikejdjeaaDoor
/- gread's builder: its state. -/
namespace Go.Proofs.YtliofoikejdjeaaDoor
open Go.RowKit Go.Proofs.YtliofoikejdjeaaDoorW.PrintWords Go.Proofs.YtliofoikejdjeaaDoorW.PrintLast
set_option linter.unusedVariables false
set_option linter.unusedSimpArgs false
/-- What was read, as it lies in memory. -/
structure RdR (W : World) (b m : Nat) (x : Hd) (rs : List Ru) : Prop where
  cells : ∃ v0 A1 c1 A2 c2 A3 c3 A4 c4, W.heap[b]? = some (.cells #[v0, .slice A1 x.declared.length c1, .slice A2 x.marks.length c2, .slice A3 x.starts.length c3, .slice A4 rs.length c4, .map (some m)] 88 (0, 0)) ∧ Kd.C kTk W A1 x.declared.length x.declared ∧ Kd.C (Kd.int .i64) W A2 x.marks.length x.marks ∧ Kd.C kTk W A3 x.starts.length x.starts ∧ Kd.C kRu W A4 rs.length rs
  map : ∃ n f c, MapSI W m n f c ∧ ∀ u, (f u).getD 0 = leftsN rs u
theorem RdR.below {W W' : World} {b m : Nat} {x : Hd} {rs : List Ru} (h : RdR W b m x rs) (hb : Below W.heap.size W W') : RdR W' b m x rs := by
  obtain ⟨v0, A1, c1, A2, c2, A3, c3, A4, c4, hk, h1, h2, h3, h4⟩ := h.cells
  obtain ⟨n, f, c, hm, hf⟩ := h.map
  exact ⟨⟨v0, A1, c1, A2, c2, A3, c3, A4, c4, blk_below hk hb, Kd.C_below h1 hb, Kd.C_below h2 hb, Kd.C_below h3 hb, Kd.C_below h4 hb⟩, n, f, c, hm.below hb, hf⟩
theorem RS.read {W0 w : World} {b : Nat} {l : List Tk} {v1 v2 v3 v4 : Value} {m : Nat} {x : Hd} {rs : List Ru} (h : RS W0 w b l v1 v2 v3 v4 m x.declared x.marks x.starts rs) : RdR w b m x rs := by
  obtain ⟨n, f, c, hs, hf, hn⟩ := h.hs
  obtain ⟨ad, c0, hk, _⟩ := hs.rl.cells
  obtain ⟨A1, c1, e1, _, h1⟩ := Kd.R_reads hs.r1
  obtain ⟨A2, c2, e2, _, h2⟩ := Kd.R_reads hs.r2
  obtain ⟨A3, c3, e3, _, h3⟩ := Kd.R_reads hs.r3
  obtain ⟨A4, c4, e4, _, h4⟩ := Kd.R_reads h.r4
  subst e1 e2 e3 e4
  exact ⟨⟨_, A1, c1, A2, c2, A3, c3, A4, c4, hk, h1, h2, h3, h4⟩, n, f, c, hs.mp, hf⟩
def kStrs : Kd (List ByteArray) := Kd.slice 9 Kd.string
/-- The builder's state. -/
structure BS (W1 w : World) (b m : Nat) (x : Hd) (rs : List Ru) (B mt mn : Nat) (vT vN vS : Value) (u : Bu) (tm nm : List ByteArray) : Prop where
  rd : RdR W1 b m x rs
  below : Below W1.heap.size W1 w
  hB : W1.heap.size ≤ B
  blk : w.heap[B]? = some (.cells #[.pointer (some ⟨b, 0, none⟩), .map (some mt), .map (some mn), vT, vN, .slice none 0 0, .int .i64 0, vS] 92 (0, 0))
  ts : Kd.R Kd.string 9 w W1.heap.size (fun k => some k ≠ vN.ownBlock) vT u.ts
  ns : Kd.R Kd.string 9 w W1.heap.size (fun k => some k ≠ vT.ownBlock) vN u.ns
  rs_ : Kd.R kStrs 27 w W1.heap.size (fun k => some k ≠ vN.ownBlock ∧ some k ≠ vT.ownBlock) vS u.rs
  mt_ : ∃ n f c, MapSI w mt n f c ∧ (∀ s, (f s).getD 0 = placeS tm s + 1) ∧ n ≤ tm.length
  mn_ : ∃ n f c, MapSI w mn n f c ∧ (∀ s, (f s).getD 0 = placeS nm s + 1) ∧ n ≤ nm.length
  hmt : W1.heap.size ≤ mt
  hmn : W1.heap.size ≤ mn
  hne : mt ≠ mn
section
variable {W1 w w1 : World} {b m : Nat} {x : Hd} {rs : List Ru} {B mt mn : Nat} {vT vN vS : Value} {u : Bu} {tm nm : List ByteArray}
theorem BS.later (h : BS W1 w b m x rs B mt mn vT vN vS u tm nm) (hb : Below w.heap.size w w1) : BS W1 w1 b m x rs B mt mn vT vN vS u tm nm := by
  obtain ⟨n1, f1, c1, h1, h1'⟩ := h.mt_
  obtain ⟨n2, f2, c2, h2, h2'⟩ := h.mn_
  exact ⟨h.rd, h.below.trans (hb.mono h.below.size), h.hB, blk_below h.blk hb, Kd.R_below h.ts hb, Kd.R_below h.ns hb, Kd.R_below h.rs_ hb, ⟨n1, f1, c1, h1.below hb, h1'⟩, ⟨n2, f2, c2, h2.below hb, h2'⟩, h.hmt, h.hmn, h.hne⟩
theorem BS.mtB (h : BS W1 w b m x rs B mt mn vT vN vS u tm nm) : mt ≠ B := by
  obtain ⟨n1, f1, c1, h1, _⟩ := h.mt_
  exact h1.ne h.blk
theorem BS.mnB (h : BS W1 w b m x rs B mt mn vT vN vS u tm nm) : mn ≠ B := by
  obtain ⟨n1, f1, c1, h1, _⟩ := h.mn_
  exact h1.ne h.blk
theorem BS.lookT (h : BS W1 w b m x rs B mt mn vT vN vS u tm nm) (s : ByteArray) (hs : s.size ≤ 10000) : (Instr.lookup 85 (.map (some mt)) (.string s) false).run Tryd.prog w = .ok (.int .i64 (placeS tm s + 1)) w := by
  obtain ⟨n1, f1, c1, h1, h2, _⟩ := h.mt_
  rw [← h2 s]
  exact msi_look h1 s (by omega) _ Tryd.underlying85
theorem BS.lookN (h : BS W1 w b m x rs B mt mn vT vN vS u tm nm) (s : ByteArray) (hs : s.size ≤ 10000) : (Instr.lookup 85 (.map (some mn)) (.string s) false).run Tryd.prog w = .ok (.int .i64 (placeS nm s + 1)) w := by
  obtain ⟨n1, f1, c1, h1, h2, _⟩ := h.mn_
  rw [← h2 s]
  exact msi_look h1 s (by omega) _ Tryd.underlying85
theorem BS.lookL (h : BS W1 w b m x rs B mt mn vT vN vS u tm nm) (s : ByteArray) (hs : s.size ≤ 10000) : (Instr.lookup 85 (.map (some m)) (.string s) false).run Tryd.prog w = .ok (.int .i64 (leftsN rs s)) w := by
  obtain ⟨n1, f1, c1, h1, h2⟩ := (h.rd.below h.below).map
  rw [← h2 s]
  exact msi_look h1 s (by omega) _ Tryd.underlying85
theorem BS.cells (h : BS W1 w b m x rs B mt mn vT vN vS u tm nm) : w.cell? ⟨B, 0, none⟩ = some (.pointer (some ⟨b, 0, none⟩)) ∧ w.cell? ⟨B, 1, none⟩ = some (.map (some mt)) ∧ w.cell? ⟨B, 2, none⟩ = some (.map (some mn)) ∧ w.cell? ⟨B, 3, none⟩ = some vT ∧ w.cell? ⟨B, 4, none⟩ = some vN ∧ w.cell? ⟨B, 7, none⟩ = some vS :=
  ⟨(blk_cell h.blk 0).trans rfl, (blk_cell h.blk 1).trans rfl, (blk_cell h.blk 2).trans rfl, (blk_cell h.blk 3).trans rfl, (blk_cell h.blk 4).trans rfl, (blk_cell h.blk 7).trans rfl⟩
/-- What a method of the builder's writes: its block, a map, a row. -/
structure Fr (B mt : Nat) (v v' : Value) (w w' : World) : Prop where
  os : w'.os = w.os
  tape : w'.tape = w.tape
  output : w'.output = w.output
  size : w.heap.size ≤ w'.heap.size
  block : ∀ k, k < w.heap.size → k ≠ B → k ≠ mt → some k ≠ v.ownBlock → w'.heap[k]? = w.heap[k]?
  hat : v'.ownBlock = v.ownBlock ∨ ∃ k, v'.ownBlock = some k ∧ w.heap.size ≤ k
theorem Fr.refl (B mt : Nat) (v : Value) (w : World) : Fr B mt v v w w := ⟨rfl, rfl, rfl, Nat.le_refl _, fun _ _ _ _ _ => rfl, .inl rfl⟩
theorem Fr.later {v : Value} (h : Below w.heap.size w w1) : Fr B mt v v w w1 := ⟨h.os, h.tape, h.output, h.size, fun k hk _ _ _ => h.block k hk, .inl rfl⟩
theorem Fr.trans {v v1 v2 : Value} {w2 : World} (h : Fr B mt v v1 w w1) (k : Fr B mt v1 v2 w1 w2) : Fr B mt v v2 w w2 := by
  refine ⟨k.os.trans h.os, k.tape.trans h.tape, k.output.trans h.output, Nat.le_trans h.size k.size, fun i hi hB hm hv => ?_, ?_⟩
  · refine (k.block i (Nat.lt_of_lt_of_le hi h.size) hB hm ?_).trans (h.block i hi hB hm hv)
    rcases h.hat with e | ⟨j, e, hj⟩
    · rw [e]; exact hv
    · rw [e]
      intro he
      have := Option.some.inj he
      omega
  · rcases k.hat with e | ⟨j, e, hj⟩
    · rcases h.hat with e' | ⟨j, e', hj⟩
      · exact .inl (e.trans e')
      · exact .inr ⟨j, e.trans e', hj⟩
    · exact .inr ⟨j, e, Nat.le_trans h.size hj⟩
/-- A row of the caller's own stays. -/
theorem Fr.row {α : Type} {d : Kd α} {e base : Nat} {ok : Nat → Prop} {v v' r : Value} {xs : List α} (fr : Fr B mt v v' w w1) {cs : Array Value} (hblk : w.heap[B]? = some (.cells cs 92 (0, 0))) {n c : Nat} {f : ByteArray → Option Int} (hm : MapSI w mt n f c) (ht : ∀ q, q ∈ e :: d.E → q ≠ 92) (h : d.R e w base (fun k => ok k ∧ some k ≠ v.ownBlock) r xs) : d.R e w1 base (fun k => ok k ∧ some k ≠ v'.ownBlock) r xs := by
  have h2 := Kd.R_step (w1 := w1) (Kd.R_bound h) (fun k hk hlt => by
    obtain ⟨⟨_, hv⟩, _, _, q, hq, cells, hc⟩ := hk
    refine fr.block k hlt (fun e => ?_) (fun e => ?_) hv
    · subst e
      rw [hc] at hblk
      injection hblk with hblk
      injection hblk with _ hblk
      exact ht q hq hblk
    · subst e
      exact hm.ne hc rfl)
  refine Kd.R_mono h2 (fun k hk => ⟨hk.1.1, ?_⟩)
  rcases fr.hat with e | ⟨j, e, hj⟩
  · rw [e]; exact hk.1.2
  · rw [e]
    intro he
    have := Option.some.inj he
    have := hk.2.2.1
    omega
end
section
variable {W1 w w1 : World} {b m : Nat} {x : Hd} {rs : List Ru} {B mt mn : Nat} {vT vN vS : Value} {u : Bu} {tm nm : List ByteArray}
theorem BS.putT (h : BS W1 w b m x rs B mt mn vT vN vS u tm nm) {v' : Value} {ts' : List ByteArray} (ho : Kd.R Kd.string 9 w1 W1.heap.size (fun k => some k ≠ vN.ownBlock) v' ts') (hg : w.grownBy w1 vT.ownBlock) (hat : v'.ownBlock = vT.ownBlock ∨ ∃ k, v'.ownBlock = some k ∧ w.heap.size ≤ k) :
    w1.heap[B]? = some (.cells #[.pointer (some ⟨b, 0, none⟩), .map (some mt), .map (some mn), vT, vN, .slice none 0 0, .int .i64 0, vS] 92 (0, 0)) ∧ BS W1 (w1.setCell ⟨B, 3, none⟩ v') b m x rs B mt mn v' vN vS { u with ts := ts' } tm nm := by
  have hk := blk_grown h.blk hg (Kd.R_ne h.ts h.blk (by decide))
  obtain ⟨n1, f1, c1, h1, h1'⟩ := h.mt_
  obtain ⟨n2, f2, c2, h2, h2'⟩ := h.mn_
  refine ⟨hk, h.rd, (Below.grown h.below hg h.below.size (fun k hk => Kd.R_base h.ts k hk)).setCell (p := ⟨B, 3, none⟩) h.hB v', h.hB, blk_set hk 3 v', Kd.R_set ho hk (by decide) 3 v', ?_, ?_, ⟨n1, f1, c1, (h1.own h.ts hg).same (Below.heap_setCell w1 ⟨B, 3, none⟩ v' mt h.mtB), h1'⟩, ⟨n2, f2, c2, (h2.own h.ts hg).same (Below.heap_setCell w1 ⟨B, 3, none⟩ v' mn h.mnB), h2'⟩, h.hmt, h.hmn, h.hne⟩
  · exact Kd.R_set (Kd.R_mono (Kd.R_after (ok := fun _ => True) (Kd.R_mono h.ns (fun k hk => ⟨trivial, hk⟩)) hg hat) (fun k hk => hk.2)) hk (by decide) 3 v'
  · exact Kd.R_set (Kd.R_after (ok := fun k => some k ≠ vN.ownBlock) h.rs_ hg hat) hk (by decide) 3 v'
theorem BS.putN (h : BS W1 w b m x rs B mt mn vT vN vS u tm nm) {v' : Value} {ns' : List ByteArray} (ho : Kd.R Kd.string 9 w1 W1.heap.size (fun k => some k ≠ vT.ownBlock) v' ns') (hg : w.grownBy w1 vN.ownBlock) (hat : v'.ownBlock = vN.ownBlock ∨ ∃ k, v'.ownBlock = some k ∧ w.heap.size ≤ k) :
    w1.heap[B]? = some (.cells #[.pointer (some ⟨b, 0, none⟩), .map (some mt), .map (some mn), vT, vN, .slice none 0 0, .int .i64 0, vS] 92 (0, 0)) ∧ BS W1 (w1.setCell ⟨B, 4, none⟩ v') b m x rs B mt mn vT v' vS { u with ns := ns' } tm nm := by
  have hk := blk_grown h.blk hg (Kd.R_ne h.ns h.blk (by decide))
  obtain ⟨n1, f1, c1, h1, h1'⟩ := h.mt_
  obtain ⟨n2, f2, c2, h2, h2'⟩ := h.mn_
  refine ⟨hk, h.rd, (Below.grown h.below hg h.below.size (fun k hk => Kd.R_base h.ns k hk)).setCell (p := ⟨B, 4, none⟩) h.hB v', h.hB, blk_set hk 4 v', ?_, Kd.R_set ho hk (by decide) 4 v', ?_, ⟨n1, f1, c1, (h1.own h.ns hg).same (Below.heap_setCell w1 ⟨B, 4, none⟩ v' mt h.mtB), h1'⟩, ⟨n2, f2, c2, (h2.own h.ns hg).same (Below.heap_setCell w1 ⟨B, 4, none⟩ v' mn h.mnB), h2'⟩, h.hmt, h.hmn, h.hne⟩
  · exact Kd.R_set (Kd.R_mono (Kd.R_after (ok := fun _ => True) (Kd.R_mono h.ts (fun k hk => ⟨trivial, hk⟩)) hg hat) (fun k hk => hk.2)) hk (by decide) 4 v'
  · exact Kd.R_set (Kd.R_mono (Kd.R_after (ok := fun k => some k ≠ vT.ownBlock) (Kd.R_mono h.rs_ (fun k hk => ⟨hk.2, hk.1⟩)) hg hat) (fun k hk => ⟨hk.2, hk.1⟩)) hk (by decide) 4 v'
theorem BS.putS (h : BS W1 w b m x rs B mt mn vT vN vS u tm nm) {v' : Value} {rs' : List (List ByteArray)} (ho : Kd.R kStrs 27 w1 W1.heap.size (fun k => some k ≠ vN.ownBlock ∧ some k ≠ vT.ownBlock) v' rs') (hg : w.grownBy w1 vS.ownBlock) :
    w1.heap[B]? = some (.cells #[.pointer (some ⟨b, 0, none⟩), .map (some mt), .map (some mn), vT, vN, .slice none 0 0, .int .i64 0, vS] 92 (0, 0)) ∧ BS W1 (w1.setCell ⟨B, 7, none⟩ v') b m x rs B mt mn vT vN v' { u with rs := rs' } tm nm := by
  have hk := blk_grown h.blk hg (Kd.R_ne h.rs_ h.blk (by decide))
  obtain ⟨n1, f1, c1, h1, h1'⟩ := h.mt_
  obtain ⟨n2, f2, c2, h2, h2'⟩ := h.mn_
  refine ⟨hk, h.rd, (Below.grown h.below hg h.below.size (fun k hk => Kd.R_base h.rs_ k hk)).setCell (p := ⟨B, 7, none⟩) h.hB v', h.hB, blk_set hk 7 v', ?_, ?_, Kd.R_set ho hk (by decide) 7 v', ⟨n1, f1, c1, (h1.own h.rs_ hg).same (Below.heap_setCell w1 ⟨B, 7, none⟩ v' mt h.mtB), h1'⟩, ⟨n2, f2, c2, (h2.own h.rs_ hg).same (Below.heap_setCell w1 ⟨B, 7, none⟩ v' mn h.mnB), h2'⟩, h.hmt, h.hmn, h.hne⟩
  · exact Kd.R_set (Kd.R_over h.ts h.rs_ (by decide) hg) hk (by decide) 7 v'
  · exact Kd.R_set (Kd.R_over h.ns h.rs_ (by decide) hg) hk (by decide) 7 v'
theorem BS.mapT (h : BS W1 w b m x rs B mt mn vT vN vS u tm nm) {n' c' : Nat} {f' : ByteArray → Option Int} {tm' : List ByteArray} (hm : MapSI w1 mt n' f' c') (hf : ∀ s, (f' s).getD 0 = placeS tm' s + 1) (hn : n' ≤ tm'.length) (hg : w.grownBy w1 (some mt)) : BS W1 w1 b m x rs B mt mn vT vN vS u tm' nm := by
  obtain ⟨n1, f1, c1, h1, h1'⟩ := h.mt_
  obtain ⟨n2, f2, c2, h2, h2'⟩ := h.mn_
  obtain ⟨es, clock, he⟩ := h1.map_
  exact ⟨h.rd, Below.grown h.below hg h.below.size (fun k hk => by cases hk; exact h.hmt), h.hB, blk_grown h.blk hg (fun e => h.mtB (Option.some.inj e).symm), R_map h.ts he hg, R_map h.ns he hg, R_map h.rs_ he hg, ⟨n', f', c', hm, hf, hn⟩, ⟨n2, f2, c2, h2.grown hg (fun e => h.hne (Option.some.inj e).symm), h2'⟩, h.hmt, h.hmn, h.hne⟩
theorem BS.mapN (h : BS W1 w b m x rs B mt mn vT vN vS u tm nm) {n' c' : Nat} {f' : ByteArray → Option Int} {nm' : List ByteArray} (hm : MapSI w1 mn n' f' c') (hf : ∀ s, (f' s).getD 0 = placeS nm' s + 1) (hn : n' ≤ nm'.length) (hg : w.grownBy w1 (some mn)) : BS W1 w1 b m x rs B mt mn vT vN vS u tm nm' := by
  obtain ⟨n1, f1, c1, h1, h1'⟩ := h.mt_
  obtain ⟨n2, f2, c2, h2, h2'⟩ := h.mn_
  obtain ⟨es, clock, he⟩ := h2.map_
  exact ⟨h.rd, Below.grown h.below hg h.below.size (fun k hk => by cases hk; exact h.hmn), h.hB, blk_grown h.blk hg (fun e => h.mnB (Option.some.inj e).symm), R_map h.ts he hg, R_map h.ns he hg, R_map h.rs_ he hg, ⟨n1, f1, c1, h1.grown hg (fun e => h.hne (Option.some.inj e)), h1'⟩, ⟨n', f', c', hm, hf, hn⟩, h.hmt, h.hmn, h.hne⟩
theorem Fr.put {v v' v1 : Value} {w2 : World} {i : Nat} (h : Fr B mt v v w w1) (hg : w1.grownBy w2 v.ownBlock) (hat : v'.ownBlock = v.ownBlock ∨ ∃ k, v'.ownBlock = some k ∧ w1.heap.size ≤ k) : Fr B mt v v' w (w2.setCell ⟨B, i, none⟩ v1) :=
  ⟨hg.os.trans h.os, hg.tape.trans h.tape, hg.output.trans h.output, by simpa using Nat.le_trans h.size hg.size, fun k hk hB hm hv => (Below.heap_setCell w2 ⟨B, i, none⟩ v1 k hB).trans ((hg.block k (Nat.lt_of_lt_of_le hk h.size) hv).trans (h.block k hk hB hm hv)), hat.imp_right fun ⟨k, e, hk⟩ => ⟨k, e, Nat.le_trans h.size hk⟩⟩
theorem Fr.map {v v' : Value} {w2 : World} (h : Fr B mt v v' w w1) (hg : w1.grownBy w2 (some mt)) : Fr B mt v v' w w2 :=
  ⟨hg.os.trans h.os, hg.tape.trans h.tape, hg.output.trans h.output, Nat.le_trans h.size hg.size, fun k hk hB hm hv => (hg.block k (Nat.lt_of_lt_of_le hk h.size) (fun e => hm (Option.some.inj e))).trans (h.block k hk hB hm hv), h.hat⟩
end
theorem place_snoc (xs : List ByteArray) (s t : ByteArray) (hs : placeS xs s = -1) : placeS (xs ++ [s]) t + 1 = if t = s then ((xs.length + 1 : Nat) : Int) else placeS xs t + 1 := by
  unfold placeS idxF at *
  rw [List.findIdx?_append]
  by_cases e : t = s
  · subst e
    rw [if_pos rfl]
    cases h : xs.findIdx? (fun x => decide (x = t)) with
    | some i => rw [h] at hs; exact absurd hs (by simp only; omega)
    | none => simp
  · rw [if_neg e]
    have hn : List.findIdx? (fun x => decide (x = t)) [s] = none := by simp [List.findIdx?_cons, Ne.symm e]
    rw [hn]
    cases xs.findIdx? (fun x => decide (x = t)) <;> simp
end Go.Proofs.YtliofoikejdjeaaDoor
/- gread's builder: one terminal more. -/
namespace Go.Proofs.YtliofoikejdjeaaDoor
open Go.RowKit Go.Proofs.YtliofoikejdjeaaDoorW.PrintWords Go.Proofs.YtliofoikejdjeaaDoorW.PrintLast
set_option linter.unusedVariables false
set_option linter.unusedSimpArgs false
def btaT : Bool × List (List Nat × List Nat) := (true, [([], []), ([], []), ([1], [1]), ([2], [2]), ([3], [3]), ([4], [4]), ([], []), ([6], [6]), ([7], [7]), ([5, 8], [5, 8]), ([0, 0, 1, 2, 3, 4, 5, 6, 7, 8, 9], [0]), ([10, 0, 1, 2, 3, 4, 5, 6, 7, 8, 9], [10]), ([11, 0, 1, 2, 3, 4, 5, 6, 7, 8, 9], [11]), ([12, 9, 9, 0, 1, 2, 3, 4, 5, 6, 7, 8, 9], [9, 12])])
def btaB : List Nat := [0, 0, 2, 6, 14, 30, 0, 64, 192, 510, 1023, 2047, 4095, 8191]
theorem btaTab : rtab .any (opsOf Tryd.f106 3) = btaT := by kernel_rfl
theorem btaBits : waitsOk btaT.2 btaB = true := by kernel_rfl
def btmT : Bool × List (List Nat × List Nat) := (true, [([], []), ([0], [0]), ([1], [1]), ([2], [2]), ([], []), ([4], [4]), ([], []), ([6], [6]), ([7], [7]), ([8], [8]), ([9], [9]), ([10], [10]), ([3, 5, 11, 0, 1, 2, 3, 4, 5, 6, 7, 8, 9, 10, 11], [3, 5, 11])])
def btmB : List Nat := [0, 1, 3, 7, 0, 16, 0, 64, 192, 448, 960, 1984, 4095]
theorem btmTab : rtab .any (opsOf Tryd.f106 4) = btmT := by kernel_rfl
theorem btmBits : waitsOk btmT.2 btmB = true := by kernel_rfl
def TermEnd (W1 w : World) (b m : Nat) (x : Hd) (rs : List Ru) (B mt mn : Nat) (vT vN vS : Value) (u : Bu) (R : Except Ft (List ByteArray)) (e : Ending) (w' : World) : Prop :=
  match R with
  | .error f => Panics f e ∧ ∃ vT' u', BS W1 w' b m x rs B mt mn vT' vN vS u' u'.ts u'.ns ∧ Fr B mt vT vT' w w'
  | .ok ts' => e = .returned (.tuple #[]) ∧ ∃ vT', BS W1 w' b m x rs B mt mn vT' vN vS { u with ts := ts' } ts' u.ns ∧ Fr B mt vT vT' w w'
theorem blk_new (w : World) (o : Obj) : (w.alloc o).heap[w.heap.size]? = some o := Array.getElem?_push_size
set_option maxHeartbeats 4000000 in
set_option maxRecDepth 100000 in
theorem b_term_full {W1 w : World} {b m : Nat} {x : Hd} {rs : List Ru} {B mt mn : Nat} {vT vN vS : Value} {u : Bu} (h : BS W1 w b m x rs B mt mn vT vN vS u u.ts u.ns) (t : Tk) (hsz : t.s.size ≤ 10000) (hl : 120 ≤ u.ts.length) (hu : u.ts.length ≤ 100000) :
    Calls Tryd.prog 106 #[.pointer (some ⟨B, 0, none⟩), tkV t] w (TermEnd W1 w b m x rs B mt mn vT vN vS u (termB t u.ts)) := by
  have HR : Aside0 (termB t u.ts = .error (7, t.at_)) := ⟨by unfold termB; rw [if_pos hl]⟩
  have hgB0 : w.heap.size ≠ B := by have := blk_lt h.blk; omega
  have HGB := Aside0.mk hgB0
  have HB := Aside0.mk (h.later (below_alloc (Below.refl _ _) (.cells #[.int .i64 t.k, .string t.s, .int .i64 t.at_] 66 (0, 0))))
  have BK := Aside0.mk (blk_new w (.cells #[.int .i64 t.k, .string t.s, .int .i64 t.at_] 66 (0, 0)))
  have HF := Aside0.mk (Fr.later (B := B) (mt := mt) (v := vT) (below_alloc (Below.refl w.heap.size w) (.cells #[.int .i64 t.k, .string t.s, .int .i64 t.at_] 66 (0, 0))))
  obtain ⟨Av, cv, ev⟩ := Kd.R_slice h.ts
  have c0 := (blk_cell HB.out.blk 3).trans rfl
  have c1 := (blk_cell BK.out 2).trans rfl
  rw [ev] at c0
  have hl2 : (120 : Int) ≤ (u.ts.length : Int) := by omega
  clear h ev hsz
  unfold tkV
  go_enter Tryd.func106, Tryd.ntmps106
  go_wp2_with (go_at_call 88; ((with_reducible refine (gread_fail _ _ _).mono ?_); rintro e w' ⟨⟨older, rfl, ho⟩, rfl⟩))
  refine ⟨rfl, ?_⟩
  rw [HR.out]
  exact ⟨⟨older, rfl, ho⟩, _, _, HB.out, HF.out⟩
set_option maxHeartbeats 8000000 in
set_option maxRecDepth 100000 in
theorem b_term_new {W1 w : World} {b m : Nat} {x : Hd} {rs : List Ru} {B mt mn : Nat} {vT vN vS : Value} {u : Bu} (h : BS W1 w b m x rs B mt mn vT vN vS u u.ts u.ns) (t : Tk) (hsz : t.s.size ≤ 10000) (hl : u.ts.length < 120) (hp : placeS u.ts t.s = -1) :
    Calls Tryd.prog 106 #[.pointer (some ⟨B, 0, none⟩), tkV t] w (TermEnd W1 w b m x rs B mt mn vT vN vS u (termB t u.ts)) := by
  have HR : Aside0 (termB t u.ts = .ok (u.ts ++ [t.s])) := ⟨by unfold termB; rw [if_neg (by omega)]⟩
  have hgB0 : w.heap.size ≠ B := by have := blk_lt h.blk; omega
  have HGB := Aside0.mk hgB0
  have HB := Aside0.mk (h.later (below_alloc (Below.refl _ _) (.cells #[.int .i64 t.k, .string t.s, .int .i64 t.at_] 66 (0, 0))))
  have BK := Aside0.mk (blk_new w (.cells #[.int .i64 t.k, .string t.s, .int .i64 t.at_] 66 (0, 0)))
  have HF := Aside0.mk (Fr.later (B := B) (mt := mt) (v := vT) (below_alloc (Below.refl w.heap.size w) (.cells #[.int .i64 t.k, .string t.s, .int .i64 t.at_] 66 (0, 0))))
  have HL : Aside0 (u.ts.length < 120) := ⟨hl⟩
  have HPP := Aside0.mk hp
  have HSZ : Aside0 (t.s.size ≤ 140737488351232) := ⟨by omega⟩
  obtain ⟨Av, cv, ev⟩ := Kd.R_slice h.ts
  have c0 := (blk_cell HB.out.blk 3).trans rfl
  rw [ev] at c0
  have hl2 : ¬ (120 : Int) ≤ (u.ts.length : Int) := by omega
  clear h hsz hp hl hgB0
  unfold tkV
  go_enter Tryd.func106, Tryd.ntmps106
  go_wp2
  obtain ⟨g, hgg⟩ : ∃ g, w.heap.size = g := ⟨_, rfl⟩
  clear c0 hl2 ev
  rw [hgg] at BK HGB
  have hgB := HGB.out
  have n1_ := Aside0.mk (HB.out.later (below_drew (Below.refl _ _)))
  have n2_ := Aside0.mk (blk_drew BK.out)
  have n3_ := Aside0.mk (HF.out.trans (Fr.later (below_drew (Below.refl _ _))))
  clear HB BK HF
  have HB := n1_
  have BK := n2_
  have HF := n3_
  clear n1_ n2_ n3_
  refine start_ (n := 14) (S := fun w' => w'.cell? ⟨B, 3, none⟩ = some vT ∧ w'.cell? ⟨g, 1, none⟩ = some (.string t.s)) (ds := [13]) #[false, false, false, false, false, false, false, false, false, false, false, false, false, false] (by kernel_rfl) rfl rfl ⟨HB.out.cells.2.2.2.1, (blk_cell BK.out 1).trans rfl⟩ (fun hHeld => ?_)
  refine with_tabW btaTab btaBits (fun HT_ HW_ => ?_)
  generalize World.drew _ = w5 at HB BK HF hHeld ⊢
  refine pure_ (i := 0) (N := (some 14)) (v := ?_) (a' := ?_) #[true, false, false, false, false, false, false, false, false, false, false, false, false, false] rfl rfl (any_of HT_.out (by kernel_rfl)) (fun _ _ _ h => h) (Or.inl ⟨by rfl, ?_⟩) ?_ ?_
  rotate_left
  · intro w'
    go_simp
    with_reducible rfl
  rotate_left
  · simp only [Act.put, List.setIfInBounds_toArray, List.set_cons_zero, List.set_cons_succ, i64_w, i32_w]
    rfl
  refine pure_ (i := 1) (N := (some 15)) (v := ?_) (a' := ?_) #[true, true, false, false, false, false, false, false, false, false, false, false, false, false] rfl rfl (any_of HT_.out (by kernel_rfl)) (fun _ _ _ h => h) (Or.inl ⟨by rfl, ?_⟩) ?_ ?_
  rotate_left
  · intro w'
    go_simp
    with_reducible rfl
  rotate_left
  · simp only [Act.put, List.setIfInBounds_toArray, List.set_cons_zero, List.set_cons_succ, i64_w, i32_w]
    rfl
  refine pure_ (i := 2) (N := (some 16)) (v := ?_) (a' := ?_) #[true, true, true, false, false, false, false, false, false, false, false, false, false, false] rfl rfl (any_of HT_.out (by kernel_rfl)) (fun _ _ _ h => h) (Or.inl ⟨by rfl, ?_⟩) ?_ ?_
  rotate_left
  · intro w'
    go_simp
    with_reducible rfl
  rotate_left
  · simp only [Act.put, List.setIfInBounds_toArray, List.set_cons_zero, List.set_cons_succ, i64_w, i32_w]
    rfl
  refine pure_ (i := 3) (N := (some 17)) (v := ?_) (a' := ?_) #[true, true, true, true, false, false, false, false, false, false, false, false, false, false] rfl rfl (any_of HT_.out (by kernel_rfl)) (fun _ _ _ h => h) (Or.inl ⟨by rfl, ?_⟩) ?_ ?_
  rotate_left
  · intro w'
    go_simp
    with_reducible rfl
  rotate_left
  · simp only [Act.put, List.setIfInBounds_toArray, List.set_cons_zero, List.set_cons_succ, i64_w, i32_w]
    rfl
  refine pure_ (i := 4) (N := (some 18)) (v := ?_) (a' := ?_) #[true, true, true, true, true, false, false, false, false, false, false, false, false, false] rfl rfl (any_of HT_.out (by kernel_rfl)) (fun _ _ _ h => h) (Or.inl ⟨by rfl, ?_⟩) ?_ ?_
  rotate_left
  · intro w'
    go_simp
    with_reducible rfl
  rotate_left
  · simp only [Act.put, List.setIfInBounds_toArray, List.set_cons_zero, List.set_cons_succ, i64_w, i32_w]
    rfl
  refine take_ (i := 5) (N := (some 19)) (v := ?_) (a' := ?_) #[true, true, true, true, true, true, false, false, false, false, false, false, false, false] rfl rfl (take_ofW HT_.out HW_.out (by kernel_rfl)) (fun _ _ _ h => h) (Or.inl ⟨by rfl, ?_⟩) hHeld ?_ ?_
  rotate_left
  · rintro w' ⟨s0, s1⟩
    go_simp
    with_reducible rfl
  rotate_left
  · simp only [Act.put, List.setIfInBounds_toArray, List.set_cons_zero, List.set_cons_succ, i64_w, i32_w]
    rfl
  refine pure_ (i := 6) (N := (some 20)) (v := ?_) (a' := ?_) #[true, true, true, true, true, true, true, false, false, false, false, false, false, false] rfl rfl (any_of HT_.out (by kernel_rfl)) (fun _ _ _ h => h) (Or.inl ⟨by rfl, ?_⟩) ?_ ?_
  rotate_left
  · intro w'
    go_simp
    with_reducible rfl
  rotate_left
  · simp only [Act.put, List.setIfInBounds_toArray, List.set_cons_zero, List.set_cons_succ, i64_w, i32_w]
    rfl
  refine take_ (i := 7) (N := (some 21)) (v := ?_) (a' := ?_) #[true, true, true, true, true, true, true, true, false, false, false, false, false, false] rfl rfl (take_ofW HT_.out HW_.out (by kernel_rfl)) (fun _ _ _ h => h) (Or.inl ⟨by rfl, ?_⟩) hHeld ?_ ?_
  rotate_left
  · rintro w' ⟨s0, s1⟩
    go_simp
    with_reducible rfl
  rotate_left
  · simp only [Act.put, List.setIfInBounds_toArray, List.set_cons_zero, List.set_cons_succ, i64_w, i32_w]
    rfl
  refine one_ (i := 8) (N := (some 22)) #[true, true, true, true, true, true, true, true, true, false, false, false, false, false] rfl rfl (one_of HT_.out (by kernel_rfl)) (by decide) (fun K hK => ?_)
  refine Kd.R_lit_step Kd.string (w0 := w5) w5.heap.size 9 ?hg (N := 22) ?hd (xs := [t.s]) (inner := [.string t.s]) (ok := fun _ => True) (okp := fun _ => True) ?hr ?hp (fun _ hk => hk) trivial (Below.refl _ _) (Nat.le_refl _) (by simp) ?_; (case hd => rfl); (case hg => rfl); (case hr => first | (go_simp; done) | (go_simp; rfl)); (case hp => exact (Reps.snoc (Reps.none _ _) rfl rfl))
  intro vL w7 ho hb hg hnew
  obtain ⟨A8, c8, e8, l8, C8⟩ := Kd.R_reads ho
  subst e8
  have HX := Aside0.mk C8
  have hgn := grown_none hg
  have n1_ := Aside0.mk (HB.out.later hgn)
  have n2_ := Aside0.mk (blk_below BK.out hgn)
  have n3_ := Aside0.mk (HF.out.trans (Fr.later hgn))
  clear HB BK HF ho hb hg hnew C8 l8 hgn
  have HB := n1_
  have BK := n2_
  have HF := n3_
  clear n1_ n2_ n3_
  refine hK.out _ _ ⟨HB.out.cells.2.2.2.1, (blk_cell BK.out 1).trans rfl⟩ (fun hHeld => ?_)
  clear hK K
  refine norm_ (a' := ?_) ?_ ?_
  rotate_left
  · show Act.put _ (some 22) _ = _
    simp only [Act.put, List.setIfInBounds_toArray, List.set_cons_zero, List.set_cons_succ, i64_w, i32_w]
    rfl
  refine one_ (i := 9) (N := (some 23)) #[true, true, true, true, true, true, true, true, true, true, false, false, false, false] rfl rfl (one_of HT_.out (by kernel_rfl)) (by decide) (fun K hK => ?_)
  refine Kd.R_append_rows_step Kd.string (w0 := w7) W1.heap.size (by rfl) (.tmp 19) (.tmp 22) 27 9 (.string ⟨#[]⟩) 16 rfl Tryd.underlying27 info9 rfl (by decide) (by omega) vT u.ts [t.s] _ _ _ (fun k => some k ≠ vN.ownBlock) (fun _ => False) rfl rfl HB.out.ts HX.out (fun _ _ h => h) (fun _ h => h.elim) (fun k hk he => by have := Kd.R_lt HB.out.ns k he.symm; omega) (Below.refl _ _) HB.out.below.size ?aL ?_
  case aL => have := HL.out; simp only [List.length_cons, List.length_nil]; omega
  intro vX w8 ho hb hg hat
  have n1_ := Aside0.mk (HB.out.putT ho hg hat)
  have n2_ := Aside0.mk (blk_grown BK.out hg (Kd.R_ne HB.out.ts BK.out (by decide)))
  have HF2 : Aside0 (∀ i v1, Fr B mt vT vX w (w8.setCell ⟨B, i, none⟩ v1)) := ⟨fun i v1 => HF.out.put hg hat⟩
  have HSL := Aside0.mk (Kd.R_slice ho)
  clear HB BK HF HX ho hb hg hat
  have HP := n1_
  have BK := n2_
  clear n1_ n2_
  refine hK.out _ _ ⟨(blk_cell HP.out.1 3).trans rfl, (blk_cell BK.out 1).trans rfl⟩ (fun hHeld => ?_)
  clear hK K
  refine norm_ (a' := ?_) ?_ ?_
  rotate_left
  · show Act.put _ (some 23) _ = _
    simp only [Act.put, List.setIfInBounds_toArray, List.set_cons_zero, List.set_cons_succ, i64_w, i32_w]
    rfl
  refine pure_ (i := 10) (N := (some 24)) (v := ?_) (a' := ?_) #[true, true, true, true, true, true, true, true, true, true, true, false, false, false] rfl rfl (any_of HT_.out (by kernel_rfl)) (fun _ _ _ h => h) (Or.inl ⟨by rfl, ?_⟩) ?_ ?_
  rotate_left
  · intro w'
    go_simp
    with_reducible rfl
  rotate_left
  · simp only [Act.put, List.setIfInBounds_toArray, List.set_cons_zero, List.set_cons_succ, i64_w, i32_w]
    rfl
  refine pure_ (i := 11) (N := (some 25)) (v := ?_) (a' := ?_) #[true, true, true, true, true, true, true, true, true, true, true, true, false, false] rfl rfl (any_of HT_.out (by kernel_rfl)) (fun _ _ _ h => h) (Or.inl ⟨by rfl, ?_⟩) ?_ ?_
  rotate_left
  · intro w'
    go_simp
    with_reducible rfl
  rotate_left
  · simp only [Act.put, List.setIfInBounds_toArray, List.set_cons_zero, List.set_cons_succ, i64_w, i32_w]
    rfl
  refine pure_ (i := 12) (N := (some 26)) (v := ?_) (a' := ?_) #[true, true, true, true, true, true, true, true, true, true, true, true, true, false] rfl rfl (any_of HT_.out (by kernel_rfl)) (fun _ _ _ h => h) (Or.inl ⟨by rfl, ?_⟩) ?_ ?_
  rotate_left
  · intro w'
    go_simp
    with_reducible rfl
  rotate_left
  · simp only [Act.put, List.setIfInBounds_toArray, List.set_cons_zero, List.set_cons_succ, i64_w, i32_w]
    rfl
  refine last_ (i := 13) (N := none) #[true, true, true, true, true, true, true, true, true, true, true, true, true, true] rfl rfl (one_of HT_.out (by kernel_rfl)) (by decide) (fun K hK => ?_)
  have f0 := (blk_cell HP.out.1 3).trans rfl
  have f1 := blk_frozen HP.out.1 3
  refine skip_ (by rfl) rfl (w1 := w8.setCell ⟨B, 3, none⟩ vX) ?hrun ?_; (case hrun => obtain ⟨An, cn, en⟩ : ∃ An cn, vX = .slice An (u.ts ++ [t.s]).length cn := HSL.out; subst en; first | (go_simp; done) | (go_simp; rfl))
  have HB := Aside0.mk HP.out.2
  have HF := Aside0.mk (HF2.out 3 vX)
  have n1_ := Aside0.mk (blk_far (p := ⟨B, 3, none⟩) BK.out hgB vX)
  clear f0 f1 HP HF2 BK
  have BK := n1_
  clear n1_
  refine hK.out _ _ ?_
  clear hK K
  refine done_ (done_of HT_.out (by kernel_rfl)) ?_
  go_wp2
  have n1_ := Aside0.mk (HB.out.later (below_drew (Below.refl _ _)))
  have n2_ := Aside0.mk (blk_drew BK.out)
  have n3_ := Aside0.mk (HF.out.trans (v1 := vX) (v2 := vX) (Fr.later (below_drew (Below.refl _ _))))
  clear HB BK HF
  have HB := n1_
  have BK := n2_
  have HF := n3_
  clear n1_ n2_ n3_
  obtain ⟨An, cn, en⟩ : ∃ An cn, vX = .slice An (u.ts ++ [t.s]).length cn := HSL.out
  clear HSL
  obtain ⟨N, hN⟩ : ∃ N, (u.ts ++ [t.s]).length = N := ⟨_, rfl⟩
  have hN2 : N = u.ts.length + 1 := by rw [← hN, List.length_append]; rfl
  have HNW : Aside0 ((Lit.int .i64 (N : Int)).wf = true) := ⟨by
    have e1 : IntKind.i64.min = -9223372036854775808 := rfl
    have e2 : IntKind.i64.max = 9223372036854775807 := rfl
    have := HL.out
    simp [Lit.wf, e1, e2]
    omega⟩
  have HPL : Aside0 (∀ ff : ByteArray → Option Int, (∀ s, (ff s).getD 0 = placeS u.ts s + 1) → ∀ s, ((fun u => if u = t.s then some (N : Int) else ff u) s).getD 0 = placeS (u.ts ++ [t.s]) s + 1) := ⟨fun ff hff s => by
    rw [place_snoc _ _ _ HPP.out]
    by_cases e : s = t.s
    · simp only [if_pos e, Option.getD_some, hN2]
    · simp only [if_neg e]
      exact hff s⟩
  rw [hN] at en
  have HEN := Aside0.mk en
  clear hN2 en
  refine start_ (n := 13) (S := fun w' => w'.cell? ⟨B, 1, none⟩ = some (.map (some mt)) ∧ w'.cell? ⟨g, 1, none⟩ = some (.string t.s) ∧ w'.cell? ⟨B, 3, none⟩ = some (.slice An N cn)) (ds := [12]) #[false, false, false, false, false, false, false, false, false, false, false, false, false] (by kernel_rfl) rfl rfl ⟨HB.out.cells.2.1, (blk_cell BK.out 1).trans rfl, (HB.out.cells.2.2.2.1).trans (congrArg some HEN.out)⟩ (fun hHeld => ?_)
  refine with_tabW btmTab btmBits (fun HT_ HW_ => ?_)
  generalize World.drew _ = w5 at HB BK HF hHeld ⊢
  refine pure_ (i := 0) (N := (some 27)) (v := ?_) (a' := ?_) #[true, false, false, false, false, false, false, false, false, false, false, false, false] rfl rfl (any_of HT_.out (by kernel_rfl)) (fun _ _ _ h => h) (Or.inl ⟨by rfl, ?_⟩) ?_ ?_
  rotate_left
  · intro w'
    go_simp
    with_reducible rfl
  rotate_left
  · simp only [Act.put, List.setIfInBounds_toArray, List.set_cons_zero, List.set_cons_succ, i64_w, i32_w]
    rfl
  refine pure_ (i := 1) (N := (some 28)) (v := ?_) (a' := ?_) #[true, true, false, false, false, false, false, false, false, false, false, false, false] rfl rfl (any_of HT_.out (by kernel_rfl)) (fun _ _ _ h => h) (Or.inl ⟨by rfl, ?_⟩) ?_ ?_
  rotate_left
  · intro w'
    go_simp
    with_reducible rfl
  rotate_left
  · simp only [Act.put, List.setIfInBounds_toArray, List.set_cons_zero, List.set_cons_succ, i64_w, i32_w]
    rfl
  refine pure_ (i := 2) (N := (some 29)) (v := ?_) (a' := ?_) #[true, true, true, false, false, false, false, false, false, false, false, false, false] rfl rfl (any_of HT_.out (by kernel_rfl)) (fun _ _ _ h => h) (Or.inl ⟨by rfl, ?_⟩) ?_ ?_
  rotate_left
  · intro w'
    go_simp
    with_reducible rfl
  rotate_left
  · simp only [Act.put, List.setIfInBounds_toArray, List.set_cons_zero, List.set_cons_succ, i64_w, i32_w]
    rfl
  refine take_ (i := 3) (N := (some 30)) (v := ?_) (a' := ?_) #[true, true, true, true, false, false, false, false, false, false, false, false, false] rfl rfl (take_ofW HT_.out HW_.out (by kernel_rfl)) (fun _ _ _ h => h) (Or.inl ⟨by rfl, ?_⟩) hHeld ?_ ?_
  rotate_left
  · rintro w' ⟨s0, s1, s2⟩
    go_simp
    with_reducible rfl
  rotate_left
  · simp only [Act.put, List.setIfInBounds_toArray, List.set_cons_zero, List.set_cons_succ, i64_w, i32_w]
    rfl
  refine pure_ (i := 4) (N := (some 31)) (v := ?_) (a' := ?_) #[true, true, true, true, true, false, false, false, false, false, false, false, false] rfl rfl (any_of HT_.out (by kernel_rfl)) (fun _ _ _ h => h) (Or.inl ⟨by rfl, ?_⟩) ?_ ?_
  rotate_left
  · intro w'
    go_simp
    with_reducible rfl
  rotate_left
  · simp only [Act.put, List.setIfInBounds_toArray, List.set_cons_zero, List.set_cons_succ, i64_w, i32_w]
    rfl
  refine take_ (i := 5) (N := (some 32)) (v := ?_) (a' := ?_) #[true, true, true, true, true, true, false, false, false, false, false, false, false] rfl rfl (take_ofW HT_.out HW_.out (by kernel_rfl)) (fun _ _ _ h => h) (Or.inl ⟨by rfl, ?_⟩) hHeld ?_ ?_
  rotate_left
  · rintro w' ⟨s0, s1, s2⟩
    go_simp
    with_reducible rfl
  rotate_left
  · simp only [Act.put, List.setIfInBounds_toArray, List.set_cons_zero, List.set_cons_succ, i64_w, i32_w]
    rfl
  refine pure_ (i := 6) (N := (some 33)) (v := ?_) (a' := ?_) #[true, true, true, true, true, true, true, false, false, false, false, false, false] rfl rfl (any_of HT_.out (by kernel_rfl)) (fun _ _ _ h => h) (Or.inl ⟨by rfl, ?_⟩) ?_ ?_
  rotate_left
  · intro w'
    go_simp
    with_reducible rfl
  rotate_left
  · simp only [Act.put, List.setIfInBounds_toArray, List.set_cons_zero, List.set_cons_succ, i64_w, i32_w]
    rfl
  refine pure_ (i := 7) (N := (some 34)) (v := ?_) (a' := ?_) #[true, true, true, true, true, true, true, true, false, false, false, false, false] rfl rfl (any_of HT_.out (by kernel_rfl)) (fun _ _ _ h => h) (Or.inl ⟨by rfl, ?_⟩) ?_ ?_
  rotate_left
  · intro w'
    go_simp
    with_reducible rfl
  rotate_left
  · simp only [Act.put, List.setIfInBounds_toArray, List.set_cons_zero, List.set_cons_succ, i64_w, i32_w]
    rfl
  refine pure_ (i := 8) (N := (some 35)) (v := ?_) (a' := ?_) #[true, true, true, true, true, true, true, true, true, false, false, false, false] rfl rfl (any_of HT_.out (by kernel_rfl)) (fun _ _ _ h => h) (Or.inl ⟨by rfl, ?_⟩) ?_ ?_
  rotate_left
  · intro w'
    go_simp
    with_reducible rfl
  rotate_left
  · simp only [Act.put, List.setIfInBounds_toArray, List.set_cons_zero, List.set_cons_succ, i64_w, i32_w]
    rfl
  refine pure_ (i := 9) (N := (some 36)) (v := ?_) (a' := ?_) #[true, true, true, true, true, true, true, true, true, true, false, false, false] rfl rfl (any_of HT_.out (by kernel_rfl)) (fun _ _ _ h => h) (Or.inl ⟨by rfl, ?_⟩) ?_ ?_
  rotate_left
  · intro w'
    go_simp
    with_reducible rfl
  rotate_left
  · simp only [Act.put, List.setIfInBounds_toArray, List.set_cons_zero, List.set_cons_succ, i64_w, i32_w]
    rfl
  refine take_ (i := 10) (N := (some 37)) (v := ?_) (a' := ?_) #[true, true, true, true, true, true, true, true, true, true, true, false, false] rfl rfl (take_ofW HT_.out HW_.out (by kernel_rfl)) (fun _ _ _ h => h) (Or.inl ⟨by rfl, ?_⟩) hHeld ?_ ?_
  rotate_left
  · rintro w' ⟨s0, s1, s2⟩
    go_simp
    with_reducible rfl
  rotate_left
  · simp only [Act.put, List.setIfInBounds_toArray, List.set_cons_zero, List.set_cons_succ, i64_w, i32_w]
    rfl
  refine pure_ (i := 11) (N := (some 38)) (v := ?_) (a' := ?_) #[true, true, true, true, true, true, true, true, true, true, true, true, false] rfl rfl (any_of HT_.out (by kernel_rfl)) (fun _ _ _ h => h) (Or.inl ⟨by rfl, ?_⟩) ?_ ?_
  rotate_left
  · intro w'
    go_simp
    with_reducible rfl
  rotate_left
  · simp only [Act.put, List.setIfInBounds_toArray, List.set_cons_zero, List.set_cons_succ, i64_w, i32_w]
    rfl
  refine last_ (i := 12) (N := none) #[true, true, true, true, true, true, true, true, true, true, true, true, true] rfl rfl (one_of HT_.out (by kernel_rfl)) (by decide) (fun K hK => ?_)
  obtain ⟨nn, ff, cc, hmp, hff, hnn⟩ := HB.out.mt_
  obtain ⟨w6, hrun_, hm6, hg6⟩ := msi_upd hmp (by have := HL.out; omega) t.s HSZ.out (N : Int) HNW.out 85 Tryd.underlying85
  refine skip_ (by rfl) rfl (w1 := w6) ?hrun ?_; (case hrun => first | (go_simp; done) | (go_simp; rfl))
  have n1_ := Aside0.mk (HB.out.mapT hm6 (HPL.out ff hff) (tm' := u.ts ++ [t.s]) (by rw [List.length_append]; exact Nat.succ_le_succ hnn) hg6)
  have n3_ := Aside0.mk (HF.out.map hg6)
  clear HB HF BK hmp hff hnn hm6 hg6 hrun_
  have HB := n1_
  have HF := n3_
  clear n1_ n3_
  refine hK.out _ _ ?_
  clear hK K
  refine done_ (done_of HT_.out (by kernel_rfl)) ?_
  go_wp2
  (first | go_end0 | refine bodyPost_ret (results_none rfl _ _ _) rfl ?_)
  rw [HR.out]
  exact ⟨rfl, _, HB.out, HF.out⟩
theorem b_term {W1 w : World} {b m : Nat} {x : Hd} {rs : List Ru} {B mt mn : Nat} {vT vN vS : Value} {u : Bu} (h : BS W1 w b m x rs B mt mn vT vN vS u u.ts u.ns) (t : Tk) (hsz : t.s.size ≤ 10000) (hu : u.ts.length ≤ 100000) (hp : placeS u.ts t.s = -1) :
    Calls Tryd.prog 106 #[.pointer (some ⟨B, 0, none⟩), tkV t] w (TermEnd W1 w b m x rs B mt mn vT vN vS u (termB t u.ts)) := by
  by_cases hl : 120 ≤ u.ts.length
  · exact b_term_full h t hsz hl hu
  · exact b_term_new h t hsz (by omega) hp
end Go.Proofs.YtliofoikejdjeaaDoor
