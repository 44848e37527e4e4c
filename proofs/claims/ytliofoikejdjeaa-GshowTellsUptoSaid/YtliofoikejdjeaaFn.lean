/- Function values that answer a bool; slices.IndexFunc, ContainsFunc and gram.all over them. -/
import Derived.Test.YtliofoikejdjeaaBase
namespace Go.Proofs.Ytliofoikejdjeaa
open Go.RowKit Go.Proofs.YtliofoikejdjeaaW.PrintWords
set_option linter.unusedVariables false
set_option linter.unusedSimpArgs false

/-- A function value that tells p of every x that lies in memory as V says; it turns nothing. -/
def PredV {α : Type} (w : World) (fv : Value) (V : World → α → Value → Prop) (p : α → Bool) : Prop :=
  ∃ g lb, fv = .func (.func g) #[] lb ∧ (∀ args W, (callFunc g args).run Try.prog W = .ok (.enter g args) W) ∧
    ∀ W x v, Below w.heap.size w W → V W x v → Calls Try.prog g (#[v] ++ lb) W fun e w' => e = .returned (.bool (p x)) ∧ Below W.heap.size W w'
theorem PredV.below {α : Type} {w w1 : World} {fv : Value} {V : World → α → Value → Prop} {p : α → Bool} (h : PredV w fv V p) (hb : Below w.heap.size w w1) : PredV w1 fv V p := by
  obtain ⟨g, lb, e, he, hc⟩ := h
  exact ⟨g, lb, e, he, fun W x v hW hV => hc W x v (hb.trans (hW.mono hb.size)) hV⟩
def idxF {α : Type} (p : α → Bool) (xs : List α) : Int := match xs.findIdx? p with | some i => i | none => -1
theorem idxF_hit {α : Type} [Inhabited α] {p : α → Bool} {xs : List α} {k : Nat} (hk : k < xs.length) (h1 : p (xs.getD k default) = true) (h2 : ∀ j, j < k → p (xs.getD j default) = false) : idxF p xs = k := by
  unfold idxF
  have : xs.findIdx? p = some k := by
    rw [List.findIdx?_eq_some_iff_getElem]
    refine ⟨hk, ?_, fun j hj => ?_⟩
    · simpa [List.getD_eq_getElem?_getD, hk] using h1
    · have := h2 j hj
      simpa [List.getD_eq_getElem?_getD, show j < xs.length by omega] using this
  rw [this]
theorem idxF_miss {α : Type} [Inhabited α] {p : α → Bool} {xs : List α} (h2 : ∀ j, j < xs.length → p (xs.getD j default) = false) : idxF p xs = -1 := by
  unfold idxF
  have : xs.findIdx? p = none := by
    rw [List.findIdx?_eq_none_iff]
    intro x hx
    obtain ⟨j, hj, rfl⟩ := List.mem_iff_getElem.1 hx
    have := h2 j hj
    simpa [List.getD_eq_getElem?_getD, hj] using this
  rw [this]
theorem idxF_any {α : Type} (p : α → Bool) (xs : List α) : decide (0 ≤ idxF p xs) = xs.any p := by
  unfold idxF
  cases h : xs.findIdx? p with
  | none =>
    rw [List.findIdx?_eq_none_iff] at h
    simpa using h
  | some i =>
    obtain ⟨h1, h2, _⟩ := List.findIdx?_eq_some_iff_getElem.1 h
    have : xs.any p = true := List.any_eq_true.2 ⟨_, List.getElem_mem h1, h2⟩
    simp [this]
def Vstr (_ : World) (x : ByteArray) (v : Value) : Prop := v = .string x
def Vint (_ : World) (x : Int) (v : Value) : Prop := v = .int .i64 x
def Vrl (w : World) (x : Rl) (v : Value) : Prop := ∃ A c, v = .agg #[.int .i64 x.left, .slice A x.right.length c] ∧ x.right.length ≤ c ∧ (Kd.int .i64).C w A x.right.length x.right

theorem getD_mem {α : Type} [Inhabited α] {xs : List α} {k : Nat} (h : k < xs.length) : xs.getD k default ∈ xs := by
  rw [List.getD_eq_getElem?_getD, List.getElem?_eq_getElem h]
  exact List.getElem_mem h
section
variable {w : World} {A : Option Addr} {c : Nat} {fv : Value}
set_option maxHeartbeats 1000000 in
theorem idx_str {xs : List ByteArray} {p : ByteArray → Bool} (hr : Kd.C Kd.string w A xs.length xs) (hm : xs.length ≤ 9223372036854775807) (hp : PredV w fv (fun W x v => Vstr W x v ∧ x ∈ xs) p) :
    Calls Try.prog 69 #[.slice A xs.length c, fv] w fun e w' => e = .returned (.int .i64 (idxF p xs)) ∧ Below w.heap.size w w' := by
  obtain ⟨g, lb, rfl, eg, hp⟩ := hp
  have HR := Aside0.mk hr
  clear hr
  go_enter Try.func69, Try.ntmps69
  go_wp2
  go_loopg [5, 8] xs.length (fun gg _ s8 wr => ∃ kk : Nat, kk ≤ xs.length ∧ xs.length - kk ≤ gg ∧ s8 = .int .i64 kk ∧ Aside0 (Below w.heap.size w wr) ∧ Aside0 (∀ j, j < kk → p (xs.getD j default) = false))
  case atStart => exact ⟨0, Nat.zero_le _, by omega, rfl, ⟨Below.refl _ w⟩, ⟨fun j hj => absurd hj (Nat.not_lt_zero _)⟩⟩
  case round =>
    obtain ⟨kk, hkk, hg, rfl, BW, AF⟩ := hrel
    by_cases hlt : kk < xs.length
    · have hltz : (kk : Int) < (xs.length : Int) := by omega
      obtain ⟨ad, rfl, l2⟩ := at_str (Kd.C_below HR.out BW.out) kk hlt
      have hcall := hp wr (xs.getD kk default) _ BW.out ⟨rfl, getD_mem hlt⟩
      clear hp
      obtain ⟨y, hy⟩ : ∃ y, xs.getD kk default = y := ⟨_, rfl⟩
      rw [hy] at l2 hcall
      have HY := Aside0.mk hy
      clear hy
      cases hq : p y with
      | true =>
        have HQ : Aside0 (p (xs.getD kk default) = _) := ⟨(congrArg p HY.out).trans hq⟩
        rw [hq] at hcall
        clear hq
        go_wp2_with (go_at_fn g; refine hcall.mono ?_; rintro e w' ⟨rfl, hb'⟩)
        go_ret
        exact ⟨rint (idxF_hit hlt HQ.out AF.out).symm, BW.out.trans (hb'.mono BW.out.size)⟩
      | false =>
        have HQ : Aside0 (p (xs.getD kk default) = _) := ⟨(congrArg p HY.out).trans hq⟩
        rw [hq] at hcall
        clear hq
        go_wp2_with (go_at_fn g; refine hcall.mono ?_; rintro e w' ⟨rfl, hb'⟩)
        go_roundg (xs.length - (kk + 1))
        case measure => omega
        case rel =>
          refine ⟨kk + 1, by omega, by omega, by go_num, ⟨BW.out.trans (hb'.mono BW.out.size)⟩, ⟨fun j hj => ?_⟩⟩
          by_cases e : j = kk
          · subst e
            exact HQ.out
          · exact AF.out j (by omega)
    · have hltz : ¬ (kk : Int) < (xs.length : Int) := by omega
      have : kk = xs.length := by omega
      subst this
      go_wp2
      go_ret
      exact ⟨rint (idxF_miss AF.out).symm, BW.out⟩
theorem contains_str {xs : List ByteArray} {p : ByteArray → Bool} (hr : Kd.C Kd.string w A xs.length xs) (hm : xs.length ≤ 9223372036854775807) (hp : PredV w fv (fun W x v => Vstr W x v ∧ x ∈ xs) p) :
    Calls Try.prog 51 #[.slice A xs.length c, fv] w fun e w' => e = .returned (.bool (xs.any p)) ∧ Below w.heap.size w w' := by
  have hi := idx_str (c := c) hr hm hp
  rw [← idxF_any]
  clear hr hp
  generalize idxF p xs = i at *
  go_enter Try.func51, Try.ntmps51
  go_wp2_with (go_at_call 69; refine hi.mono ?_; rintro e w' ⟨rfl, hb⟩)
  go_ret
  exact ⟨rfl, hb⟩
theorem all_str {xs : List ByteArray} {p : ByteArray → Bool} (hr : Kd.C Kd.string w A xs.length xs) (hm : xs.length ≤ 9223372036854775807) (hp : PredV w fv (fun W x v => Vstr W x v ∧ x ∈ xs) p) :
    Calls Try.prog 23 #[.slice A xs.length c, fv] w fun e w' => e = .returned (.bool (xs.all p)) ∧ Below w.heap.size w w' := by
  obtain ⟨gf, lf, rfl, _⟩ := id hp
  have hb0 : Below w.heap.size w (w.alloc (.cells #[.func (.func gf) #[] lf] 50)) := (Below.refl _ _).alloc (Nat.le_refl _) _
  have hP : PredV (w.alloc (.cells #[.func (.func gf) #[] lf] 50)) (.func (.func 52) #[] #[.pointer (some ⟨w.heap.size, 0, none⟩)]) (fun W x v => Vstr W x v ∧ x ∈ xs) (fun x => !p x) := by
    refine ⟨_, _, rfl, fun _ _ => rfl, fun W x v hW hVM => ?_⟩
    obtain ⟨hV, hMem⟩ := hVM
    obtain ⟨g, lb, hfe, eg, hp⟩ := hp.below (hb0.trans (hW.mono hb0.size))
    rw [hfe] at hW
    have hbox : W.cell? ⟨w.heap.size, 0, none⟩ = some (.func (.func g) #[] lb) := (hW.cell (p := ⟨w.heap.size, 0, none⟩) (by simp)).trans (by simp)
    clear hfe
    have hcall := hp W x v (Below.refl _ _) ⟨hV, hMem⟩
    clear hW hp hb0 hr
    show Calls _ _ #[v, _] _ fun e w' => e = .returned (.bool (!p x)) ∧ _
    generalize p x = b at hcall ⊢
    go_enter Try.func52, Try.ntmps52
    go_wp2_with (go_at_fn g; refine hcall.mono ?_; rintro e w' ⟨rfl, hb'⟩)
    go_ret
    exact ⟨rfl, hb'⟩
  have hc := contains_str (c := c) (Kd.C_below hr hb0) hm hP
  clear hP hp hr
  rw [show xs.all p = !xs.any (fun x => !p x) by rw [List.not_any_eq_all_not]; simp]
  generalize xs.any (fun x => !p x) = b at *
  go_enter Try.func23, Try.ntmps23
  go_wp2_with (go_at_call 51; refine hc.mono ?_; rintro e w' ⟨rfl, hb⟩)
  go_ret
  exact ⟨rfl, below_new hb⟩
set_option maxHeartbeats 1000000 in
theorem idx_int {xs : List Int} {p : Int → Bool} (hr : Kd.C (Kd.int .i64) w A xs.length xs) (hm : xs.length ≤ 9223372036854775807) (hp : PredV w fv (fun W x v => Vint W x v ∧ x ∈ xs) p) :
    Calls Try.prog 85 #[.slice A xs.length c, fv] w fun e w' => e = .returned (.int .i64 (idxF p xs)) ∧ Below w.heap.size w w' := by
  obtain ⟨g, lb, rfl, eg, hp⟩ := hp
  have HR := Aside0.mk hr
  clear hr
  go_enter Try.func85, Try.ntmps85
  go_wp2
  go_loopg [5, 8] xs.length (fun gg _ s8 wr => ∃ kk : Nat, kk ≤ xs.length ∧ xs.length - kk ≤ gg ∧ s8 = .int .i64 kk ∧ Aside0 (Below w.heap.size w wr) ∧ Aside0 (∀ j, j < kk → p (xs.getD j default) = false))
  case atStart => exact ⟨0, Nat.zero_le _, by omega, rfl, ⟨Below.refl _ w⟩, ⟨fun j hj => absurd hj (Nat.not_lt_zero _)⟩⟩
  case round =>
    obtain ⟨kk, hkk, hg, rfl, BW, AF⟩ := hrel
    by_cases hlt : kk < xs.length
    · have hltz : (kk : Int) < (xs.length : Int) := by omega
      obtain ⟨ad, rfl, l2⟩ := at_int (Kd.C_below HR.out BW.out) kk hlt
      have hcall := hp wr (xs.getD kk default) _ BW.out ⟨rfl, getD_mem hlt⟩
      clear hp
      obtain ⟨y, hy⟩ : ∃ y, xs.getD kk default = y := ⟨_, rfl⟩
      rw [hy] at l2 hcall
      have HY := Aside0.mk hy
      clear hy
      cases hq : p y with
      | true =>
        have HQ : Aside0 (p (xs.getD kk default) = _) := ⟨(congrArg p HY.out).trans hq⟩
        rw [hq] at hcall
        clear hq
        go_wp2_with (go_at_fn g; refine hcall.mono ?_; rintro e w' ⟨rfl, hb'⟩)
        go_ret
        exact ⟨rint (idxF_hit hlt HQ.out AF.out).symm, BW.out.trans (hb'.mono BW.out.size)⟩
      | false =>
        have HQ : Aside0 (p (xs.getD kk default) = _) := ⟨(congrArg p HY.out).trans hq⟩
        rw [hq] at hcall
        clear hq
        go_wp2_with (go_at_fn g; refine hcall.mono ?_; rintro e w' ⟨rfl, hb'⟩)
        go_roundg (xs.length - (kk + 1))
        case measure => omega
        case rel =>
          refine ⟨kk + 1, by omega, by omega, by go_num, ⟨BW.out.trans (hb'.mono BW.out.size)⟩, ⟨fun j hj => ?_⟩⟩
          by_cases e : j = kk
          · subst e
            exact HQ.out
          · exact AF.out j (by omega)
    · have hltz : ¬ (kk : Int) < (xs.length : Int) := by omega
      have : kk = xs.length := by omega
      subst this
      go_wp2
      go_ret
      exact ⟨rint (idxF_miss AF.out).symm, BW.out⟩
theorem contains_int {xs : List Int} {p : Int → Bool} (hr : Kd.C (Kd.int .i64) w A xs.length xs) (hm : xs.length ≤ 9223372036854775807) (hp : PredV w fv (fun W x v => Vint W x v ∧ x ∈ xs) p) :
    Calls Try.prog 78 #[.slice A xs.length c, fv] w fun e w' => e = .returned (.bool (xs.any p)) ∧ Below w.heap.size w w' := by
  have hi := idx_int (c := c) hr hm hp
  rw [← idxF_any]
  clear hr hp
  generalize idxF p xs = i at *
  go_enter Try.func78, Try.ntmps78
  go_wp2_with (go_at_call 85; refine hi.mono ?_; rintro e w' ⟨rfl, hb⟩)
  go_ret
  exact ⟨rfl, hb⟩
theorem all_int {xs : List Int} {p : Int → Bool} (hr : Kd.C (Kd.int .i64) w A xs.length xs) (hm : xs.length ≤ 9223372036854775807) (hp : PredV w fv (fun W x v => Vint W x v ∧ x ∈ xs) p) :
    Calls Try.prog 56 #[.slice A xs.length c, fv] w fun e w' => e = .returned (.bool (xs.all p)) ∧ Below w.heap.size w w' := by
  obtain ⟨gf, lf, rfl, _⟩ := id hp
  have hb0 : Below w.heap.size w (w.alloc (.cells #[.func (.func gf) #[] lf] 65)) := (Below.refl _ _).alloc (Nat.le_refl _) _
  have hP : PredV (w.alloc (.cells #[.func (.func gf) #[] lf] 65)) (.func (.func 79) #[] #[.pointer (some ⟨w.heap.size, 0, none⟩)]) (fun W x v => Vint W x v ∧ x ∈ xs) (fun x => !p x) := by
    refine ⟨_, _, rfl, fun _ _ => rfl, fun W x v hW hVM => ?_⟩
    obtain ⟨hV, hMem⟩ := hVM
    obtain ⟨g, lb, hfe, eg, hp⟩ := hp.below (hb0.trans (hW.mono hb0.size))
    rw [hfe] at hW
    have hbox : W.cell? ⟨w.heap.size, 0, none⟩ = some (.func (.func g) #[] lb) := (hW.cell (p := ⟨w.heap.size, 0, none⟩) (by simp)).trans (by simp)
    clear hfe
    have hcall := hp W x v (Below.refl _ _) ⟨hV, hMem⟩
    clear hW hp hb0 hr
    show Calls _ _ #[v, _] _ fun e w' => e = .returned (.bool (!p x)) ∧ _
    generalize p x = b at hcall ⊢
    go_enter Try.func79, Try.ntmps79
    go_wp2_with (go_at_fn g; refine hcall.mono ?_; rintro e w' ⟨rfl, hb'⟩)
    go_ret
    exact ⟨rfl, hb'⟩
  have hc := contains_int (c := c) (Kd.C_below hr hb0) hm hP
  clear hP hp hr
  rw [show xs.all p = !xs.any (fun x => !p x) by rw [List.not_any_eq_all_not]; simp]
  generalize xs.any (fun x => !p x) = b at *
  go_enter Try.func56, Try.ntmps56
  go_wp2_with (go_at_call 78; refine hc.mono ?_; rintro e w' ⟨rfl, hb⟩)
  go_ret
  exact ⟨rfl, below_new hb⟩
set_option maxHeartbeats 1000000 in
theorem idx_rl {xs : List Rl} {p : Rl → Bool} (hr : Kd.C kRl w A xs.length xs) (hm : xs.length ≤ 9223372036854775807) (hp : PredV w fv (fun W x v => Vrl W x v ∧ x ∈ xs) p) :
    Calls Try.prog 35 #[.slice A xs.length c, fv] w fun e w' => e = .returned (.int .i64 (idxF p xs)) ∧ Below w.heap.size w w' := by
  obtain ⟨g, lb, rfl, eg, hp⟩ := hp
  have HR := Aside0.mk hr
  clear hr
  go_enter Try.func35, Try.ntmps35
  go_wp2
  go_loopg [5, 8] xs.length (fun gg _ s8 wr => ∃ kk : Nat, kk ≤ xs.length ∧ xs.length - kk ≤ gg ∧ s8 = .int .i64 kk ∧ Aside0 (Below w.heap.size w wr) ∧ Aside0 (∀ j, j < kk → p (xs.getD j default) = false))
  case atStart => exact ⟨0, Nat.zero_le _, by omega, rfl, ⟨Below.refl _ w⟩, ⟨fun j hj => absurd hj (Nat.not_lt_zero _)⟩⟩
  case round =>
    obtain ⟨kk, hkk, hg, rfl, BW, AF⟩ := hrel
    by_cases hlt : kk < xs.length
    · have hltz : (kk : Int) < (xs.length : Int) := by omega
      obtain ⟨ad, A1, c1, rfl, l2, l3, l4, l5⟩ := at_rl (Kd.C_below HR.out BW.out) kk hlt
      have hcall := hp wr (xs.getD kk default) _ BW.out ⟨⟨A1, c1, rfl, l4, l5⟩, getD_mem hlt⟩
      clear hp
      obtain ⟨y, hy⟩ : ∃ y, xs.getD kk default = y := ⟨_, rfl⟩
      rw [hy] at l2 l3 hcall
      have HY := Aside0.mk hy
      clear hy
      cases hq : p y with
      | true =>
        have HQ : Aside0 (p (xs.getD kk default) = _) := ⟨(congrArg p HY.out).trans hq⟩
        rw [hq] at hcall
        clear hq
        go_wp2_with (go_at_fn g; refine hcall.mono ?_; rintro e w' ⟨rfl, hb'⟩)
        go_ret
        exact ⟨rint (idxF_hit hlt HQ.out AF.out).symm, BW.out.trans (hb'.mono BW.out.size)⟩
      | false =>
        have HQ : Aside0 (p (xs.getD kk default) = _) := ⟨(congrArg p HY.out).trans hq⟩
        rw [hq] at hcall
        clear hq
        go_wp2_with (go_at_fn g; refine hcall.mono ?_; rintro e w' ⟨rfl, hb'⟩)
        go_roundg (xs.length - (kk + 1))
        case measure => omega
        case rel =>
          refine ⟨kk + 1, by omega, by omega, by go_num, ⟨BW.out.trans (hb'.mono BW.out.size)⟩, ⟨fun j hj => ?_⟩⟩
          by_cases e : j = kk
          · subst e
            exact HQ.out
          · exact AF.out j (by omega)
    · have hltz : ¬ (kk : Int) < (xs.length : Int) := by omega
      have : kk = xs.length := by omega
      subst this
      go_wp2
      go_ret
      exact ⟨rint (idxF_miss AF.out).symm, BW.out⟩
theorem contains_rl {xs : List Rl} {p : Rl → Bool} (hr : Kd.C kRl w A xs.length xs) (hm : xs.length ≤ 9223372036854775807) (hp : PredV w fv (fun W x v => Vrl W x v ∧ x ∈ xs) p) :
    Calls Try.prog 49 #[.slice A xs.length c, fv] w fun e w' => e = .returned (.bool (xs.any p)) ∧ Below w.heap.size w w' := by
  have hi := idx_rl (c := c) hr hm hp
  rw [← idxF_any]
  clear hr hp
  generalize idxF p xs = i at *
  go_enter Try.func49, Try.ntmps49
  go_wp2_with (go_at_call 35; refine hi.mono ?_; rintro e w' ⟨rfl, hb⟩)
  go_ret
  exact ⟨rfl, hb⟩
theorem all_rl {xs : List Rl} {p : Rl → Bool} (hr : Kd.C kRl w A xs.length xs) (hm : xs.length ≤ 9223372036854775807) (hp : PredV w fv (fun W x v => Vrl W x v ∧ x ∈ xs) p) :
    Calls Try.prog 22 #[.slice A xs.length c, fv] w fun e w' => e = .returned (.bool (xs.all p)) ∧ Below w.heap.size w w' := by
  obtain ⟨gf, lf, rfl, _⟩ := id hp
  have hb0 : Below w.heap.size w (w.alloc (.cells #[.func (.func gf) #[] lf] 47)) := (Below.refl _ _).alloc (Nat.le_refl _) _
  have hP : PredV (w.alloc (.cells #[.func (.func gf) #[] lf] 47)) (.func (.func 50) #[] #[.pointer (some ⟨w.heap.size, 0, none⟩)]) (fun W x v => Vrl W x v ∧ x ∈ xs) (fun x => !p x) := by
    refine ⟨_, _, rfl, fun _ _ => rfl, fun W x v hW hVM => ?_⟩
    obtain ⟨hV, hMem⟩ := hVM
    obtain ⟨g, lb, hfe, eg, hp⟩ := hp.below (hb0.trans (hW.mono hb0.size))
    rw [hfe] at hW
    have hbox : W.cell? ⟨w.heap.size, 0, none⟩ = some (.func (.func g) #[] lb) := (hW.cell (p := ⟨w.heap.size, 0, none⟩) (by simp)).trans (by simp)
    clear hfe
    obtain ⟨Ar, cr, rfl, hl, hC⟩ := hV
    have hw1 := (Below.refl W.heap.size W).alloc (Nat.le_refl _) (.cells #[.int .i64 x.left, .slice Ar x.right.length cr] 28)
    have hcall := hp _ x _ hw1 ⟨⟨Ar, cr, rfl, hl, Kd.C_below hC hw1⟩, hMem⟩
    have hbox := (hw1.cell (p := ⟨w.heap.size, 0, none⟩) (by have := hW.size; simp at this; simp; omega)).trans hbox
    clear hC hw1
    clear hW hp hb0 hr
    show Calls _ _ #[.agg #[.int .i64 x.left, .slice Ar x.right.length cr], _] _ fun e w' => e = .returned (.bool (!p x)) ∧ _
    generalize p x = b at hcall ⊢
    go_enter Try.func50, Try.ntmps50
    go_wp2_with (go_at_fn g; refine hcall.mono ?_; rintro e w' ⟨rfl, hb'⟩)
    go_ret
    exact ⟨rfl, below_new hb'⟩
  have hc := contains_rl (c := c) (Kd.C_below hr hb0) hm hP
  clear hP hp hr
  rw [show xs.all p = !xs.any (fun x => !p x) by rw [List.not_any_eq_all_not]; simp]
  generalize xs.any (fun x => !p x) = b at *
  go_enter Try.func22, Try.ntmps22
  go_wp2_with (go_at_call 49; refine hc.mono ?_; rintro e w' ⟨rfl, hb⟩)
  go_ret
  exact ⟨rfl, below_new hb⟩
end
end Go.Proofs.Ytliofoikejdjeaa
