/- Texts laid one behind the other: Q2, Shelf, T1, T2, T3, T4, T5, R1. -/
import Derived.Test.YtliofoikejdjeaaGreatV4
import Derived.Shelf.Strings.Builder1
import Derived.Shelf.Small.Strs
import Derived.Shelf.Strings.Search1
import Derived.Shelf.Strings.Search2
import Derived.Shelf.Strings.Search3
import Derived.Shelf.LaysM
import Derived.Shelf.Strings.Shaped
import Derived.Shelf.Strings.Prefix
import Derived.Shelf.Slices.Turned
import Derived.Shelf.Slices.Equal
import Derived.Ground.Names2Prog
import Derived.Shelf.Slices.SearchI
import Derived.Shelf.Slices.Empties2
import Derived.Test.YtliofoikejdjeaaGreatProg
import Derived.Lib.IndexLaws
import Derived.Test.YtliofoikejdjeaaGreatV2
/- A shown grammar's tokens (plain). -/
namespace Go.Proofs.YtliofoikejdjeaaGreat
open Go.RowKit Go.Proofs.YtliofoikejdjeaaGreatW.PrintWords
set_option linter.unusedVariables false
set_option linter.unusedSimpArgs false
/-- Names, a blank ahead of each. -/
def bl (l : List ByteArray) : List UInt8 := l.flatMap fun x => 32 :: x.data.toList
theorem app_list (x y : ByteArray) : (x ++ y).data.toList = x.data.toList ++ y.data.toList := by
  rw [ByteArray.data_append, Array.toList_append]
theorem blanks_list (l : List ByteArray) : (blanksB l).data.toList = bl l := by
  have h : ∀ (l : List ByteArray) (s : ByteArray), (l.foldl (fun s x => s ++ ⟨#[32]⟩ ++ x) s).data.toList = s.data.toList ++ bl l := by
    intro l
    induction l with
    | nil => intro s; simp [bl]
    | cons x l ih =>
      intro s
      rw [List.foldl_cons, ih, app_list, app_list]
      simp [bl]
  have := h l ⟨#[]⟩
  simpa [blanksB] using this
def kindS (x : ByteArray) : Int := if byteN x 0 = 39 then 2 else 1
def sig (t : Tk) : Int × ByteArray := (t.k, t.s)
theorem plain_name {x : ByteArray} (h : plainOk x = true) : nameOk x = true ∧ x.size ≤ 24 := by
  unfold plainOk at h
  simp only [Bool.and_eq_true, decide_eq_true_eq] at h
  exact ⟨h.2, h.1⟩
theorem byte_zero {x : ByteArray} {c : UInt8} {r : List UInt8} (h : x.data.toList = c :: r) : byteN x 0 = c.toNat := by
  have hA : At x 0 (c :: r) := ⟨Nat.zero_le _, by rw [List.drop_zero, h]⟩
  exact hA.byte
theorem plain_kind {x : ByteArray} (h : plainOk x = true) : kindS x = 1 := by
  obtain ⟨c, r, e, hc, _⟩ := name_bytes (plain_name h).1
  unfold kindS
  rw [byte_zero e, if_neg (name_head c hc).2.2.1]
theorem quoted_facts {x : ByteArray} (h : isQuoted x = true) : 0 < x.size ∧ byteN x 0 = 39 ∧ (quotedS x 0).2.1 = 0 ∧ (quotedS x 0).1 = x.size := by
  unfold isQuoted at h
  simp only [Bool.and_eq_true, decide_eq_true_eq] at h
  exact ⟨h.1.1.1, h.1.1.2, h.1.2, h.2⟩
theorem head_white {x : ByteArray} (h : termOk x = true) (u : List UInt8) : (x.data.toList ++ u).takeWhile whiteB = [] := by
  unfold termOk at h
  by_cases hp : plainOk x = true
  · obtain ⟨c, r, e, hc, _⟩ := name_bytes (plain_name hp).1
    rw [e, List.cons_append, List.takeWhile_cons, (name_head c hc).1]
    rfl
  · have hq : isQuoted x = true := by simpa [hp] using h
    obtain ⟨h1, h2, _⟩ := quoted_facts hq
    cases e : x.data.toList with
    | nil => have := data_length x; rw [e] at this; simp at this; omega
    | cons c r =>
      have hb := byte_zero e
      rw [h2] at hb
      have hw : whiteB c = false := by unfold whiteB; rw [← hb]; decide
      rw [List.cons_append, List.takeWhile_cons, hw]
      rfl
section
variable {s : ByteArray} {a : Nat} {u : List UInt8} {l : List Tk}
theorem Toks.sym {x : ByteArray} (h : At s a (x.data.toList ++ u)) (hx : termOk x = true) (h2 : u.takeWhile letterB = []) (hr : Toks s (a + x.size) l) : Toks s a (⟨kindS x, x, a⟩ :: l) := by
  by_cases hp : plainOk x = true
  · rw [plain_kind hp]
    exact Toks.name h (plain_name hp).1 (plain_name hp).2 h2 hr
  · have hq : isQuoted x = true := by unfold termOk at hx; simpa [hp] using hx
    obtain ⟨q1, q2, q3, q4⟩ := quoted_facts hq
    rw [show kindS x = 2 from by unfold kindS; rw [if_pos q2]]
    exact Toks.quoted h q2 q3 q4 q1 hr
theorem bl_letter (ns : List ByteArray) (h : u.takeWhile letterB = []) : (bl ns ++ u).takeWhile letterB = [] := by
  cases ns with
  | nil => exact h
  | cons x ns =>
    show (32 :: _).takeWhile letterB = []
    rw [List.takeWhile_cons, show letterB 32 = false from by decide]
    rfl
theorem Toks.blanks : ∀ (ns : List ByteArray) {a : Nat}, At s a (bl ns ++ u) → (∀ x ∈ ns, termOk x = true) → u.takeWhile letterB = [] → Toks s (a + (bl ns).length) l → ∃ l', Toks s a (l' ++ l) ∧ l'.map sig = ns.map (fun x => (kindS x, x))
  | [], a, h, _, _, hr => ⟨[], hr, rfl⟩
  | x :: ns, a, h, hx, h2, hr => by
    have h0 : At s a ([32] ++ (x.data.toList ++ (bl ns ++ u))) := by
      have : bl (x :: ns) ++ u = [32] ++ (x.data.toList ++ (bl ns ++ u)) := by simp [bl]
      rwa [this] at h
    have h1 := h0.app
    have h3 := h1.app
    have hl : (bl (x :: ns)).length = 1 + x.size + (bl ns).length := by
      have : bl (x :: ns) = 32 :: (x.data.toList ++ bl ns) := by simp [bl]
      rw [this, List.length_cons, List.length_append, data_length]
      omega
    have hxl : x.data.toList.length = x.size := data_length x
    obtain ⟨l', ht, hm⟩ := Toks.blanks ns (a := a + [(32 : UInt8)].length + x.data.toList.length) h3 (fun y hy => hx y (List.mem_cons_of_mem _ hy)) h2 (by
      have e : a + [(32 : UInt8)].length + x.data.toList.length + (bl ns).length = a + (bl (x :: ns)).length := by rw [hl, hxl]; simp only [List.length_cons, List.length_nil]; omega
      rw [e]
      exact hr)
    have hxx := hx x (List.mem_cons_self ..)
    have k1 := Toks.sym h1 hxx (bl_letter ns h2) (by rw [hxl] at ht; exact ht)
    have k2 := Toks.white h0 (by simp) (by simp [whiteB]) (head_white hxx _) k1
    exact ⟨⟨kindS x, x, a + [(32 : UInt8)].length⟩ :: l', k2, by rw [List.map_cons, hm]; rfl⟩
end
/-! the rules -/
def Gm.rns (g : Gm) (k : Nat) : List ByteArray := (g.rules.getD k default).right.map g.nameOf
def Gm.sameL (g : Gm) (k : Nat) : Bool := decide (0 < k ∧ g.leftOf (k - 1) = g.leftOf k)
def pieceL (g : Gm) (k : Nat) : List UInt8 :=
  if g.sameL k then [10, 9] ++ ([124] ++ bl (g.rns k)) else (if 0 < k then [10, 9, 59, 10] else []) ++ ((g.nameOf (g.leftOf k)).data.toList ++ ([32, 58] ++ bl (g.rns k)))
def restL (g : Gm) : Nat → Nat → List UInt8
  | 0, _ => [10, 9, 59, 10]
  | m + 1, k => pieceL g k ++ restL g m (k + 1)
theorem piece_list (g : Gm) (k : Nat) : (g.pieceB k).data.toList = pieceL g k := by
  unfold Gm.pieceB pieceL Gm.sameL
  by_cases h : 0 < k ∧ g.leftOf (k - 1) = g.leftOf k
  · rw [if_pos h, if_pos (decide_eq_true h), app_list]
    unfold Gm.rightB
    rw [blanks_list]
    rfl
  · rw [if_neg h, if_neg (show ¬ decide (0 < k ∧ g.leftOf (k - 1) = g.leftOf k) = true from fun e => h (of_decide_eq_true e)), app_list]
    unfold Gm.ruleB Gm.rightB
    rw [app_list, app_list, blanks_list]
    by_cases hk : 0 < k
    · rw [if_pos hk, if_pos hk]
      simp [Gm.rns, Gm.leftOf]
    · rw [if_neg hk, if_neg hk]
      simp [Gm.rns, Gm.leftOf]
theorem body_list (g : Gm) (n : Nat) : ∀ m k, k + m = n → (g.bodyB n).data.toList ++ [10, 9, 59, 10] = (g.bodyB k).data.toList ++ restL g m k := by
  intro m
  induction m with
  | zero =>
    intro k h
    obtain rfl : k = n := by omega
    rfl
  | succ m ih =>
    intro k h
    rw [ih (k + 1) (by omega)]
    show (g.bodyB k ++ g.pieceB k).data.toList ++ _ = _ ++ (pieceL g k ++ _)
    rw [app_list, piece_list, List.append_assoc]
theorem rest_head (g : Gm) (m k : Nat) (hk : 0 < k) : ∃ u, restL g m k = [10, 9] ++ u ∧ u.takeWhile whiteB = [] := by
  cases m with
  | zero => exact ⟨[59, 10], rfl, rfl⟩
  | succ m =>
    unfold restL pieceL
    by_cases h : g.sameL k = true
    · rw [if_pos h]
      exact ⟨[124] ++ bl (g.rns k) ++ restL g m (k + 1), by simp, rfl⟩
    · rw [if_neg h, if_pos hk]
      exact ⟨[59, 10] ++ ((g.nameOf (g.leftOf k)).data.toList ++ ([32, 58] ++ bl (g.rns k))) ++ restL g m (k + 1), by simp, rfl⟩
/-- The tokens of the rules from a number on. -/
def toksOf (g : Gm) : Nat → Nat → List (Int × ByteArray)
  | 0, _ => [(5, ⟨#[59]⟩), (0, ⟨#[]⟩)]
  | m + 1, k => (if g.sameL k then [(4, ⟨#[124]⟩)] else (if 0 < k then [(5, ⟨#[59]⟩)] else []) ++ [(1, g.nameOf (g.leftOf k)), (3, ⟨#[58]⟩)]) ++ ((g.rns k).map (fun x => (kindS x, x)) ++ toksOf g m (k + 1))
/-- What the names of a grammar that may be are. -/
structure Gm.Named (g : Gm) : Prop where
  right : ∀ k, k < g.rules.length → ∀ x ∈ g.rns k, termOk x = true
  left : ∀ k, k < g.rules.length → plainOk (g.nameOf (g.leftOf k)) = true
theorem plain_term {x : ByteArray} (h : plainOk x = true) : termOk x = true := by unfold termOk; rw [h]; rfl
theorem Toks.rest {s : ByteArray} {g : Gm} (hg : g.Named) : ∀ (m k : Nat) {a : Nat}, k + m = g.rules.length → (0 < m ∨ 0 < k) → At s a (restL g m k) → ∃ l, Toks s a l ∧ l.map sig = toksOf g m k := by
  intro m
  induction m with
  | zero =>
    intro k a hk _ h
    have h0 : At s a ([10, 9] ++ ([59] ++ ([10] ++ []))) := h
    have h1 := h0.app
    have h2 := h1.app
    have h3 := h2.app
    have t3 := Toks.done h3
    have t2 := Toks.white h2 (by simp) (by simp [whiteB]) rfl t3
    have t1 := Toks.sign (k := 5) h1 rfl (by decide) t2
    have t0 := Toks.white h0 (by simp) (by simp [whiteB]) rfl t1
    exact ⟨_, t0, rfl⟩
  | succ m ih =>
    intro k a hk _ h
    have hkl : k < g.rules.length := by omega
    have hletter : (restL g m (k + 1)).takeWhile letterB = [] := by
      obtain ⟨u, e, _⟩ := rest_head g m (k + 1) (Nat.succ_pos k)
      rw [e]
      rfl
    unfold restL at h
    unfold toksOf
    unfold pieceL at h
    by_cases hs : g.sameL k = true
    · rw [if_pos hs] at h ⊢
      have h0 : At s a ([10, 9] ++ ([124] ++ (bl (g.rns k) ++ restL g m (k + 1)))) := by simpa using h
      have h1 := h0.app
      have h2 := h1.app
      have h3 := h2.app
      obtain ⟨l, t3, e3⟩ := ih (k + 1) (by omega) (.inr (Nat.succ_pos k)) h3
      obtain ⟨l', t2, e2⟩ := Toks.blanks (g.rns k) h2 (hg.right k hkl) hletter t3
      have t1 := Toks.sign (k := 4) h1 rfl (by decide) t2
      have t0 := Toks.white h0 (by simp) (by simp [whiteB]) rfl t1
      refine ⟨_, t0, ?_⟩
      rw [List.map_cons, List.map_append, e2, e3]
      rfl
    · rw [if_neg hs] at h ⊢
      have hp := hg.left k hkl
      have go : ∀ b, At s b ((g.nameOf (g.leftOf k)).data.toList ++ ([32] ++ ([58] ++ (bl (g.rns k) ++ restL g m (k + 1))))) → ∃ l, Toks s b l ∧ l.map sig = [(1, g.nameOf (g.leftOf k)), (3, ⟨#[58]⟩)] ++ ((g.rns k).map (fun x => (kindS x, x)) ++ toksOf g m (k + 1)) := by
        intro b h0
        have h1 := h0.app
        have h2 := h1.app
        have h3 := h2.app
        have h4 := h3.app
        obtain ⟨l, t4, e4⟩ := ih (k + 1) (by omega) (.inr (Nat.succ_pos k)) h4
        obtain ⟨l', t3, e3⟩ := Toks.blanks (g.rns k) h3 (hg.right k hkl) hletter t4
        have t2 := Toks.sign (k := 3) h2 rfl (by decide) t3
        have t1 := Toks.white h1 (by simp) (by simp [whiteB]) rfl t2
        rw [data_length] at t1
        have t0 := Toks.name h0 (plain_name hp).1 (plain_name hp).2 rfl t1
        refine ⟨_, t0, ?_⟩
        rw [List.map_cons, List.map_cons, List.map_append, e3, e4]
        rfl
      by_cases hk0 : 0 < k
      · rw [if_pos hk0] at h ⊢
        have h0 : At s a ([10, 9] ++ ([59] ++ ([10] ++ ((g.nameOf (g.leftOf k)).data.toList ++ ([32] ++ ([58] ++ (bl (g.rns k) ++ restL g m (k + 1)))))))) := by simpa using h
        have h1 := h0.app
        have h2 := h1.app
        have h3 := h2.app
        obtain ⟨l, t3, e3⟩ := go _ h3
        have t2 := Toks.white h2 (by simp) (by simp [whiteB]) (head_white (plain_term hp) _) t3
        have t1 := Toks.sign (k := 5) h1 rfl (by decide) t2
        have t0 := Toks.white h0 (by simp) (by simp [whiteB]) rfl t1
        exact ⟨_, t0, by rw [List.map_cons, e3]; rfl⟩
      · rw [if_neg hk0] at h ⊢
        obtain ⟨l, t3, e3⟩ := go a (by simpa using h)
        exact ⟨l, t3, by rw [e3]; rfl⟩
/-- The tokens of all that is shown. -/
def showT (g : Gm) : List (Int × ByteArray) :=
  (if g.terms.length = 0 then [] else (7, ⟨#[37, 116, 111, 107, 101, 110]⟩) :: g.terms.map (fun x => (kindS x, x))) ++ ([(8, ⟨#[37, 115, 116, 97, 114, 116]⟩), (1, g.nameOf g.start), (6, ⟨#[37, 37]⟩)] ++ toksOf g g.rules.length 0)
theorem show_toks {g : Gm} (hg : g.Named) (ht : ∀ x ∈ g.terms, termOk x = true) (hs : plainOk (g.nameOf g.start) = true) (hr : 0 < g.rules.length) : ∃ l, Toks g.showB 0 l ∧ l.map sig = showT g := by
  have hlist : g.showB.data.toList = g.tokB.data.toList ++ ([37, 115, 116, 97, 114, 116] ++ ([32] ++ ((g.nameOf g.start).data.toList ++ ([10] ++ ([37, 37] ++ ([10] ++ restL g g.rules.length 0)))))) := by
    unfold Gm.showB Gm.headB
    rw [app_list, app_list, app_list, app_list, app_list, List.append_assoc, body_list g g.rules.length g.rules.length 0 (by omega)]
    simp [Gm.bodyB]
  have hA : At g.showB 0 (g.tokB.data.toList ++ ([37, 115, 116, 97, 114, 116] ++ ([32] ++ ((g.nameOf g.start).data.toList ++ ([10] ++ ([37, 37] ++ ([10] ++ restL g g.rules.length 0))))))) := ⟨Nat.zero_le _, by rw [List.drop_zero, hlist]⟩
  have go : ∀ b, At g.showB b ([37, 115, 116, 97, 114, 116] ++ ([32] ++ ((g.nameOf g.start).data.toList ++ ([10] ++ ([37, 37] ++ ([10] ++ restL g g.rules.length 0)))))) → ∃ l, Toks g.showB b l ∧ l.map sig = [(8, ⟨#[37, 115, 116, 97, 114, 116]⟩), (1, g.nameOf g.start), (6, ⟨#[37, 37]⟩)] ++ toksOf g g.rules.length 0 := by
    intro b h0
    have h1 := h0.app
    have h2 := h1.app
    have h3 := h2.app
    have h4 := h3.app
    have h5 := h4.app
    have h6 := h5.app
    obtain ⟨l, t6, e6⟩ := Toks.rest hg g.rules.length 0 (by omega) (.inl hr) h6
    have hw : (restL g g.rules.length 0).takeWhile whiteB = [] := by
      obtain ⟨m, hm⟩ : ∃ m, g.rules.length = m + 1 := ⟨g.rules.length - 1, by omega⟩
      rw [hm]
      unfold restL pieceL
      rw [if_neg (by unfold Gm.sameL; simp), if_neg (Nat.lt_irrefl 0), List.nil_append, List.append_assoc]
      exact head_white (plain_term (hg.left 0 hr)) _
    have t5 := Toks.white h5 (by simp) (by simp [whiteB]) hw t6
    have t4 := Toks.mark h4 t5
    have t3 := Toks.white h3 (by simp) (by simp [whiteB]) rfl t4
    rw [data_length] at t3
    have t2 := Toks.name h2 (plain_name hs).1 (plain_name hs).2 rfl t3
    have t1 := Toks.white h1 (by simp) (by simp [whiteB]) (head_white (plain_term hs) _) t2
    have t0 := Toks.start h0 rfl t1
    exact ⟨_, t0, by rw [List.map_cons, List.map_cons, List.map_cons, e6]; rfl⟩
  unfold showT
  unfold Gm.tokB at hA
  by_cases h0 : g.terms.length = 0
  · rw [if_pos h0] at hA ⊢
    exact go 0 (by simpa using hA)
  · rw [if_neg h0] at hA ⊢
    rw [app_list, app_list, blanks_list] at hA
    have k0 : At g.showB 0 ([37, 116, 111, 107, 101, 110] ++ (bl g.terms ++ ([10] ++ ([37, 115, 116, 97, 114, 116] ++ ([32] ++ ((g.nameOf g.start).data.toList ++ ([10] ++ ([37, 37] ++ ([10] ++ restL g g.rules.length 0))))))))) := by simpa using hA
    have k1 := k0.app
    have k2 := k1.app
    have k3 := k2.app
    obtain ⟨l, t3, e3⟩ := go _ k3
    have t2 := Toks.white k2 (by simp) (by simp [whiteB]) rfl t3
    obtain ⟨l', t1, e1⟩ := Toks.blanks g.terms k1 ht rfl t2
    have t0 := Toks.token k0 (bl_letter _ rfl) t1
    exact ⟨_, t0, by rw [List.map_cons, List.map_append, e1, e3]; rfl⟩
end Go.Proofs.YtliofoikejdjeaaGreat
/-
  DERIVED: THE SHELF's CONTRACTS AT THIS DUMP, IN PLAIN WORDS (tools/lay-plain.mjs out of 'TryzShelf.lean', which tools/lay-shelf.mjs wrote): THE SAME DECLARATIONS UNDER THE SAME NAMES: 'import', 'namespace', 'open', 'def', 'theorem' AND NOTHING ELSE: no command of the shelf's: FOR A HAND-IN. Each laying: the table of numbers ('.._ren') and one theorem, a field a fact of the dump's own or the kernel's comparison; each contract: ONE APPLICATION.
-/
namespace Go.Proofs
open Go.Shelf
def Tryz.lays169_ren : Go.Shelf.Ren := ⟨fun | 169 => 25 | n => n, fun | 70 => 45 | 9 => 9 | 0 => 0 | 72 => 48 | 37 => 46 | 127 => 81 | 3 => 3 | 5 => 5 | n => n, fun | n => n⟩
theorem Tryz.lays169 : Go.Proofs.Lays.n169 Tryz.prog Tryz.lays169_ren := {
  mixed := by kernel_rfl
  f169 := Tryz.func25.trans (congrArg some (by kernel_rfl))
  t0 := Tryz.underlying0
  a0 := Tryz.isAgg0
  z0 := Tryz.sizeOf0
  v0 := Tryz.zeroValue0
  t3 := Tryz.underlying3
  a3 := Tryz.isAgg3
  z3 := Tryz.sizeOf3
  v3 := Tryz.zeroValue3
  t9 := Tryz.underlying9
  a9 := Tryz.isAgg9
  z9 := Tryz.sizeOf9
  v9 := Tryz.zeroValue9
  t37 := Tryz.underlying46
  a37 := Tryz.isAgg46
  z37 := Tryz.sizeOf46
  v37 := Tryz.zeroValue46
  t70 := Tryz.underlying45
  a70 := Tryz.isAgg45
  z70 := Tryz.sizeOf45
  v70 := Tryz.zeroValue45
  t72 := Tryz.underlying48
  a72 := Tryz.isAgg48
  z72 := Tryz.sizeOf48
  v72 := Tryz.zeroValue48
  t127 := Tryz.underlying81
  a127 := Tryz.isAgg81
  z127 := Tryz.sizeOf81
  v127 := Tryz.zeroValue81 }
theorem Tryz.Builder_Extra_169 : Builder.Extra Tryz.prog Tryz.lays169_ren := {
  sizeBuilder := by kernel_rfl
  liesBuilder := by kernel_rfl
  t5 := Tryz.underlying5
  a5 := Tryz.isAgg5
  z5 := Tryz.sizeOf5
  v5 := Tryz.zeroValue5
  infoByte := by kernel_rfl
  cellsByte := by kernel_rfl
  sizeByte := by kernel_rfl
  neB5 := by decide }
open Go.RowKit in
/-- (*strings.Builder).String: "String returns the accumulated string.": OF A BUILDER THAT HOLDS AT LEAST ONE BYTE. ✋ THE MODEL FREEZES THOSE BYTES IN THE BUFFER (unsafe.String): a later write INTO them ends the model's run without an answer; a later append BEHIND them goes on. The statement's order of evaluation is drawn: one draw. (LAID: no walk: one application.) -/
theorem Tryz.Builder_String (B b : Nat) (l : List UInt8) (w : World) (h : Lib.IsBuilder 48 5 B b (Lib.byteCells l) w) (h0 : l ≠ []) :
    Calls Tryz.prog 25 #[.pointer (some ⟨b, 0, none⟩)] w fun e w' => e = .returned (.string ⟨l.toArray⟩) ∧ Below B w w' := Any.Builder_String Tryz.lays169 Tryz.Builder_Extra_169 B b l w h h0
open Go.RowKit in
/-- (*strings.Builder).String OF A BUILDER THAT HOLDS NO BYTE: the empty string. (Its buffer is nil, or a row of which it has taken nothing yet; where that row has NO capacity the model lays one new block for unsafe.SliceData's 'some address'.) One draw. (LAID: no walk: one application.) -/
theorem Tryz.Builder_String_empty (B b : Nat) (w : World) (h : Lib.IsBuilder 48 5 B b [] w) (hBw : B ≤ w.heap.size) :
    Calls Tryz.prog 25 #[.pointer (some ⟨b, 0, none⟩)] w fun e w' => e = .returned (.string ⟨#[]⟩) ∧ Below B w w' := Any.Builder_String_empty Tryz.lays169 Tryz.Builder_Extra_169 B b w h hBw
open Go.RowKit in
/-- (*strings.Builder).String: "String returns the accumulated string.": WHATEVER THE BUILDER HOLDS. (LAID: no walk: one application.) -/
theorem Tryz.Builder_String_any (B b : Nat) (l : List UInt8) (w : World) (h : Lib.IsBuilder 48 5 B b (Lib.byteCells l) w) (hBw : B ≤ w.heap.size) :
    Calls Tryz.prog 25 #[.pointer (some ⟨b, 0, none⟩)] w fun e w' => e = .returned (.string ⟨l.toArray⟩) ∧ Below B w w' := Any.Builder_String_any Tryz.lays169 Tryz.Builder_Extra_169 B b l w h hBw
def Tryz.lays137_ren : Go.Shelf.Ren := ⟨fun | 137 => 117 | 217 => 125 | 266 => 128 | n => n, fun | 9 => 9 | 5 => 5 | 3 => 3 | n => n, fun | n => n⟩
theorem Tryz.lays137 : Go.Proofs.Lays.n137 Tryz.prog Tryz.lays137_ren := {
  mixed := by kernel_rfl
  f137 := Tryz.func117.trans (congrArg some (by kernel_rfl))
  f217 := Tryz.func125.trans (congrArg some (by kernel_rfl))
  f266 := Tryz.func128.trans (congrArg some (by kernel_rfl))
  t3 := Tryz.underlying3
  a3 := Tryz.isAgg3
  z3 := Tryz.sizeOf3
  v3 := Tryz.zeroValue3
  t5 := Tryz.underlying5
  a5 := Tryz.isAgg5
  z5 := Tryz.sizeOf5
  v5 := Tryz.zeroValue5
  t9 := Tryz.underlying9
  a9 := Tryz.isAgg9
  z9 := Tryz.sizeOf9
  v9 := Tryz.zeroValue9 }
open Go.RowKit in
/-- strings.IndexByte: "IndexByte returns the index of the first instance of c in s, or -1 if c is not present in s.": IT RETURNS 'Lib.indexByte s c'; the world is as it was. (LAID: no walk: one application.) -/
theorem Tryz.strings_IndexByte (s : ByteArray) (c : Int) (w : World) :
    Calls Tryz.prog 117 #[.string s, .int .u8 c] w fun e w' => e = .returned (.int .i64 (Lib.indexByte s.data.toList c.toNat.toUInt8)) ∧ w' = w := Any.strings_IndexByte Tryz.lays137 s c w
def Tryz.lays217_ren : Go.Shelf.Ren := ⟨fun | 217 => 125 | 266 => 128 | n => n, fun | 9 => 9 | 5 => 5 | 3 => 3 | n => n, fun | n => n⟩
theorem Tryz.lays217 : Go.Proofs.Lays.n217 Tryz.prog Tryz.lays217_ren := {
  mixed := by kernel_rfl
  f217 := Tryz.func125.trans (congrArg some (by kernel_rfl))
  f266 := Tryz.func128.trans (congrArg some (by kernel_rfl))
  t3 := Tryz.underlying3
  a3 := Tryz.isAgg3
  z3 := Tryz.sizeOf3
  v3 := Tryz.zeroValue3
  t5 := Tryz.underlying5
  a5 := Tryz.isAgg5
  z5 := Tryz.sizeOf5
  v5 := Tryz.zeroValue5
  t9 := Tryz.underlying9
  a9 := Tryz.isAgg9
  z9 := Tryz.sizeOf9
  v9 := Tryz.zeroValue9 }
open Go.RowKit Go.Lib in
/-- internal/stringslite.IndexByte (what strings.IndexByte calls): IT RETURNS 'Lib.indexByte s c'; the world is as it was. (LAID: no walk: one application.) -/
theorem Tryz.stringslite_IndexByte (s : ByteArray) (c : Int) (w : World) :
    Calls Tryz.prog 125 #[.string s, .int .u8 c] w fun e w' => e = .returned (.int .i64 (Lib.indexByte s.data.toList c.toNat.toUInt8)) ∧ w' = w := Any.stringslite_IndexByte Tryz.lays217 s c w
def Tryz.lays224_ren : Go.Shelf.Ren := ⟨fun | 224 => 130 | n => n, fun | 3 => 3 | n => n, fun | n => n⟩
theorem Tryz.lays224 : Go.Proofs.Lays.n224 Tryz.prog Tryz.lays224_ren := {
  mixed := by kernel_rfl
  f224 := Tryz.func130.trans (congrArg some (by kernel_rfl))
  t3 := Tryz.underlying3
  a3 := Tryz.isAgg3
  z3 := Tryz.sizeOf3
  v3 := Tryz.zeroValue3 }
open Go.RowKit Go.Lib in
/-- internal/bytealg.Cutover: "Cutover reports the number of failures of IndexByte we should tolerate before switching over to Index. n is the number of bytes processed so far.": on amd64: (n + 16) / 8. (LAID: no walk: one application.) -/
theorem Tryz.bytealg_Cutover (n : Int) (h0 : 0 ≤ n) (h1 : n < 4611686018427387904) (w : World) :
    Calls Tryz.prog 130 #[.int .i64 n] w fun e w' => e = .returned (.int .i64 ((n + 16) / 8)) ∧ w' = w := Any.bytealg_Cutover Tryz.lays224 n h0 h1 w
def Tryz.lays314_ren : Go.Shelf.Ren := ⟨fun | 314 => 132 | n => n, fun | 9 => 9 | 51 => 132 | 3 => 3 | 4 => 4 | 5 => 5 | 46 => 131 | n => n, fun | n => n⟩
theorem Tryz.lays314 : Go.Proofs.Lays.n314 Tryz.prog Tryz.lays314_ren := {
  mixed := by kernel_rfl
  f314 := Tryz.func132.trans (congrArg some (by kernel_rfl))
  t3 := Tryz.underlying3
  a3 := Tryz.isAgg3
  z3 := Tryz.sizeOf3
  v3 := Tryz.zeroValue3
  t4 := Tryz.underlying4
  a4 := Tryz.isAgg4
  z4 := Tryz.sizeOf4
  v4 := Tryz.zeroValue4
  t5 := Tryz.underlying5
  a5 := Tryz.isAgg5
  z5 := Tryz.sizeOf5
  v5 := Tryz.zeroValue5
  t9 := Tryz.underlying9
  a9 := Tryz.isAgg9
  z9 := Tryz.sizeOf9
  v9 := Tryz.zeroValue9
  t46 := Tryz.underlying131
  a46 := Tryz.isAgg131
  z46 := Tryz.sizeOf131
  v46 := Tryz.zeroValue131
  t51 := Tryz.underlying132
  a51 := Tryz.isAgg132
  z51 := Tryz.sizeOf132
  v51 := Tryz.zeroValue132 }
open Go.RowKit Go.Lib in
/-- hashStr: "returns the hash and the appropriate multiplicative factor for use in Rabin-Karp algorithm": THE HASH OF ALL OF sep, AND 16777619 ^ len(sep), both in uint32. (LAID: no walk: one application.) -/
theorem Tryz.bytealg_hashStr (sep : ByteArray) (hs : sep.size < 4294967281) (w : World) :
    Calls Tryz.prog 132 #[.string sep] w fun e w' => e = .returned (.tuple #[.int .u32 (RK.H sep.data.toList % 4294967296), .int .u32 (16777619 ^ sep.size % 4294967296)]) ∧ w' = w := Any.bytealg_hashStr Tryz.lays314 sep hs w
def Tryz.lays267_ren : Go.Shelf.Ren := ⟨fun | 267 => 131 | 314 => 132 | n => n, fun | 9 => 9 | 3 => 3 | 146 => 133 | 51 => 132 | 4 => 4 | 5 => 5 | 46 => 131 | n => n, fun | n => n⟩
theorem Tryz.lays267 : Go.Proofs.Lays.n267 Tryz.prog Tryz.lays267_ren := {
  mixed := by kernel_rfl
  f267 := Tryz.func131.trans (congrArg some (by kernel_rfl))
  f314 := Tryz.func132.trans (congrArg some (by kernel_rfl))
  t3 := Tryz.underlying3
  a3 := Tryz.isAgg3
  z3 := Tryz.sizeOf3
  v3 := Tryz.zeroValue3
  t4 := Tryz.underlying4
  a4 := Tryz.isAgg4
  z4 := Tryz.sizeOf4
  v4 := Tryz.zeroValue4
  t5 := Tryz.underlying5
  a5 := Tryz.isAgg5
  z5 := Tryz.sizeOf5
  v5 := Tryz.zeroValue5
  t9 := Tryz.underlying9
  a9 := Tryz.isAgg9
  z9 := Tryz.sizeOf9
  v9 := Tryz.zeroValue9
  t46 := Tryz.underlying131
  a46 := Tryz.isAgg131
  z46 := Tryz.sizeOf131
  v46 := Tryz.zeroValue131
  t51 := Tryz.underlying132
  a51 := Tryz.isAgg132
  z51 := Tryz.sizeOf132
  v51 := Tryz.zeroValue132
  t146 := Tryz.underlying133
  a146 := Tryz.isAgg133
  z146 := Tryz.sizeOf133
  v146 := Tryz.zeroValue133 }
open Go.RowKit Go.Lib in
theorem Tryz.bytealg_IndexRabinKarp (s sep : ByteArray) (h1 : 1 ≤ sep.size) (h2 : sep.size ≤ s.size) (hs : s.size < 4294967281) (w : World) :
    Calls Tryz.prog 131 #[.string s, .string sep] w fun e w' => e = .returned (.int .i64 (Lib.index s.data.toList sep.data.toList)) ∧ w' = w := Any.bytealg_IndexRabinKarp Tryz.lays267 s sep h1 h2 hs w
def Tryz.lays219_ren : Go.Shelf.Ren := ⟨fun | 219 => 127 | 217 => 125 | 225 => 129 | 224 => 130 | 267 => 131 | 266 => 128 | 314 => 132 | n => n, fun | 9 => 9 | 3 => 3 | 4 => 4 | 5 => 5 | 46 => 131 | 146 => 133 | 51 => 132 | n => n, fun | 1 => 0 | n => n⟩
theorem Tryz.lays219 : Go.Proofs.Lays.n219 Tryz.prog Tryz.lays219_ren := {
  mixed := by kernel_rfl
  f217 := Tryz.func125.trans (congrArg some (by kernel_rfl))
  f219 := Tryz.func127.trans (congrArg some (by kernel_rfl))
  f224 := Tryz.func130.trans (congrArg some (by kernel_rfl))
  f225 := Tryz.func129.trans (congrArg some (by kernel_rfl))
  f266 := Tryz.func128.trans (congrArg some (by kernel_rfl))
  f267 := Tryz.func131.trans (congrArg some (by kernel_rfl))
  f314 := Tryz.func132.trans (congrArg some (by kernel_rfl))
  t3 := Tryz.underlying3
  a3 := Tryz.isAgg3
  z3 := Tryz.sizeOf3
  v3 := Tryz.zeroValue3
  t4 := Tryz.underlying4
  a4 := Tryz.isAgg4
  z4 := Tryz.sizeOf4
  v4 := Tryz.zeroValue4
  t5 := Tryz.underlying5
  a5 := Tryz.isAgg5
  z5 := Tryz.sizeOf5
  v5 := Tryz.zeroValue5
  t9 := Tryz.underlying9
  a9 := Tryz.isAgg9
  z9 := Tryz.sizeOf9
  v9 := Tryz.zeroValue9
  t46 := Tryz.underlying131
  a46 := Tryz.isAgg131
  z46 := Tryz.sizeOf131
  v46 := Tryz.zeroValue131
  t51 := Tryz.underlying132
  a51 := Tryz.isAgg132
  z51 := Tryz.sizeOf132
  v51 := Tryz.zeroValue132
  t146 := Tryz.underlying133
  a146 := Tryz.isAgg133
  z146 := Tryz.sizeOf133
  v146 := Tryz.zeroValue133
  g1 := by kernel_rfl }
open Go.RowKit Go.Lib in
/-- internal/stringslite.Index (what strings.Index calls) AT A substr OF ONE BYTE c: IT RETURNS 'Lib.indexByte s c'; the world is as it was. (LAID: no walk: one application.) -/
theorem Tryz.stringslite_Index_one (s : ByteArray) (c : UInt8) (w : World) :
    Calls Tryz.prog 127 #[.string s, .string ⟨#[c]⟩] w fun e w' => e = .returned (.int .i64 (Lib.indexByte s.data.toList c)) ∧ w' = w := Any.stringslite_Index_one Tryz.lays219 s c w
open Go.RowKit Go.Lib in
/-- internal/stringslite.Index (what strings.Index calls) AT A substr OF WHATEVER LENGTH: IT RETURNS 'Lib.index s substr'; the world is as it was. 'm': what internal/bytealg.MaxLen holds: whatever. (LAID: no walk: one application.) -/
theorem Tryz.stringslite_Index (s sub : ByteArray) (m : Int) (w : World) (hs : s.size < 4294967281) (hm : w.cell? ⟨0, 0, none⟩ = some (.int .i64 m)) :
    Calls Tryz.prog 127 #[.string s, .string sub] w fun e w' => e = .returned (.int .i64 (Lib.index s.data.toList sub.data.toList)) ∧ w' = w := Any.stringslite_Index Tryz.lays219 s sub m w hs hm
def Tryz.lays143_ren : Go.Shelf.Ren := ⟨fun | 143 => 119 | 219 => 127 | 217 => 125 | 225 => 129 | 224 => 130 | 267 => 131 | 266 => 128 | 314 => 132 | n => n, fun | 9 => 9 | 3 => 3 | 4 => 4 | 5 => 5 | 46 => 131 | 146 => 133 | 51 => 132 | n => n, fun | 1 => 0 | n => n⟩
theorem Tryz.lays143 : Go.Proofs.Lays.n143 Tryz.prog Tryz.lays143_ren := {
  mixed := by kernel_rfl
  f143 := Tryz.func119.trans (congrArg some (by kernel_rfl))
  f217 := Tryz.func125.trans (congrArg some (by kernel_rfl))
  f219 := Tryz.func127.trans (congrArg some (by kernel_rfl))
  f224 := Tryz.func130.trans (congrArg some (by kernel_rfl))
  f225 := Tryz.func129.trans (congrArg some (by kernel_rfl))
  f266 := Tryz.func128.trans (congrArg some (by kernel_rfl))
  f267 := Tryz.func131.trans (congrArg some (by kernel_rfl))
  f314 := Tryz.func132.trans (congrArg some (by kernel_rfl))
  t3 := Tryz.underlying3
  a3 := Tryz.isAgg3
  z3 := Tryz.sizeOf3
  v3 := Tryz.zeroValue3
  t4 := Tryz.underlying4
  a4 := Tryz.isAgg4
  z4 := Tryz.sizeOf4
  v4 := Tryz.zeroValue4
  t5 := Tryz.underlying5
  a5 := Tryz.isAgg5
  z5 := Tryz.sizeOf5
  v5 := Tryz.zeroValue5
  t9 := Tryz.underlying9
  a9 := Tryz.isAgg9
  z9 := Tryz.sizeOf9
  v9 := Tryz.zeroValue9
  t46 := Tryz.underlying131
  a46 := Tryz.isAgg131
  z46 := Tryz.sizeOf131
  v46 := Tryz.zeroValue131
  t51 := Tryz.underlying132
  a51 := Tryz.isAgg132
  z51 := Tryz.sizeOf132
  v51 := Tryz.zeroValue132
  t146 := Tryz.underlying133
  a146 := Tryz.isAgg133
  z146 := Tryz.sizeOf133
  v146 := Tryz.zeroValue133
  g1 := by kernel_rfl }
open Go.RowKit Go.Lib in
/-- strings.Index: "Index returns the index of the first instance of substr in s, or -1 if substr is not present in s.": AT A substr OF ONE BYTE c: IT RETURNS 'Lib.indexByte s c'; the world is as it was. (LAID: no walk: one application.) -/
theorem Tryz.strings_Index_one (s : ByteArray) (c : UInt8) (w : World) :
    Calls Tryz.prog 119 #[.string s, .string ⟨#[c]⟩] w fun e w' => e = .returned (.int .i64 (Lib.indexByte s.data.toList c)) ∧ w' = w := Any.strings_Index_one Tryz.lays143 s c w
open Go.RowKit Go.Lib in
/-- strings.Index: "Index returns the index of the first instance of substr in s, or -1 if substr is not present in s.": IT RETURNS 'Lib.index s substr'; the world is as it was. (LAID: no walk: one application.) -/
theorem Tryz.strings_Index (s sub : ByteArray) (m : Int) (w : World) (hs : s.size < 4294967281) (hm : w.cell? ⟨0, 0, none⟩ = some (.int .i64 m)) :
    Calls Tryz.prog 119 #[.string s, .string sub] w fun e w' => e = .returned (.int .i64 (Lib.index s.data.toList sub.data.toList)) ∧ w' = w := Any.strings_Index Tryz.lays143 s sub m w hs hm
def Tryz.laysM219_ren : Go.Shelf.Ren := ⟨fun | 219 => 127 | 217 => 125 | 225 => 129 | 224 => 130 | 267 => 131 | 266 => 128 | 314 => 132 | n => n, fun | 9 => 9 | 3 => 3 | 4 => 4 | 5 => 5 | 46 => 131 | 146 => 133 | 51 => 132 | n => n, fun | 1 => 0 | n => n⟩
theorem Tryz.laysM219 : Go.Proofs.LaysM.n219 Tryz.prog Tryz.laysM219_ren := {
  mixed := by kernel_rfl
  f217 := Tryz.func125.trans (congrArg some (by kernel_rfl))
  f219 := Tryz.func127.trans (congrArg some (by kernel_rfl))
  f224 := Tryz.func130.trans (congrArg some (by kernel_rfl))
  f225 := Tryz.func129.trans (congrArg some (by kernel_rfl))
  f266 := Tryz.func128.trans (congrArg some (by kernel_rfl))
  f267 := Tryz.func131.trans (congrArg some (by kernel_rfl))
  f314 := Tryz.func132.trans (congrArg some (by kernel_rfl))
  t3 := Tryz.underlying3
  a3 := Tryz.isAgg3
  z3 := Tryz.sizeOf3
  v3 := Tryz.zeroValue3
  t4 := Tryz.underlying4
  a4 := Tryz.isAgg4
  z4 := Tryz.sizeOf4
  v4 := Tryz.zeroValue4
  t5 := Tryz.underlying5
  a5 := Tryz.isAgg5
  z5 := Tryz.sizeOf5
  v5 := Tryz.zeroValue5
  t9 := Tryz.underlying9
  a9 := Tryz.isAgg9
  z9 := Tryz.sizeOf9
  v9 := Tryz.zeroValue9
  t46 := Tryz.underlying131
  a46 := Tryz.isAgg131
  z46 := Tryz.sizeOf131
  v46 := Tryz.zeroValue131
  t51 := Tryz.underlying132
  a51 := Tryz.isAgg132
  z51 := Tryz.sizeOf132
  v51 := Tryz.zeroValue132
  t146 := Tryz.underlying133
  a146 := Tryz.isAgg133
  z146 := Tryz.sizeOf133
  v146 := Tryz.zeroValue133
  g1 := by kernel_rfl
  i3 := by kernel_rfl
  i4 := by kernel_rfl
  i5 := by kernel_rfl
  i9 := by kernel_rfl
  i46 := by kernel_rfl
  i51 := by kernel_rfl
  i146 := by kernel_rfl
  m1 := by kernel_rfl
  s1_3 := fun w h => Go.Proofs.cell_of_shapedOpen_int (zero := #[.int .i64 0]) (t := 3) h (of_decide_eq_true (by kernel_rfl)) (by kernel_rfl) rfl (by kernel_rfl) (by kernel_rfl) Tryz.underlying3 }
open Go.RowKit Go.Lib in
theorem Tryz.stringslite_Index_shaped (s sub : ByteArray) (w : World) (h : w.ShapedOpen Tryz.prog) (hs : s.size < 4294967281) :
    Calls Tryz.prog 127 #[.string s, .string sub] w fun e w' => e = .returned (.int .i64 (Lib.index s.data.toList sub.data.toList)) ∧ w' = w := Any.stringslite_Index_shaped Tryz.laysM219 s sub w h hs
def Tryz.laysM143_ren : Go.Shelf.Ren := ⟨fun | 143 => 119 | 219 => 127 | 217 => 125 | 225 => 129 | 224 => 130 | 267 => 131 | 266 => 128 | 314 => 132 | n => n, fun | 9 => 9 | 3 => 3 | 4 => 4 | 5 => 5 | 46 => 131 | 146 => 133 | 51 => 132 | n => n, fun | 1 => 0 | n => n⟩
theorem Tryz.laysM143 : Go.Proofs.LaysM.n143 Tryz.prog Tryz.laysM143_ren := {
  mixed := by kernel_rfl
  f143 := Tryz.func119.trans (congrArg some (by kernel_rfl))
  f217 := Tryz.func125.trans (congrArg some (by kernel_rfl))
  f219 := Tryz.func127.trans (congrArg some (by kernel_rfl))
  f224 := Tryz.func130.trans (congrArg some (by kernel_rfl))
  f225 := Tryz.func129.trans (congrArg some (by kernel_rfl))
  f266 := Tryz.func128.trans (congrArg some (by kernel_rfl))
  f267 := Tryz.func131.trans (congrArg some (by kernel_rfl))
  f314 := Tryz.func132.trans (congrArg some (by kernel_rfl))
  t3 := Tryz.underlying3
  a3 := Tryz.isAgg3
  z3 := Tryz.sizeOf3
  v3 := Tryz.zeroValue3
  t4 := Tryz.underlying4
  a4 := Tryz.isAgg4
  z4 := Tryz.sizeOf4
  v4 := Tryz.zeroValue4
  t5 := Tryz.underlying5
  a5 := Tryz.isAgg5
  z5 := Tryz.sizeOf5
  v5 := Tryz.zeroValue5
  t9 := Tryz.underlying9
  a9 := Tryz.isAgg9
  z9 := Tryz.sizeOf9
  v9 := Tryz.zeroValue9
  t46 := Tryz.underlying131
  a46 := Tryz.isAgg131
  z46 := Tryz.sizeOf131
  v46 := Tryz.zeroValue131
  t51 := Tryz.underlying132
  a51 := Tryz.isAgg132
  z51 := Tryz.sizeOf132
  v51 := Tryz.zeroValue132
  t146 := Tryz.underlying133
  a146 := Tryz.isAgg133
  z146 := Tryz.sizeOf133
  v146 := Tryz.zeroValue133
  g1 := by kernel_rfl
  i3 := by kernel_rfl
  i4 := by kernel_rfl
  i5 := by kernel_rfl
  i9 := by kernel_rfl
  i46 := by kernel_rfl
  i51 := by kernel_rfl
  i146 := by kernel_rfl
  m1 := by kernel_rfl
  s1_3 := fun w h => Go.Proofs.cell_of_shapedOpen_int (zero := #[.int .i64 0]) (t := 3) h (of_decide_eq_true (by kernel_rfl)) (by kernel_rfl) rfl (by kernel_rfl) (by kernel_rfl) Tryz.underlying3 }
open Go.RowKit Go.Lib in
theorem Tryz.strings_Index_shaped (s sub : ByteArray) (w : World) (h : w.ShapedOpen Tryz.prog) (hs : s.size < 4294967281) :
    Calls Tryz.prog 119 #[.string s, .string sub] w fun e w' => e = .returned (.int .i64 (Lib.index s.data.toList sub.data.toList)) ∧ w' = w := Any.strings_Index_shaped Tryz.laysM143 s sub w h hs
def Tryz.lays206_ren : Go.Shelf.Ren := ⟨fun | 206 => 126 | n => n, fun | 9 => 9 | 4 => 4 | 3 => 3 | n => n, fun | n => n⟩
theorem Tryz.lays206 : Go.Proofs.Lays.n206 Tryz.prog Tryz.lays206_ren := {
  mixed := by kernel_rfl
  f206 := Tryz.func126.trans (congrArg some (by kernel_rfl))
  t3 := Tryz.underlying3
  a3 := Tryz.isAgg3
  z3 := Tryz.sizeOf3
  v3 := Tryz.zeroValue3
  t4 := Tryz.underlying4
  a4 := Tryz.isAgg4
  z4 := Tryz.sizeOf4
  v4 := Tryz.zeroValue4
  t9 := Tryz.underlying9
  a9 := Tryz.isAgg9
  z9 := Tryz.sizeOf9
  v9 := Tryz.zeroValue9 }
open Go.RowKit Go.Lib in
/-- internal/stringslite.HasPrefix (what strings.HasPrefix calls). (LAID: no walk: one application.) -/
theorem Tryz.stringslite_HasPrefix (s p : ByteArray) (w : World) :
    Calls Tryz.prog 126 #[.string s, .string p] w fun e w' => e = .returned (.bool (Lib.hasPrefix s.data.toList p.data.toList)) ∧ w' = w := Any.stringslite_HasPrefix Tryz.lays206 s p w
def Tryz.lays99_ren : Go.Shelf.Ren := ⟨fun | 99 => 118 | 206 => 126 | n => n, fun | 9 => 9 | 4 => 4 | 3 => 3 | n => n, fun | n => n⟩
theorem Tryz.lays99 : Go.Proofs.Lays.n99 Tryz.prog Tryz.lays99_ren := {
  mixed := by kernel_rfl
  f99 := Tryz.func118.trans (congrArg some (by kernel_rfl))
  f206 := Tryz.func126.trans (congrArg some (by kernel_rfl))
  t3 := Tryz.underlying3
  a3 := Tryz.isAgg3
  z3 := Tryz.sizeOf3
  v3 := Tryz.zeroValue3
  t4 := Tryz.underlying4
  a4 := Tryz.isAgg4
  z4 := Tryz.sizeOf4
  v4 := Tryz.zeroValue4
  t9 := Tryz.underlying9
  a9 := Tryz.isAgg9
  z9 := Tryz.sizeOf9
  v9 := Tryz.zeroValue9 }
open Go.RowKit Go.Lib in
/-- strings.HasPrefix: "HasPrefix reports whether the string s begins with prefix.": IT RETURNS 'Lib.hasPrefix s prefix'; the world is as it was. (LAID: no walk: one application.) -/
theorem Tryz.strings_HasPrefix (s p : ByteArray) (w : World) :
    Calls Tryz.prog 118 #[.string s, .string p] w fun e w' => e = .returned (.bool (Lib.hasPrefix s.data.toList p.data.toList)) ∧ w' = w := Any.strings_HasPrefix Tryz.lays99 s p w
def Tryz.lays109_ren : Go.Shelf.Ren := ⟨fun | 109 => 105 | n => n, fun | 31 => 22 | 9 => 9 | 3 => 3 | 0 => 0 | 4 => 4 | n => n, fun | n => n⟩
theorem Tryz.lays109 : Go.Proofs.Lays.n109 Tryz.prog Tryz.lays109_ren := {
  mixed := by kernel_rfl
  f109 := Tryz.func105.trans (congrArg some (by kernel_rfl))
  t0 := Tryz.underlying0
  a0 := Tryz.isAgg0
  z0 := Tryz.sizeOf0
  v0 := Tryz.zeroValue0
  t3 := Tryz.underlying3
  a3 := Tryz.isAgg3
  z3 := Tryz.sizeOf3
  v3 := Tryz.zeroValue3
  t4 := Tryz.underlying4
  a4 := Tryz.isAgg4
  z4 := Tryz.sizeOf4
  v4 := Tryz.zeroValue4
  t9 := Tryz.underlying9
  a9 := Tryz.isAgg9
  z9 := Tryz.sizeOf9
  v9 := Tryz.zeroValue9
  t31 := Tryz.underlying22
  a31 := Tryz.isAgg22
  z31 := Tryz.sizeOf22
  v31 := Tryz.zeroValue22 }
open Go.Lib in
/-- slices.Index at []string: "Index returns the index of the first occurrence of v in s, or -1 if not present.": IT RETURNS 'Lib.idxOfS (the elements) v'; the world is as it was. 'zs': what the cells behind the slice's address hold (its spare capacity too, if you have it); 'zs.take n': its elements. (LAID: no walk: one application.) -/
theorem Tryz.slices_Index_string (b off n c : Nat) (zs : List ByteArray) (x : ByteArray) (w : World) (hz : n ≤ zs.length) (hbig : n ≤ 9223372036854775807) (hc : ∀ j, j < zs.length → w.cell? ⟨b, off + j, none⟩ = some (.string (zs.getD j ByteArray.empty))) :
    Calls Tryz.prog 105 #[.slice (some ⟨b, off, none⟩) n c, .string x] w fun e w' => e = .returned (.int .i64 (Lib.idxOfS (zs.take n) x)) ∧ w' = w := Any.slices_Index_string Tryz.lays109 b off n c zs x w hz hbig hc
open Go.Lib in
/-- The same at a slice of length 0, a nil one too: no cell is known, none is asked for. (LAID: no walk: one application.) -/
theorem Tryz.slices_Index_string_empty (a : Option Addr) (c : Nat) (x : ByteArray) (w : World) :
    Calls Tryz.prog 105 #[.slice a 0 c, .string x] w fun e w' => e = .returned (.int .i64 (Lib.idxOfS [] x)) ∧ w' = w := Any.slices_Index_string_empty Tryz.lays109 a c x w
def Tryz.lays111_ren : Go.Shelf.Ren := ⟨fun | 111 => 82 | n => n, fun | 28 => 38 | 3 => 3 | 4 => 4 | 0 => 0 | n => n, fun | n => n⟩
theorem Tryz.lays111 : Go.Proofs.Lays.n111 Tryz.prog Tryz.lays111_ren := {
  mixed := by kernel_rfl
  f111 := Tryz.func82.trans (congrArg some (by kernel_rfl))
  t0 := Tryz.underlying0
  a0 := Tryz.isAgg0
  z0 := Tryz.sizeOf0
  v0 := Tryz.zeroValue0
  t3 := Tryz.underlying3
  a3 := Tryz.isAgg3
  z3 := Tryz.sizeOf3
  v3 := Tryz.zeroValue3
  t4 := Tryz.underlying4
  a4 := Tryz.isAgg4
  z4 := Tryz.sizeOf4
  v4 := Tryz.zeroValue4
  t28 := Tryz.underlying38
  a28 := Tryz.isAgg38
  z28 := Tryz.sizeOf38
  v28 := Tryz.zeroValue38 }
open Go.RowKit Go.Lib in
/-- slices.Equal at []int: "Equal reports whether two slices are equal: the same length and all elements equal. If the lengths are different, Equal returns false. Otherwise, the elements are compared in increasing index order, and the comparison stops at the first unequal pair. Empty and nil slices are considered equal.": IT RETURNS WHETHER THE TWO LISTS OF ELEMENTS ARE ONE; the world is as it was but for the count of draws (the test 's1[i] != s2[i]' has two reads, whose order the model draws, once a round). 'xs', 'ys': what the cells behind the two addresses hold (the spare capacity too, if you have it); 'xs.take n', 'ys.take m': the elements. THE TWO SLICES MAY OVERLAP. (LAID: no walk: one application.) -/
theorem Tryz.slices_Equal_int (b1 o1 n c b2 o2 m d : Nat) (xs ys : List Int) (w : World) (hx : n ≤ xs.length) (hy : m ≤ ys.length) (hbig : n ≤ 9223372036854775807) (hbig2 : m ≤ 9223372036854775807) (hc1 : ∀ j, j < xs.length → w.cell? ⟨b1, o1 + j, none⟩ = some (.int .i64 (xs.getD j 0))) (hc2 : ∀ j, j < ys.length → w.cell? ⟨b2, o2 + j, none⟩ = some (.int .i64 (ys.getD j 0))) :
    Calls Tryz.prog 82 #[.slice (some ⟨b1, o1, none⟩) n c, .slice (some ⟨b2, o2, none⟩) m d] w fun e w' => e = .returned (.bool (xs.take n == ys.take m)) ∧ ∃ q, w' = w.drewN q := Any.slices_Equal_int Tryz.lays111 b1 o1 n c b2 o2 m d xs ys w hx hy hbig hbig2 hc1 hc2
open Go.RowKit Go.Lib in
/-- The same where the first is of length 0 (a nil one too): no cell is asked for. (LAID: no walk: one application.) -/
theorem Tryz.slices_Equal_int_empty (a1 a2 : Option Addr) (c m d : Nat) (w : World) (hbig2 : m ≤ 9223372036854775807) :
    Calls Tryz.prog 82 #[.slice a1 0 c, .slice a2 m d] w fun e w' => e = .returned (.bool (decide (m = 0))) ∧ w' = w := Any.slices_Equal_int_empty Tryz.lays111 a1 a2 c m d w hbig2
def Tryz.lays193_ren : Go.Shelf.Ren := ⟨fun | 193 => 104 | n => n, fun | 31 => 22 | 9 => 9 | 4 => 4 | 3 => 3 | 0 => 0 | n => n, fun | n => n⟩
theorem Tryz.lays193 : Go.Proofs.Lays.n193 Tryz.prog Tryz.lays193_ren := {
  mixed := by kernel_rfl
  f193 := Tryz.func104.trans (congrArg some (by kernel_rfl))
  t0 := Tryz.underlying0
  a0 := Tryz.isAgg0
  z0 := Tryz.sizeOf0
  v0 := Tryz.zeroValue0
  t3 := Tryz.underlying3
  a3 := Tryz.isAgg3
  z3 := Tryz.sizeOf3
  v3 := Tryz.zeroValue3
  t4 := Tryz.underlying4
  a4 := Tryz.isAgg4
  z4 := Tryz.sizeOf4
  v4 := Tryz.zeroValue4
  t9 := Tryz.underlying9
  a9 := Tryz.isAgg9
  z9 := Tryz.sizeOf9
  v9 := Tryz.zeroValue9
  t31 := Tryz.underlying22
  a31 := Tryz.isAgg22
  z31 := Tryz.sizeOf22
  v31 := Tryz.zeroValue22 }
open Go.RowKit Go.Lib in
/-- slices.Equal at []string: "Equal reports whether two slices are equal: the same length and all elements equal. If the lengths are different, Equal returns false. Otherwise, the elements are compared in increasing index order, and the comparison stops at the first unequal pair. Empty and nil slices are considered equal.": IT RETURNS WHETHER THE TWO LISTS OF ELEMENTS ARE ONE; the world is as it was but for the count of draws (the test 's1[i] != s2[i]' has two reads, whose order the model draws, once a round). 'xs', 'ys': what the cells behind the two addresses hold (the spare capacity too, if you have it); 'xs.take n', 'ys.take m': the elements. THE TWO SLICES MAY OVERLAP. (LAID: no walk: one application.) -/
theorem Tryz.slices_Equal_string (b1 o1 n c b2 o2 m d : Nat) (xs ys : List ByteArray) (w : World) (hx : n ≤ xs.length) (hy : m ≤ ys.length) (hbig : n ≤ 9223372036854775807) (hbig2 : m ≤ 9223372036854775807) (hc1 : ∀ j, j < xs.length → w.cell? ⟨b1, o1 + j, none⟩ = some (.string (xs.getD j ByteArray.empty))) (hc2 : ∀ j, j < ys.length → w.cell? ⟨b2, o2 + j, none⟩ = some (.string (ys.getD j ByteArray.empty))) :
    Calls Tryz.prog 104 #[.slice (some ⟨b1, o1, none⟩) n c, .slice (some ⟨b2, o2, none⟩) m d] w fun e w' => e = .returned (.bool (decide (xs.take n = ys.take m))) ∧ ∃ q, w' = w.drewN q := Any.slices_Equal_string Tryz.lays193 b1 o1 n c b2 o2 m d xs ys w hx hy hbig hbig2 hc1 hc2
open Go.RowKit Go.Lib in
/-- The same where the first is of length 0 (a nil one too): no cell is asked for. (LAID: no walk: one application.) -/
theorem Tryz.slices_Equal_string_empty (a1 a2 : Option Addr) (c m d : Nat) (w : World) (hbig2 : m ≤ 9223372036854775807) :
    Calls Tryz.prog 104 #[.slice a1 0 c, .slice a2 m d] w fun e w' => e = .returned (.bool (decide (m = 0))) ∧ w' = w := Any.slices_Equal_string_empty Tryz.lays193 a1 a2 c m d w hbig2
def Tryz.laysNm237_ren : Go.Shelf.Ren := ⟨fun | 37 => 116 | n => n, fun | 3 => 3 | 4 => 4 | n => n, fun | n => n⟩
theorem Tryz.laysNm237 : Go.Proofs.Lays2.n37 Tryz.prog Tryz.laysNm237_ren := {
  mixed := by kernel_rfl
  f37 := Tryz.func116.trans (congrArg some (by kernel_rfl))
  t3 := Tryz.underlying3
  a3 := Tryz.isAgg3
  z3 := Tryz.sizeOf3
  v3 := Tryz.zeroValue3
  t4 := Tryz.underlying4
  a4 := Tryz.isAgg4
  z4 := Tryz.sizeOf4
  v4 := Tryz.zeroValue4 }
open Go.RowKit Go.Lib in
/-- cmp.isNaN[int]: 'x != x': false. (LAID: no walk: one application.) -/
theorem Tryz.cmp_isNaN_int2 (x : Int) (w : World) :
    Calls Tryz.prog 116 #[.int .i64 x] w fun e w' => e = .returned (.bool false) ∧ w' = w := Any.cmp_isNaN_int2 Tryz.laysNm237 x w
def Tryz.laysNm231_ren : Go.Shelf.Ren := ⟨fun | 31 => 83 | 37 => 116 | n => n, fun | 3 => 3 | 4 => 4 | n => n, fun | n => n⟩
theorem Tryz.laysNm231 : Go.Proofs.Lays2.n31 Tryz.prog Tryz.laysNm231_ren := {
  mixed := by kernel_rfl
  f31 := Tryz.func83.trans (congrArg some (by kernel_rfl))
  f37 := Tryz.func116.trans (congrArg some (by kernel_rfl))
  t3 := Tryz.underlying3
  a3 := Tryz.isAgg3
  z3 := Tryz.sizeOf3
  v3 := Tryz.zeroValue3
  t4 := Tryz.underlying4
  a4 := Tryz.isAgg4
  z4 := Tryz.sizeOf4
  v4 := Tryz.zeroValue4 }
open Go.RowKit Go.Lib in
/-- cmp.Less[int]: "Less reports whether x is less than y.": 'x < y'; the world is as it was. (LAID: no walk: one application.) -/
theorem Tryz.cmp_Less_int2 (x y : Int) (w : World) :
    Calls Tryz.prog 83 #[.int .i64 x, .int .i64 y] w fun e w' => e = .returned (.bool (decide (x < y))) ∧ w' = w := Any.cmp_Less_int2 Tryz.laysNm231 x y w
open Go.RowKit Go.Lib in
theorem Tryz.slices_Equal_int_lens (a1 a2 : Option Addr) (n c m d : Nat) (w : World) (hnm : n ≠ m) :
    Calls Tryz.prog 82 #[.slice a1 n c, .slice a2 m d] w fun e w' => e = .returned (.bool false) ∧ w' = w := Any.slices_Equal_int_lens Tryz.lays111 a1 a2 n c m d w hnm
open Go.RowKit Go.Lib in
theorem Tryz.slices_Equal_string_lens (a1 a2 : Option Addr) (n c m d : Nat) (w : World) (hnm : n ≠ m) :
    Calls Tryz.prog 104 #[.slice a1 n c, .slice a2 m d] w fun e w' => e = .returned (.bool false) ∧ w' = w := Any.slices_Equal_string_lens Tryz.lays193 a1 a2 n c m d w hnm
end Go.Proofs
/- gtok's tokens: bytes, comments, marks. -/
namespace Go.Proofs.YtliofoikejdjeaaGreat
open Go.RowKit Go.Proofs.YtliofoikejdjeaaGreatW.PrintWords
set_option linter.unusedVariables false
set_option linter.unusedSimpArgs false
theorem white_byte : ∀ c : UInt8, decide (0 ≤ Lib.indexByte [32, 9, 10, 13] c) = whiteB c := by
  have h : ∀ n : Fin 256, decide (0 ≤ Lib.indexByte [32, 9, 10, 13] (UInt8.ofNat n.val)) = whiteB (UInt8.ofNat n.val) := by decide +kernel
  intro c
  have := h ⟨c.toNat, c.toNat_lt⟩
  simpa using this
theorem gtok_white (c : UInt8) (w : World) : Calls Tryz.prog 86 #[.int .u8 c.toNat] w fun e w' => e = .returned (.bool (whiteB c)) ∧ w' = w := by
  have hb : ((c.toNat : Int).toNat).toUInt8 = c := by simp
  have hc := Tryz.strings_IndexByte ⟨#[32, 9, 10, 13]⟩ (c.toNat : Int) w
  rw [hb] at hc
  have hw := white_byte c
  obtain ⟨n, hn⟩ : ∃ n, Lib.indexByte [32, 9, 10, 13] c = n := ⟨_, rfl⟩
  have hc' : Calls Tryz.prog 117 #[.string ⟨#[32, 9, 10, 13]⟩, .int .u8 (c.toNat : Int)] w fun e w' => e = .returned (.int .i64 n) ∧ w' = w := by rw [← hn]; exact hc
  have HW : Aside0 (decide (0 ≤ n) = whiteB c) := ⟨by rw [← hn]; exact hw⟩
  clear hw hn hc hb
  go_enter Tryz.func86, Tryz.ntmps86
  go_wp2_with (go_at_call 117; refine hc'.mono ?_; rintro e w' ⟨rfl, rfl⟩)
  go_ret
  exact ⟨rbool HW.out, rfl⟩
theorem gtok_letter (c : UInt8) (w : World) : Calls Tryz.prog 91 #[.int .u8 c.toNat] w fun e w' => e = .returned (.bool (letterB c)) ∧ w' = w := by
  have hc := char_Class c w
  have HL : Aside0 (letterB c = (decide (cls c.toNat = 4) || decide (cls c.toNat = 3))) := ⟨rfl⟩
  generalize cls c.toNat = k at hc HL
  by_cases h4 : k = 4
  · subst h4
    go_enter Tryz.func91, Tryz.ntmps91
    go_wp2_with (go_at_call 90; refine hc.mono ?_; rintro e w' ⟨rfl, rfl⟩)
    go_ret
    exact ⟨rbool (by rw [HL.out]; rfl), rfl⟩
  · have hq : (k == 4) = false := beq_false_of_ne h4
    have H4 := Aside0.mk h4
    clear h4
    go_enter Tryz.func91, Tryz.ntmps91
    go_wp2_with (go_at_call 90; refine hc.mono ?_; rintro e w' ⟨rfl, rfl⟩)
    go_ret
    exact ⟨rbool (by rw [HL.out]; simp only [H4.out, decide_false, Bool.false_or]; rw [Bool.eq_iff_iff]; simp), rfl⟩
theorem gtok_sign (c : UInt8) (w : World) : Calls Tryz.prog 92 #[.int .u8 c.toNat] w fun e w' => e = .returned (.int .i64 (signS c.toNat)) ∧ w' = w := by
  have hn : ∀ k : Nat, c.toNat ≠ k → ((c.toNat : Int) == (k : Int)) = false := fun k h => beq_false_of_ne (by omega)
  by_cases h1 : c.toNat = 58
  · rw [h1, show (((58 : Nat) : Int)) = 58 from rfl]
    go_enter Tryz.func92, Tryz.ntmps92
    go_wp2
    go_ret
    exact ⟨rfl, rfl⟩
  · by_cases h2 : c.toNat = 124
    · rw [h2, show (((124 : Nat) : Int)) = 124 from rfl]
      go_enter Tryz.func92, Tryz.ntmps92
      go_wp2
      go_ret
      exact ⟨rfl, rfl⟩
    · by_cases h3 : c.toNat = 59
      · rw [h3, show (((59 : Nat) : Int)) = 59 from rfl]
        go_enter Tryz.func92, Tryz.ntmps92
        go_wp2
        go_ret
        exact ⟨rfl, rfl⟩
      · have q1 := hn 58 h1
        have q2 := hn 124 h2
        have q3 := hn 59 h3
        have HS : Aside0 (signS c.toNat = 0) := ⟨by unfold signS; rw [if_neg h1, if_neg h2, if_neg h3]⟩
        clear hn h1 h2 h3
        go_enter Tryz.func92, Tryz.ntmps92
        go_wp2
        go_ret
        exact ⟨rint HS.out.symm, rfl⟩
/-- The variable of the library's search holds some number. -/
def MxAt (w : World) : Prop := ∃ m, w.cell? ⟨0, 0, none⟩ = some (.int .i64 m)
theorem MxAt.below {w w' : World} (h : MxAt w) (hb : Below w.heap.size w w') : MxAt w' := by
  obtain ⟨m, hm⟩ := h
  exact ⟨m, pw_cell_below hb hm⟩
theorem extract_list (s : ByteArray) (a : Nat) : (s.extract a s.size).data.toList = s.data.toList.drop a := by
  rw [ByteArray.data_extract, Array.toList_extract, List.extract_eq_take_drop, List.take_of_length_le]
  rw [List.length_drop, data_length]
  omega
theorem prefix2 {s : ByteArray} {a : Nat} (h : a < s.size) (x y : UInt8) (hx : s[a]'h = x) : Lib.hasPrefix (s.data.toList.drop a) [x, y] = decide (byteN s (a + 1) = y.toNat ∧ a + 1 < s.size) := by
  have hl := data_length s
  rw [List.drop_eq_getElem_cons (by omega), show s.data.toList[a]'(by omega) = x from hx]
  by_cases h2 : a + 1 < s.size
  · rw [List.drop_eq_getElem_cons (by omega)]
    have hb := byteN_at h2
    rw [← hb]
    simp only [Lib.hasPrefix, List.isPrefixOf, beq_self_eq_true, Bool.true_and, Bool.and_true, h2, and_true]
    rw [Bool.eq_iff_iff]
    simp only [beq_iff_eq, decide_eq_true_eq]
    rw [show s.data.toList[a + 1]'(by omega) = s[a + 1]'h2 from rfl]
    constructor
    · intro h; rw [h]
    · intro h; exact (UInt8.toNat_inj.1 h).symm
  · rw [List.drop_eq_nil_of_le (by omega)]
    simp [Lib.hasPrefix, List.isPrefixOf, h2]
end Go.Proofs.YtliofoikejdjeaaGreat
/- gtok: comments, marks. -/
namespace Go.Proofs.YtliofoikejdjeaaGreat
open Go.RowKit Go.Proofs.YtliofoikejdjeaaGreatW.PrintWords
set_option linter.unusedVariables false
set_option linter.unusedSimpArgs false
theorem byteN_lt {s : ByteArray} {i : Nat} (h : byteN s i ≠ 0) : i < s.size := by
  unfold byteN at h
  split at h
  · assumption
  · exact absurd rfl h
set_option maxHeartbeats 1000000 in
theorem gtok_comment (s : ByteArray) (hs : s.size ≤ 8192) (a : Nat) (ha : a < s.size) (hx : s[a]'ha = 47) {w : World} (hm : MxAt w) :
    Calls Tryz.prog 88 #[.string s, .int .i64 a] w fun e w' => ∃ v, e = .returned (.tuple #[.int .i64 (commentS s a).1, v]) ∧ ErrIs w' v (commentS s a).2.1 (commentS s a).2.2 ∧ Below w.heap.size w w' := by
  have hp := Tryz.strings_HasPrefix (s.extract a s.size) ⟨#[47, 42]⟩ w
  rw [extract_list, show (⟨#[47, 42]⟩ : ByteArray).data.toList = [47, 42] from rfl, prefix2 ha 47 42 hx] at hp
  unfold commentS
  by_cases h1 : byteN s (a + 1) = 42
  · have hlt : a + 1 < s.size := byteN_lt (by omega)
    rw [show decide (byteN s (a + 1) = (42 : UInt8).toNat ∧ a + 1 < s.size) = true from by simp [hlt]; exact h1] at hp
    simp only [if_pos h1]
    obtain ⟨m, hm⟩ := hm
    have hi := Tryz.strings_Index (s.extract (a + 2) s.size) ⟨#[42, 47]⟩ m w (by rw [ByteArray.size_extract]; omega) hm
    rw [extract_list, show (⟨#[42, 47]⟩ : ByteArray).data.toList = [42, 47] from rfl] at hi
    have hle : Lib.index (s.data.toList.drop (a + 2)) [42, 47] ≤ 8192 := by
      have := Lib.index_le (s.data.toList.drop (a + 2)) [42, 47]
      rw [List.length_drop, data_length] at this
      omega
    generalize Lib.index (s.data.toList.drop (a + 2)) [42, 47] = n at *
    clear hm hx h1
    have hz : ¬ (s.size : Int) < (a : Int) + 2 := by omega
    by_cases h2 : n < 0
    · simp only [if_pos h2]
      go_enter Tryz.func88, Tryz.ntmps88
      go_wp2_with (first | (go_at_call 118; refine hp.mono ?_; rintro e w' ⟨rfl, rfl⟩) | (go_at_call 119; refine hi.mono ?_; rintro e w' ⟨rfl, rfl⟩) | (go_at_call 28; refine (fault_New _ _ _ (by decide)).mono ?_; rintro e w1 ⟨v, rfl, hv, hb1⟩))
      go_ret2
      exact ⟨_, rfl, hv, hb1⟩
    · simp only [if_neg h2]
      have h3 : 0 ≤ n := by omega
      go_enter Tryz.func88, Tryz.ntmps88
      go_wp2_with (first | (go_at_call 118; refine hp.mono ?_; rintro e w' ⟨rfl, rfl⟩) | (go_at_call 119; refine hi.mono ?_; rintro e w' ⟨rfl, rfl⟩))
      go_ret2
      exact ⟨_, rfl, .inl ⟨rfl, rfl⟩, Below.refl _ _⟩
  · rw [show decide (byteN s (a + 1) = (42 : UInt8).toNat ∧ a + 1 < s.size) = false from by simp; exact fun h => absurd h h1] at hp
    simp only [if_neg h1]
    clear hm hx h1
    go_enter Tryz.func88, Tryz.ntmps88
    go_wp2_with (first | (go_at_call 118; refine hp.mono ?_; rintro e w' ⟨rfl, rfl⟩) | (go_at_call 28; refine (fault_New _ _ _ (by decide)).mono ?_; rintro e w1 ⟨v, rfl, hv, hb1⟩))
    go_ret2
    exact ⟨_, rfl, hv, hb1⟩
theorem span_list (s : ByteArray) (a n : Nat) : (s.extract a (a + n)).data.toList = (s.data.toList.drop a).take n := by
  rw [ByteArray.data_extract, Array.toList_extract, List.extract_eq_take_drop, Nat.add_sub_cancel_left]
theorem letter_pred (w : World) : PredV w (.func (.func 91) #[] #[]) Vu8 letterB := ⟨_, _, rfl, fun _ _ => by kernel_rfl, fun W x v _ hv => by
  obtain rfl : v = .int .u8 x.toNat := hv
  exact (gtok_letter x W).mono fun e w' ⟨he, hw⟩ => ⟨he, hw ▸ Below.refl _ _⟩⟩
theorem white_pred (w : World) : PredV w (.func (.func 86) #[] #[]) Vu8 whiteB := ⟨_, _, rfl, fun _ _ => by kernel_rfl, fun W x v _ hv => by
  obtain rfl : v = .int .u8 x.toNat := hv
  exact (gtok_white x W).mono fun e w' ⟨he, hw⟩ => ⟨he, hw ▸ Below.refl _ _⟩⟩
set_option maxHeartbeats 2000000 in
theorem gtok_mark (s : ByteArray) (hs : s.size ≤ 8192) (a : Nat) (ha : a < s.size) (hx : s[a]'ha = 37) (w : World) :
    Calls Tryz.prog 89 #[.string s, .int .i64 a] w fun e w' => ∃ v, e = .returned (.tuple #[.int .i64 (markS s a).1, .int .i64 (markS s a).2.1, v]) ∧ ErrIs w' v (markS s a).2.2.1 (markS s a).2.2.2 ∧ Below w.heap.size w w' := by
  have hp := Tryz.strings_HasPrefix (s.extract a s.size) ⟨#[37, 37]⟩ w
  rw [extract_list, show (⟨#[37, 37]⟩ : ByteArray).data.toList = [37, 37] from rfl, prefix2 ha 37 37 hx] at hp
  unfold markS
  by_cases h1 : byteN s (a + 1) = 37
  · have hlt : a + 1 < s.size := byteN_lt (by omega)
    rw [show decide (byteN s (a + 1) = (37 : UInt8).toNat ∧ a + 1 < s.size) = true from by simp [hlt]; exact h1] at hp
    simp only [if_pos h1]
    clear hx h1
    go_enter Tryz.func89, Tryz.ntmps89
    go_wp2_with (go_at_call 118; refine hp.mono ?_; rintro e w' ⟨rfl, rfl⟩)
    go_ret3
    exact ⟨_, rfl, .inl ⟨rfl, rfl⟩, Below.refl _ _⟩
  · rw [show decide (byteN s (a + 1) = (37 : UInt8).toNat ∧ a + 1 < s.size) = false from by simp; exact fun h => absurd h h1] at hp
    simp only [if_neg h1]
    have hsp := gtok_span s (by omega) (a + 1) (by omega) letterB _ w (letter_pred w)
    have hle := spanS_le letterB s (a + 1) (by omega)
    rw [show (((a + 1 : Nat) : Int)) = (a : Int) + 1 from by omega] at hsp
    have hsl := span_list s (a + 1) (spanS letterB s (a + 1))
    generalize spanS letterB s (a + 1) = n at *
    rw [← hsl]
    clear hx h1 hsl
    have ht : (s.extract (a + 1) (a + 1 + n)).toList = (s.extract (a + 1) (a + 1 + n)).data.toList := ByteArray.toList_eq ..
    obtain ⟨t, ht'⟩ : ∃ t, (s.extract (a + 1) (a + 1 + n)).data.toList = t := ⟨_, rfl⟩
    rw [ht'] at ht ⊢
    clear ht'
    have hz1 : ¬ (s.size : Int) < (a : Int) + 1 + (n : Int) := by omega
    have hz2 : ¬ (a : Int) + 1 + (n : Int) < (a : Int) + 1 := by omega
    by_cases h2 : t = [116, 111, 107, 101, 110]
    · simp only [if_pos h2]
      go_enter Tryz.func89, Tryz.ntmps89
      go_wp2_with (first | (go_at_call 118; refine hp.mono ?_; rintro e w' ⟨rfl, rfl⟩) | (go_at_call 87; refine hsp.mono ?_; rintro e w' ⟨rfl, hb⟩))
      go_ret3
      exact ⟨_, rfl, .inl ⟨rfl, rfl⟩, hb⟩
    · have q1 : (t == [116, 111, 107, 101, 110]) = false := by simpa using h2
      simp only [if_neg h2]
      clear h2
      by_cases h3 : t = [115, 116, 97, 114, 116]
      · simp only [if_pos h3]
        go_enter Tryz.func89, Tryz.ntmps89
        go_wp2_with (first | (go_at_call 118; refine hp.mono ?_; rintro e w' ⟨rfl, rfl⟩) | (go_at_call 87; refine hsp.mono ?_; rintro e w' ⟨rfl, hb⟩))
        go_ret3
        exact ⟨_, rfl, .inl ⟨rfl, rfl⟩, hb⟩
      · have q2 : (t == [115, 116, 97, 114, 116]) = false := by simpa using h3
        simp only [if_neg h3]
        clear h3
        go_enter Tryz.func89, Tryz.ntmps89
        go_wp2_with (first | (go_at_call 118; refine hp.mono ?_; rintro e w' ⟨rfl, rfl⟩) | (go_at_call 87; refine hsp.mono ?_; rintro e w' ⟨rfl, hb⟩) | (go_at_call 28; refine (fault_New _ _ _ (by decide)).mono ?_; rintro e w1 ⟨v, rfl, hv, hb1⟩))
        go_ret3
        exact ⟨_, rfl, hv, hb.trans (hb1.mono hb.size)⟩
end Go.Proofs.YtliofoikejdjeaaGreat
/- gtok.one. -/
namespace Go.Proofs.YtliofoikejdjeaaGreat
open Go.RowKit Go.Proofs.YtliofoikejdjeaaGreatW.PrintWords
set_option linter.unusedVariables false
set_option linter.unusedSimpArgs false
theorem u8_ne {c : UInt8} {k : Nat} (h : ¬ c.toNat = k) : ((c.toNat : Int) == (k : Int)) = false := beq_false_of_ne (by omega)
theorem u8_eq {c : UInt8} {k : Nat} (h : c.toNat = k) : ((c.toNat : Int) == (k : Int)) = true := by rw [h]; simp
set_option maxHeartbeats 4000000 in
theorem gtok_one (s : ByteArray) (hs : s.size ≤ 8192) (a : Nat) (ha : a < s.size) {w : World} (hm : MxAt w) :
    Calls Tryz.prog 58 #[.string s, .int .i64 a] w fun e w' => ∃ v, e = .returned (.tuple #[.int .i64 (oneS s a).1, .int .i64 (oneS s a).2.1, v]) ∧ ErrIs w' v (oneS s a).2.2.1 (oneS s a).2.2.2 ∧ Below w.heap.size w w' := by
  unfold oneS
  simp only [dif_pos ha]
  have hw := gtok_white (s[a]'ha) w
  by_cases h1 : whiteB (s[a]'ha) = true
  · simp only [if_pos h1]
    rw [h1] at hw
    have hsp := gtok_span s (by omega) a (by omega) whiteB _ w (white_pred w)
    generalize spanS whiteB s a = n at *
    clear hm h1
    go_enter Tryz.func58, Tryz.ntmps58
    go_wp2_with (first | (go_at_call 86; refine hw.mono ?_; rintro e w' ⟨rfl, rfl⟩) | (go_at_call 87; refine hsp.mono ?_; rintro e w' ⟨rfl, hb⟩))
    go_ret3
    exact ⟨_, rfl, .inl ⟨rfl, rfl⟩, hb⟩
  · simp only [if_neg h1]
    rw [Bool.not_eq_true] at h1
    rw [h1] at hw
    clear h1
    by_cases h2 : (s[a]'ha).toNat = 47
    · simp only [if_pos h2]
      have hc := gtok_comment s hs a ha (UInt8.toNat_inj.1 h2) hm
      have q2 := u8_eq h2
      generalize commentS s a = r at *
      obtain ⟨n, c, p⟩ := r
      clear hm h2
      go_enter Tryz.func58, Tryz.ntmps58
      go_wp2_with (first | (go_at_call 86; refine hw.mono ?_; rintro e w' ⟨rfl, rfl⟩) | (go_at_call 88; refine hc.mono ?_; rintro e w1 ⟨v, rfl, hv, hb⟩))
      go_ret3
      exact ⟨_, rfl, hv, hb⟩
    · simp only [if_neg h2]
      have q2 := u8_ne h2
      clear h2
      by_cases h3 : (s[a]'ha).toNat = 39
      · simp only [if_pos h3]
        have hc := gtok_quoted s (by omega) a ha w
        have q3 := u8_eq h3
        generalize quotedS s a = r at *
        obtain ⟨n, c, p⟩ := r
        clear hm h3
        go_enter Tryz.func58, Tryz.ntmps58
        go_wp2_with (first | (go_at_call 86; refine hw.mono ?_; rintro e w' ⟨rfl, rfl⟩) | (go_at_call 77; refine hc.mono ?_; rintro e w1 ⟨v, rfl, hv, hb⟩))
        go_ret3
        exact ⟨_, rfl, hv, hb⟩
      · simp only [if_neg h3]
        have q3 := u8_ne h3
        clear h3
        by_cases h4 : (s[a]'ha).toNat = 37
        · simp only [if_pos h4]
          have hc := gtok_mark s hs a ha (UInt8.toNat_inj.1 h4) w
          have q4 := u8_eq h4
          generalize markS s a = r at *
          obtain ⟨k, n, c, p⟩ := r
          clear hm h4
          go_enter Tryz.func58, Tryz.ntmps58
          go_wp2_with (first | (go_at_call 86; refine hw.mono ?_; rintro e w' ⟨rfl, rfl⟩) | (go_at_call 89; refine hc.mono ?_; rintro e w1 ⟨v, rfl, hv, hb⟩))
          go_ret3
          exact ⟨_, rfl, hv, hb⟩
        · simp only [if_neg h4]
          have q4 := u8_ne h4
          clear h4
          have hcl := fun W => char_Class (s[a]'ha) W
          by_cases h5 : cls (s[a]'ha).toNat = 4
          · simp only [if_pos h5]
            rw [h5] at hcl
            have hsp := gtok_span s (by omega) a (by omega) letterB _ w (letter_pred w)
            generalize spanS letterB s a = n at *
            clear hm h5
            by_cases h6 : 24 < n
            · simp only [if_pos h6]
              have h6z : (24 : Int) < (n : Int) := by omega
              go_enter Tryz.func58, Tryz.ntmps58
              go_wp2_with (first | (go_at_call 86; refine hw.mono ?_; rintro e w' ⟨rfl, rfl⟩) | (go_at_call 90; refine (hcl _).mono ?_; rintro e w' ⟨rfl, rfl⟩) | (go_at_call 87; refine hsp.mono ?_; rintro e w' ⟨rfl, hb⟩) | (go_at_call 28; refine (fault_New _ _ _ (by decide)).mono ?_; rintro e w1 ⟨v, rfl, hv, hb1⟩))
              go_ret3
              exact ⟨_, rfl, hv, hb.trans (hb1.mono hb.size)⟩
            · simp only [if_neg h6]
              have h6z : ¬ (24 : Int) < (n : Int) := by omega
              go_enter Tryz.func58, Tryz.ntmps58
              go_wp2_with (first | (go_at_call 86; refine hw.mono ?_; rintro e w' ⟨rfl, rfl⟩) | (go_at_call 90; refine (hcl _).mono ?_; rintro e w' ⟨rfl, rfl⟩) | (go_at_call 87; refine hsp.mono ?_; rintro e w' ⟨rfl, hb⟩))
              go_ret3
              exact ⟨_, rfl, .inl ⟨rfl, rfl⟩, hb⟩
          · simp only [if_neg h5]
            have q5 : (cls (s[a]'ha).toNat == 4) = false := beq_false_of_ne h5
            have hsg := fun W => gtok_sign (s[a]'ha) W
            generalize cls (s[a]'ha).toNat = cl at *
            generalize signS (s[a]'ha).toNat = k at *
            clear hm h5
            by_cases h6 : k = 0
            · subst h6
              simp only [ne_eq, not_true_eq_false, if_false]
              go_enter Tryz.func58, Tryz.ntmps58
              go_wp2_with (first | (go_at_call 86; refine hw.mono ?_; rintro e w' ⟨rfl, rfl⟩) | (go_at_call 90; refine (hcl _).mono ?_; rintro e w' ⟨rfl, rfl⟩) | (go_at_call 92; refine (hsg _).mono ?_; rintro e w' ⟨rfl, rfl⟩) | (go_at_call 28; refine (fault_New _ _ _ (by decide)).mono ?_; rintro e w1 ⟨v, rfl, hv, hb1⟩))
              go_ret3
              exact ⟨_, rfl, hv, hb1⟩
            · simp only [ne_eq, h6, not_false_eq_true, if_true]
              have q6 : (k != 0) = true := by simpa using h6
              clear h6
              go_enter Tryz.func58, Tryz.ntmps58
              go_wp2_with (first | (go_at_call 86; refine hw.mono ?_; rintro e w' ⟨rfl, rfl⟩) | (go_at_call 90; refine (hcl _).mono ?_; rintro e w' ⟨rfl, rfl⟩) | (go_at_call 92; refine (hsg _).mono ?_; rintro e w' ⟨rfl, rfl⟩))
              go_ret3
              exact ⟨_, rfl, .inl ⟨rfl, rfl⟩, Below.refl _ _⟩
end Go.Proofs.YtliofoikejdjeaaGreat
/- gtok.All. -/
namespace Go.Proofs.YtliofoikejdjeaaGreat
open Go.RowKit Go.Proofs.YtliofoikejdjeaaGreatW.PrintWords
set_option linter.unusedVariables false
set_option linter.unusedSimpArgs false
theorem infoTok : (Tryz.prog.info? 85).map (fun i => (i.zero, i.size, i.bytes)) = some (some (.agg #[.int .i64 0, .string ⟨#[]⟩, .int .i64 0]), 3, 32) := by kernel_rfl
def kTk : Kd Tk := Kd.iso (Kd.pair (Kd.int .i64) (Kd.pair Kd.string (Kd.int .i64))) (fun x => (x.k, x.s, x.at_))
theorem kTk_M {w : World} {base : Nat} {ok : Nat → Prop} (x : Tk) : kTk.M w base ok x [.int .i64 x.k, .string x.s, .int .i64 x.at_] := ⟨[.int .i64 x.k], [.string x.s, .int .i64 x.at_], rfl, rfl, [.string x.s], [.int .i64 x.at_], rfl, rfl, rfl⟩
theorem kTk_open {w : World} {x : Tk} {cs : List Value} (h : kTk.K w x cs) : cs = [.int .i64 x.k, .string x.s, .int .i64 x.at_] := by
  obtain ⟨c0, c1, rfl, h0, c2, c3, rfl, h2, h3⟩ := h
  have e0 : c0 = [.int .i64 x.k] := h0
  have e2 : c2 = [.string x.s] := h2
  have e3 : c3 = [.int .i64 x.at_] := h3
  rw [e0, e2, e3]
  rfl
theorem span_pos {p : UInt8 → Bool} {s : ByteArray} {a : Nat} (ha : a < s.size) (h : p (s[a]'ha) = true) : 1 ≤ spanS p s a := by
  unfold spanS
  have hl := data_length s
  rw [List.drop_eq_getElem_cons (by omega), List.takeWhile_cons, show s.data.toList[a]'(by omega) = s[a]'ha from rfl, h]
  simp
theorem index2_le (l : List UInt8) (x y : UInt8) (h : ¬ Lib.index l [x, y] < 0) : Lib.index l [x, y] + 2 ≤ l.length := by
  induction l with
  | nil => simp [Lib.index] at h
  | cons b l ih =>
    have hge := Lib.index_ge l [x, y]
    unfold Lib.index at h ⊢
    by_cases hp : ([x, y] : List UInt8).isPrefixOf (b :: l) = true
    · rw [if_pos hp]
      cases l with
      | nil => simp [List.isPrefixOf] at hp
      | cons c l => simp only [List.length_cons]; omega
    · rw [if_neg hp] at h ⊢
      by_cases hq : (Lib.index l [x, y] == -1) = true
      · rw [if_pos hq] at h
        exact absurd (by decide) h
      · rw [if_neg hq] at h ⊢
        have hq' : Lib.index l [x, y] ≠ -1 := by simpa using hq
        have := ih (by omega)
        simp only [List.length_cons]
        omega
theorem one_bounds {s : ByteArray} {a : Nat} (ha : a < s.size) (h : (oneS s a).2.2.1 = 0) : 1 ≤ (oneS s a).2.1 ∧ (a : Int) + (oneS s a).2.1 ≤ s.size := by
  unfold oneS at h ⊢
  simp only [dif_pos ha] at h ⊢
  by_cases h1 : whiteB (s[a]'ha) = true
  · simp only [if_pos h1]
    have := span_pos ha h1
    have := spanS_le whiteB s a (by omega)
    exact ⟨by omega, by omega⟩
  · simp only [if_neg h1] at h ⊢
    by_cases h2 : (s[a]'ha).toNat = 47
    · simp only [if_pos h2] at h ⊢
      unfold commentS at h ⊢
      by_cases c1 : byteN s (a + 1) = 42
      · simp only [if_pos c1] at h ⊢
        have hlt : a + 1 < s.size := byteN_lt (by omega)
        by_cases c2 : Lib.index (s.data.toList.drop (a + 2)) [42, 47] < 0
        · simp [if_pos c2] at h
        · simp only [if_neg c2]
          have := index2_le _ _ _ c2
          rw [List.length_drop, data_length] at this
          exact ⟨by omega, by omega⟩
      · simp [if_neg c1] at h
    · simp only [if_neg h2] at h ⊢
      by_cases h3 : (s[a]'ha).toNat = 39
      · simp only [if_pos h3] at h ⊢
        unfold quotedS at h ⊢
        by_cases c1 : s.size ≤ a + (1 + spanS insideB s (a + 1))
        · simp [if_pos c1] at h
        · simp only [if_neg c1] at h ⊢
          by_cases c2 : byteN s (a + (1 + spanS insideB s (a + 1))) ≠ 39 ∨ spanS insideB s (a + 1) = 0
          · simp [if_pos c2] at h
          · simp only [if_neg c2] at h ⊢
            by_cases c3 : 23 ≤ spanS insideB s (a + 1)
            · simp [if_pos c3] at h
            · simp only [if_neg c3]
              exact ⟨by omega, by omega⟩
      · simp only [if_neg h3] at h ⊢
        by_cases h4 : (s[a]'ha).toNat = 37
        · simp only [if_pos h4] at h ⊢
          unfold markS at h ⊢
          by_cases c1 : byteN s (a + 1) = 37
          · simp only [if_pos c1]
            have hlt : a + 1 < s.size := byteN_lt (by omega)
            exact ⟨by omega, by omega⟩
          · simp only [if_neg c1] at h ⊢
            have := spanS_le letterB s (a + 1) (by omega)
            by_cases c2 : (s.data.toList.drop (a + 1)).take (spanS letterB s (a + 1)) = [116, 111, 107, 101, 110]
            · simp only [if_pos c2]
              exact ⟨by omega, by omega⟩
            · simp only [if_neg c2] at h ⊢
              by_cases c3 : (s.data.toList.drop (a + 1)).take (spanS letterB s (a + 1)) = [115, 116, 97, 114, 116]
              · simp only [if_pos c3]
                exact ⟨by omega, by omega⟩
              · simp [if_neg c3] at h
        · simp only [if_neg h4] at h ⊢
          by_cases h5 : cls (s[a]'ha).toNat = 4
          · simp only [if_pos h5] at h ⊢
            have := span_pos (p := letterB) ha (by simp [letterB, h5])
            have := spanS_le letterB s a (by omega)
            by_cases c1 : 24 < spanS letterB s a
            · simp [if_pos c1] at h
            · simp only [if_neg c1]
              exact ⟨by omega, by omega⟩
          · simp only [if_neg h5] at h ⊢
            by_cases c1 : signS (s[a]'ha).toNat ≠ 0
            · simp only [if_pos c1]
              exact ⟨by omega, by omega⟩
            · simp [if_neg c1] at h
/-- Tokens so far, and what is left. -/
def comb (acc : List Tk) (r : List Tk × Int × Int) : List Tk × Int × Int := if r.2.1 ≠ 0 then ([], r.2) else (acc ++ r.1, 0, 0)
theorem toks_end {s : ByteArray} {f a : Nat} (h : s.size ≤ a) : toksS s (f + 1) a = ([⟨0, ⟨#[]⟩, s.size⟩], 0, 0) := by rw [toksS, if_pos h]
theorem toks_bad {s : ByteArray} {f a : Nat} (h : a < s.size) (hc : (oneS s a).2.2.1 ≠ 0) : toksS s (f + 1) a = ([], (oneS s a).2.2) := by
  rw [toksS, if_neg (by omega)]
  simp only [if_pos hc]
theorem toks_step {s : ByteArray} {f a : Nat} {acc : List Tk} (h : a < s.size) (hc : (oneS s a).2.2.1 = 0) :
    comb acc (toksS s (f + 1) a) = comb (acc ++ if (oneS s a).1 = 0 then [] else [⟨(oneS s a).1, cutS s a (oneS s a).2.1.toNat, a⟩]) (toksS s f (a + (oneS s a).2.1.toNat)) := by
  rw [toksS, if_neg (by omega)]
  simp only [hc, ne_eq, not_true_eq_false, if_false]
  generalize toksS s f (a + (oneS s a).2.1.toNat) = r
  unfold comb
  by_cases hr : r.2.1 = 0
  · simp only [hr, ne_eq, not_true_eq_false, if_false]
    by_cases hk : (oneS s a).1 = 0
    · simp [hk]
    · simp [hk]
  · simp only [ne_eq, hr, not_false_eq_true, if_true]
theorem comb_nil (r : List Tk × Int × Int) (h : r.2.1 = 0 → r.2 = (0, 0)) (h' : r.2.1 ≠ 0 → r.1 = []) : comb [] r = r := by
  obtain ⟨l, c, p⟩ := r
  unfold comb
  by_cases hc : c = 0
  · subst hc
    have := h rfl
    simp at this
    simp [this]
  · have := h' hc
    simp at this
    simp [hc, this]
theorem toks_form (s : ByteArray) : ∀ (f a : Nat), ((toksS s f a).2.1 = 0 → (toksS s f a).2 = (0, 0)) ∧ ((toksS s f a).2.1 ≠ 0 → (toksS s f a).1 = []) := by
  intro f
  induction f with
  | zero => intro a; simp [toksS]
  | succ f ih =>
    intro a
    by_cases h : s.size ≤ a
    · rw [toks_end h]; simp
    · by_cases hc : (oneS s a).2.2.1 = 0
      · rw [toksS, if_neg h]
        simp only [hc, ne_eq, not_true_eq_false, if_false]
        have := ih (a + (oneS s a).2.1.toNat)
        by_cases hr : (toksS s f (a + (oneS s a).2.1.toNat)).2.1 = 0
        · simp [hr]
        · simp [hr]
      · rw [toks_bad (by omega) hc]
        simp [hc]
end Go.Proofs.YtliofoikejdjeaaGreat
/- gtok.All, walked. -/
namespace Go.Proofs.YtliofoikejdjeaaGreat
open Go.RowKit Go.Proofs.YtliofoikejdjeaaGreatW.PrintWords
set_option linter.unusedVariables false
set_option linter.unusedSimpArgs false
theorem allS_long {s : ByteArray} (h : 8192 < s.size) : allS s = ([], 5, 0) := by unfold allS; rw [if_pos h]
set_option maxHeartbeats 4000000 in
set_option maxRecDepth 100000 in
theorem gtok_All (s : ByteArray) (hs : s.size ≤ 140737488351232) {w : World} (hm : MxAt w) :
    Calls Tryz.prog 26 #[.string s] w fun e w' => ∃ vs v, e = .returned (.tuple #[vs, v]) ∧ ErrIs w' v (allS s).2.1 (allS s).2.2 ∧ Kd.R kTk 85 w' w.heap.size (fun _ => True) vs (allS s).1 ∧ Below w.heap.size w w' := by
  by_cases h1 : 8192 < s.size
  · rw [allS_long h1]
    have h1z : (8192 : Int) < (s.size : Int) := by omega
    clear hm
    go_enter Tryz.func26, Tryz.ntmps26
    go_wp2_with fail
    go_step3
    go_wp2_with (go_at_call 28; refine (fault_New _ _ _ (by decide)).mono ?_; rintro e w1 ⟨v, rfl, hv, hb1⟩)
    (try rw [Exit.noGoto_ret])
    go_ret2
    exact ⟨_, _, rfl, hv, Kd.R_nil _ _ _ _ _, hb1⟩
  · have h1z : ¬ (8192 : Int) < (s.size : Int) := by omega
    have hf := toks_form s (s.size + 1) 0
    have HA : Aside0 (comb [] (toksS s (s.size + 1) 0) = allS s) := ⟨by rw [comb_nil _ hf.1 hf.2]; unfold allS; rw [if_neg h1]⟩
    have HM := Aside0.mk hm
    clear hm hf
    generalize allS s = R at HA ⊢
    have hs8 : s.size ≤ 8192 := by omega
    go_enter Tryz.func26, Tryz.ntmps26
    go_wp2
    go_step3
    go_wp2
    go_step3
    go_wp2
    go_loopg [4, 5] (s.size + 1) (fun gg v4 v5 wr => ∃ (a f : Nat) (acc : List Tk), a ≤ s.size ∧ s.size - a < f ∧ s.size + 1 - a ≤ gg ∧ acc.length ≤ a ∧ v5 = .int .i64 a ∧ Aside0 (comb acc (toksS s f a) = R) ∧ Aside0 (Kd.R kTk 85 wr w.heap.size (fun _ => True) v4 acc) ∧ Aside0 (Below w.heap.size w wr))
    case atStart => exact ⟨0, s.size + 1, [], by omega, by omega, by omega, Nat.le_refl _, rfl, HA, ⟨Kd.R_nil _ _ _ _ _⟩, ⟨Below.refl _ _⟩⟩
    case round =>
      clear HA
      obtain ⟨a, f, acc, ha, hf, hgg, hacc, rfl, HA, HO, HB⟩ := hrel
      by_cases hlt : a < s.size
      · have hltz : ¬ (s.size : Int) ≤ (a : Int) := by omega
        obtain ⟨f, rfl⟩ : ∃ g, f = g + 1 := ⟨f - 1, by omega⟩
        have hone := gtok_one s hs8 a hlt (HM.out.below HB.out)
        by_cases hc : (oneS s a).2.2.1 = 0
        · obtain ⟨hb1, hb2⟩ := one_bounds hlt hc
          have HS := HA.out
          rw [toks_step hlt hc] at HS
          rw [hc] at hone
          obtain ⟨m, hme⟩ : ∃ m : Nat, (oneS s a).2.1 = m := ⟨(oneS s a).2.1.toNat, by omega⟩
          rw [hme] at hone HS hb1 hb2
          rw [Int.toNat_natCast] at HS
          generalize (oneS s a).1 = k at *
          generalize (oneS s a).2.2.2 = p at *
          clear hc HA hme
          have HS := Aside0.mk HS
          have hm1 : 1 ≤ m := by omega
          have hm2 : a + m ≤ s.size := by omega
          by_cases hk : k = 0
          · subst hk
            go_wp2_with (go_at_call 58; refine hone.mono ?_; rintro e w1 ⟨v, rfl, hv, hb3⟩; obtain rfl := hv.nil; clear hv)
            go_roundg (s.size + 1 - (a + m))
            case measure => omega
            case rel =>
              refine ⟨a + m, f, acc, by omega, by omega, by omega, by omega, by go_num, ⟨?_⟩, ⟨Kd.R_below HO.out hb3⟩, ⟨HB.out.trans (hb3.mono HB.out.size)⟩⟩
              have := HS.out
              simpa using this
          · have hk1 : (k != 0) = true := by simpa using hk
            have HK := Aside0.mk hk
            clear hk
            have hz1 : ¬ (s.size : Int) < (a : Int) + (m : Int) := by omega
            have hz2 : ¬ (a : Int) + (m : Int) < (a : Int) := by omega
            go_wp2_with (first
              | (go_at_call 58; refine hone.mono ?_; rintro e w1 ⟨v, rfl, hv, hb3⟩; obtain rfl := hv.nil; clear hv; have HB3 := Aside0.mk hb3; clear hb3)
              | (at_builtin; go_loud (refine Kd.R_append kTk (w0 := w) w.heap.size rfl (.tmp 29) (.tmp 39) 52 85 (.agg #[.int .i64 0, .string ⟨#[]⟩, .int .i64 0]) 32 rfl Tryz.underlying52 infoTok rfl (by decide) (by omega) u4 acc ⟨k, cutS s a m, a⟩ [.int .i64 k, .string (cutS s a m), .int .i64 a] (fun _ => True) (fun _ => False) rfl ?aX ?aP (fun _ hk => hk.elim) ?aF ?aO ?aB ?aS ?aL ?_); (case aX => simp [Act.eval]); (case aP => exact kTk_M _); (case aF => exact (fun _ _ => trivial)); (case aO => exact Kd.R_below HO.out HB3.out); (case aB => exact HB.out.trans (HB3.out.mono HB.out.size)); (case aS => exact (HB.out.trans (HB3.out.mono HB.out.size)).size); (case aL => omega); intro v1 w4 ho hb hg hat))
            go_roundg (s.size + 1 - (a + m))
            case measure => omega
            case rel =>
              refine ⟨a + m, f, acc ++ [⟨k, cutS s a m, a⟩], by omega, by omega, by omega, by rw [List.length_append]; simp only [List.length_cons, List.length_nil]; omega, by go_num, ⟨?_⟩, ⟨ho⟩, ⟨hb⟩⟩
              have := HS.out
              rw [if_neg HK.out] at this
              exact this
        · have HR : Aside0 (R = ([], (oneS s a).2.2)) := ⟨by rw [← HA.out, toks_bad hlt hc]; unfold comb; rw [if_pos hc]⟩
          generalize (oneS s a).1 = k at *
          generalize (oneS s a).2.1 = m at *
          generalize (oneS s a).2.2 = q at *
          obtain ⟨c, p⟩ := q
          have HC := Aside0.mk hc
          clear hc HA
          go_wp2_with (go_at_call 58; refine hone.mono ?_; rintro e w1 ⟨v, rfl, hv, hb3⟩; have HV := Aside0.mk hv; obtain ⟨b, rfl⟩ := hv.some_ HC.out; clear hv)
          (try rw [Exit.noGoto_ret])
          go_ret2
          exact ⟨_, _, rfl, by rw [HR.out]; exact HV.out, by rw [HR.out]; exact Kd.R_nil _ _ _ _ _, HB.out.trans (hb3.mono HB.out.size)⟩
      · have hltz : (s.size : Int) ≤ (a : Int) := by omega
        obtain ⟨f, rfl⟩ : ∃ g, f = g + 1 := ⟨f - 1, by omega⟩
        have HR : Aside0 (R = (acc ++ [⟨0, ⟨#[]⟩, s.size⟩], 0, 0)) := ⟨by rw [← HA.out, toks_end (by omega)]; unfold comb; rw [if_neg (by simp)]⟩
        clear HA
        go_wp2_with (at_builtin; go_loud (refine Kd.R_append kTk (w0 := w) w.heap.size rfl (.tmp 44) (.tmp 48) 52 85 (.agg #[.int .i64 0, .string ⟨#[]⟩, .int .i64 0]) 32 rfl Tryz.underlying52 infoTok rfl (by decide) (by omega) u4 acc ⟨0, ⟨#[]⟩, s.size⟩ [.int .i64 0, .string ⟨#[]⟩, .int .i64 s.size] (fun _ => True) (fun _ => False) rfl ?aX ?aP (fun _ hk => hk.elim) ?aF ?aO ?aB ?aS ?aL ?_); (case aX => simp [Act.eval]); (case aP => exact kTk_M _); (case aF => exact (fun _ _ => trivial)); (case aO => exact HO.out); (case aB => exact HB.out); (case aS => exact HB.out.size); (case aL => omega); intro v1 w4 ho hb hg hat)
        (try rw [Exit.noGoto_ret])
        go_ret2
        exact ⟨_, _, rfl, by rw [HR.out]; exact .inl ⟨rfl, rfl⟩, by rw [HR.out]; exact ho, hb⟩
end Go.Proofs.YtliofoikejdjeaaGreat
/- gread's reader: what it looks at, what it takes. -/
namespace Go.Proofs.YtliofoikejdjeaaGreat
open Go.RowKit Go.Proofs.YtliofoikejdjeaaGreatW.PrintWords
set_option linter.unusedVariables false
set_option linter.unusedSimpArgs false
/-- Nothing but block b has turned. -/
structure BelowBut (b : Nat) (w w' : World) : Prop where
  os : w'.os = w.os
  tape : w'.tape = w.tape
  output : w'.output = w.output
  size : w.heap.size ≤ w'.heap.size
  block : ∀ k, k < w.heap.size → k ≠ b → w'.heap[k]? = w.heap[k]?
theorem BelowBut.refl (b : Nat) (w : World) : BelowBut b w w := ⟨rfl, rfl, rfl, Nat.le_refl _, fun _ _ _ => rfl⟩
theorem BelowBut.trans {b : Nat} {w w1 w2 : World} (h : BelowBut b w w1) (k : BelowBut b w1 w2) : BelowBut b w w2 :=
  ⟨k.os.trans h.os, k.tape.trans h.tape, k.output.trans h.output, Nat.le_trans h.size k.size, fun i hi hb => (k.block i (Nat.lt_of_lt_of_le hi h.size) hb).trans (h.block i hi hb)⟩
theorem BelowBut.of {b : Nat} {w w1 : World} (h : Below w.heap.size w w1) : BelowBut b w w1 := ⟨h.os, h.tape, h.output, h.size, fun i hi _ => h.block i hi⟩
theorem BelowBut.alloc {b : Nat} {w w1 : World} (h : BelowBut b w w1) (o : Obj) : BelowBut b w (w1.alloc o) := h.trans (.of (below_alloc (Below.refl _ _) o))
theorem BelowBut.drew {b : Nat} {w w1 : World} (h : BelowBut b w w1) : BelowBut b w w1.drew := h.trans (.of (below_drew (Below.refl _ _)))
theorem BelowBut.set {b : Nat} {w w1 : World} (h : BelowBut b w w1) (i : Nat) (v : Value) : BelowBut b w (w1.setCell ⟨b, i, none⟩ v) :=
  ⟨h.os, h.tape, h.output, by simpa using h.size, fun k hk hb => (Below.heap_setCell w1 ⟨b, i, none⟩ v k hb).trans (h.block k hk hb)⟩
/-- A store into a new block. -/
theorem BelowBut.setNew {b g : Nat} {w w1 : World} (h : BelowBut b w w1) (hg : w.heap.size ≤ g) (i : Nat) (v : Value) : BelowBut b w (w1.setCell ⟨g, i, none⟩ v) :=
  ⟨h.os, h.tape, h.output, by simpa using h.size, fun k hk hb => (Below.heap_setCell w1 ⟨g, i, none⟩ v k (fun e : k = g => by omega)).trans (h.block k hk hb)⟩
theorem BelowBut.below {b B : Nat} {w w1 : World} (h : BelowBut b w w1) (hB : B ≤ b) (hs : B ≤ w.heap.size) : Below B w w1 := ⟨h.os, h.tape, h.output, h.size, fun k hk => h.block k (by omega) (by omega)⟩
/-- A token's value. -/
def tkV (t : Tk) : Value := .agg #[.int .i64 t.k, .string t.s, .int .i64 t.at_]
/-- The reader's block: its tokens, which lie below; its other cells. -/
structure RL (W0 w : World) (b : Nat) (l : List Tk) (v1 v2 v3 v4 v5 : Value) : Prop where
  below : Below W0.heap.size W0 w
  hb : W0.heap.size ≤ b
  cells : ∃ ad c, w.heap[b]? = some (.cells #[.slice (some ad) l.length c, v1, v2, v3, v4, v5] 62 (0, 0)) ∧ l.length ≤ c ∧ Kd.C kTk W0 (some ad) l.length l
  pos : 0 < l.length
theorem C_tail {α : Type} {d : Kd α} {w : World} {ad : Addr} {x : α} {l : List α} (h : d.C w (some ad) (x :: l).length (x :: l)) : d.C w (some (ad.add d.sz)) l.length l := by
  obtain ⟨h1, h2, h3⟩ := h
  refine ⟨rfl, by simp only [List.length_cons] at h2; omega, fun hp => ?_⟩
  obtain ⟨ad', e, hr⟩ := h3 (by simp)
  obtain rfl := Option.some.inj e
  refine ⟨_, rfl, fun j p hj => ?_⟩
  obtain ⟨c, hc1, hc2, hc3⟩ := hr (j + 1) p (by simpa using hj)
  refine ⟨c, hc1, hc2, fun i u hu => ?_⟩
  have := hc3 i u hu
  rw [← this]
  rw [Addr.add_add, show d.sz + (j * d.sz + i) = (j + 1) * d.sz + i from by rw [Nat.add_mul, Nat.one_mul]; omega]
theorem tok_at {w : World} {ad : Addr} {x : Tk} {l : List Tk} (h : kTk.C w (some ad) (x :: l).length (x :: l)) : w.cell? ad = some (.int .i64 x.k) ∧ w.cell? ⟨ad.block, ad.off + 1, none⟩ = some (.string x.s) ∧ w.cell? ⟨ad.block, ad.off + 2, none⟩ = some (.int .i64 x.at_) := by
  obtain ⟨_, _, h3⟩ := h
  obtain ⟨ad', e, hr⟩ := h3 (by simp)
  obtain rfl := Option.some.inj e
  obtain ⟨c, hc1, hc2, hc3⟩ := hr 0 x rfl
  have e := kTk_open hc2
  subst e
  have k0 := hc3 0 _ rfl
  have k1 := hc3 1 _ rfl
  have k2 := hc3 2 _ rfl
  rw [show (0 : Nat) * kTk.sz + 1 = 0 + 1 from rfl, add_field _ _ _ (by omega)] at k1
  rw [show (0 : Nat) * kTk.sz + 2 = 0 + 2 from rfl, add_field _ _ _ (by omega)] at k2
  have e0 : ad.add (0 * kTk.sz + 0) = ad := by
    show ad.add 0 = ad
    unfold Addr.add
    split <;> simp_all
  have e1 : ad.add 0 = ad := by
    unfold Addr.add
    split <;> simp_all
  rw [e0] at k0
  rw [e1] at k1 k2
  exact ⟨k0, k1, k2⟩
theorem RL.head {W0 w : World} {b : Nat} {l : List Tk} {v1 v2 v3 v4 v5 : Value} (h : RL W0 w b l v1 v2 v3 v4 v5) : ∃ ad c, w.cell? ⟨b, 0, none⟩ = some (.slice (some ad) l.length c) ∧ l.length ≤ c ∧ w.cell? ad = some (.int .i64 (hd l).k) ∧ w.cell? ⟨ad.block, ad.off + 1, none⟩ = some (.string (hd l).s) ∧ w.cell? ⟨ad.block, ad.off + 2, none⟩ = some (.int .i64 (hd l).at_) := by
  obtain ⟨ad, c, hk, hc, hC⟩ := h.cells
  refine ⟨ad, c, (blk_cell hk 0).trans rfl, hc, ?_⟩
  cases l with
  | nil => exact absurd h.pos (Nat.lt_irrefl 0)
  | cons x l => exact tok_at (Kd.C_below hC h.below)
theorem rd_is {W0 w : World} {b : Nat} {l : List Tk} {v1 v2 v3 v4 v5 : Value} (h : RL W0 w b l v1 v2 v3 v4 v5) (k : Int) :
    Calls Tryz.prog 59 #[.pointer (some ⟨b, 0, none⟩), .int .i64 k] w fun e w' => e = .returned (.bool ((hd l).k == k)) ∧ w' = w := by
  obtain ⟨ad, c, c0, hc, k0, k1, k2⟩ := h.head
  have hp := h.pos
  clear h
  generalize (hd l).k = x at *
  go_enter Tryz.func59, Tryz.ntmps59
  go_wp2
  go_ret
  exact ⟨rfl, rfl⟩
theorem rd_symbol {W0 w : World} {b : Nat} {l : List Tk} {v1 v2 v3 v4 v5 : Value} (h : RL W0 w b l v1 v2 v3 v4 v5) :
    Calls Tryz.prog 93 #[.pointer (some ⟨b, 0, none⟩)] w fun e w' => e = .returned (.bool (symB (hd l))) ∧ w' = w := by
  have h1 := rd_is h 1
  have h2 := rd_is h 2
  have HS : Aside0 (symB (hd l) = (((hd l).k == 1) || ((hd l).k == 2))) := ⟨by unfold symB; rw [Bool.eq_iff_iff]; simp⟩
  clear h
  generalize symB (hd l) = sb at *
  cases hk : ((hd l).k == 1) with
  | true =>
    rw [hk] at h1
    have HK := Aside0.mk hk
    clear hk
    go_enter Tryz.func93, Tryz.ntmps93
    go_wp2_with (go_at_call 59; refine h1.mono ?_; rintro e w' ⟨rfl, rfl⟩)
    go_ret
    exact ⟨rbool (by rw [HS.out, HK.out]; rfl), rfl⟩
  | false =>
    rw [hk] at h1
    have HK := Aside0.mk hk
    clear hk
    obtain ⟨y, hy⟩ : ∃ y, ((hd l).k == 2) = y := ⟨_, rfl⟩
    rw [hy] at h2 HS
    clear hy
    go_enter Tryz.func93, Tryz.ntmps93
    go_wp2_with (first | (go_at_call 59; ((with_reducible refine h1.mono ?_); rintro e w' ⟨rfl, rfl⟩)) | (go_at_call 59; ((with_reducible refine h2.mono ?_); rintro e w' ⟨rfl, rfl⟩)))
    go_ret
    exact ⟨rbool (by rw [HS.out, HK.out]; rfl), rfl⟩
/-- What a reader gives up with. -/
def wrongV (e p : Int) : Value := .iface 56 (.agg #[.int .i64 e, .int .i64 p])
def Panics (f : Ft) (ev : Ending) : Prop := ∃ older, ev = .panicked ({ v := wrongV f.1 f.2, recovered := false } :: older) ∧ older.dropWhile (fun x => !x.goexit) = []
theorem gread_fail (e p : Int) (w : World) : Calls Tryz.prog 99 #[.int .i64 e, .int .i64 p] w fun ev w' => Panics (e, p) ev ∧ w' = w := by
  go_enter Tryz.func99, Tryz.ntmps99
  go_wp2
  exact ⟨rfl, ⟨[], rfl, rfl⟩, rfl⟩
set_option maxHeartbeats 1000000 in
theorem rd_take {W0 w : World} {b : Nat} {x : Tk} {l : List Tk} {v1 v2 v3 v4 v5 : Value} (h : RL W0 w b (x :: l) v1 v2 v3 v4 v5) (hl : 0 < l.length) :
    Calls Tryz.prog 61 #[.pointer (some ⟨b, 0, none⟩)] w fun e w' => e = .returned (tkV x) ∧ RL W0 w' b l v1 v2 v3 v4 v5 ∧ BelowBut b w w' := by
  obtain ⟨ad, c, hk, hc, hC⟩ := h.cells
  obtain ⟨k0, k1, k2⟩ := tok_at (Kd.C_below hC h.below)
  have HH := Aside0.mk h
  have HC := Aside0.mk (C_tail hC)
  have c0 := (blk_cell hk 0).trans rfl
  have cf := blk_frozen hk 0
  have HK := Aside0.mk hk
  have hlt := blk_lt hk
  have hlt2 := World.block_lt_of_cell? _ _ k0
  simp only [List.length_cons] at hc c0
  clear h hC hk
  go_enter Tryz.func61, Tryz.ntmps61
  go_wp2
  refine bodyPost_ret (v := tkV x) (by simp [results, Tryz.results61, go_sem, tkV]) rfl ⟨rfl, ?_, ?_⟩
  · have hb : Below W0.heap.size W0 (((w.setCell ⟨b, 0, none⟩ (.slice (some ⟨ad.block, ad.off + 3, none⟩) l.length (c - 1))).alloc (.cells #[.int .i64 x.k, .string x.s, .int .i64 x.at_] 85)).alloc (.cells #[.int .i64 x.k, .string x.s, .int .i64 x.at_] 85)) :=
      ((HH.out.below.setCell (p := ⟨b, 0, none⟩) HH.out.hb _).alloc (by simpa using HH.out.below.size) _).alloc (by have := HH.out.below.size; simp; omega) _
    refine ⟨hb, HH.out.hb, ⟨_, _, blk_alloc (blk_alloc (blk_set HK.out 0 _) _) _, by omega, HC.out⟩, hl⟩
  · exact ((((BelowBut.refl b w).set 0 _).alloc _).alloc _)
theorem tend_two {x : Tk} {l : List Tk} (h : ∃ l0 t, x :: l = l0 ++ [t] ∧ t.k = 0) (hx : x.k ≠ 0) : 0 < l.length ∧ ∃ l0 t, l = l0 ++ [t] ∧ t.k = 0 := by
  obtain ⟨l0, t, e, ht⟩ := h
  cases l0 with
  | nil =>
    simp only [List.nil_append, List.cons.injEq] at e
    exact absurd (by rw [e.1]; exact ht) hx
  | cons y l0 =>
    simp only [List.cons_append, List.cons.injEq] at e
    obtain ⟨rfl, rfl⟩ := e
    exact ⟨by simp, l0, t, rfl, ht⟩
theorem rd_bad {W0 w : World} {b : Nat} {l : List Tk} {v1 v2 v3 v4 v5 : Value} (h : RL W0 w b l v1 v2 v3 v4 v5) :
    Calls Tryz.prog 94 #[.pointer (some ⟨b, 0, none⟩)] w fun e w' => Panics (badS l) e ∧ w' = w := by
  have h1 := rd_is h 0
  obtain ⟨ad, c, c0, hc, k0, k1, k2⟩ := h.head
  have hp := h.pos
  have HB : Aside0 (badS l = if (hd l).k = 0 then (4, (hd l).at_) else (3, (hd l).at_)) := ⟨rfl⟩
  clear h
  generalize badS l = f at *
  generalize (hd l).at_ = p at *
  by_cases hk : (hd l).k = 0
  · have hf : f = (4, p) := by rw [HB.out, if_pos hk]
    subst hf
    rw [hk] at h1
    clear HB hk
    go_enter Tryz.func94, Tryz.ntmps94
    go_wp2_with (first | (go_at_call 59; refine h1.mono ?_; rintro e w' ⟨rfl, rfl⟩) | (go_at_call 99; refine (gread_fail _ _ _).mono ?_; rintro e w' ⟨⟨older, rfl, ho⟩, rfl⟩))
    exact ⟨rfl, ⟨older, rfl, ho⟩, rfl⟩
  · have hf : f = (3, p) := by rw [HB.out, if_neg hk]
    subst hf
    rw [show ((hd l).k == 0) = false from beq_false_of_ne hk] at h1
    clear HB hk
    go_enter Tryz.func94, Tryz.ntmps94
    go_wp2_with (first | (go_at_call 59; refine h1.mono ?_; rintro e w' ⟨rfl, rfl⟩) | (go_at_call 99; refine (gread_fail _ _ _).mono ?_; rintro e w' ⟨⟨older, rfl, ho⟩, rfl⟩))
    exact ⟨rfl, ⟨older, rfl, ho⟩, rfl⟩
theorem RL.later {W0 w w1 : World} {b : Nat} {l : List Tk} {v1 v2 v3 v4 v5 : Value} (h : RL W0 w b l v1 v2 v3 v4 v5) (hb : Below w.heap.size w w1) : RL W0 w1 b l v1 v2 v3 v4 v5 := by
  obtain ⟨ad, c, hk, hc, hC⟩ := h.cells
  exact ⟨h.below.trans (hb.mono h.below.size), h.hb, ⟨ad, c, blk_below hk hb, hc, hC⟩, h.pos⟩
theorem RL.alloc {W0 w : World} {b : Nat} {l : List Tk} {v1 v2 v3 v4 v5 : Value} (h : RL W0 w b l v1 v2 v3 v4 v5) (o : Obj) : RL W0 (w.alloc o) b l v1 v2 v3 v4 v5 := h.later (below_alloc (Below.refl _ _) o)
theorem RL.setOther {W0 w : World} {b g : Nat} {l : List Tk} {v1 v2 v3 v4 v5 : Value} (h : RL W0 w b l v1 v2 v3 v4 v5) (hg : g ≠ b) (hW : W0.heap.size ≤ g) (i : Nat) (v : Value) : RL W0 (w.setCell ⟨g, i, none⟩ v) b l v1 v2 v3 v4 v5 := by
  obtain ⟨ad, c, hk, hc, hC⟩ := h.cells
  exact ⟨h.below.setCell (p := ⟨g, i, none⟩) hW v, h.hb, ⟨ad, c, blk_far (p := ⟨g, i, none⟩) hk (Ne.symm hg) v, hc, hC⟩, h.pos⟩
theorem results_c {P : Program} {fn : Func} {p : Tmp} {ty : TypeId} (h : fn.results = #[.cell p ty]) (tmps : Array Value) (w : World) (g : Nat) (t : TypeId) (cs : Array Value) (fr : Nat × Nat) (d : TypeDesc)
    (hp : tmps.getD p undef = .pointer (some ⟨g, 0, none⟩)) (hg : w.heap[g]? = some (.cells cs t fr))
    (hu : P.underlying ty = some d) (hd : (match d with | .struct _ | .array _ _ => true | _ => false) = true) (hi : (P.info? ty).map (·.size) = some cs.size) :
    (results fn tmps).run P w = .ok (.agg cs) w := by
  have hp' : tmps[p]?.getD undef = .pointer (some ⟨g, 0, none⟩) := by simpa using hp
  simp [results, h, hp', asAddr, run_loadVar_row w g t ty cs fr d hg hu hd hi]
theorem rd_isn {W0 w : World} {b : Nat} {l : List Tk} {v1 v2 v3 v4 v5 : Value} (h : RL W0 w b l v1 v2 v3 v4 v5) {k : Int} (hk : (hd l).k ≠ k) :
    Calls Tryz.prog 59 #[.pointer (some ⟨b, 0, none⟩), .int .i64 k] w fun e w' => e = .returned (.bool false) ∧ w' = w := by
  have h1 := rd_is h k
  rw [show ((hd l).k == k) = false from beq_false_of_ne hk] at h1
  exact h1
theorem rd_isy {W0 w : World} {b : Nat} {l : List Tk} {v1 v2 v3 v4 v5 : Value} (h : RL W0 w b l v1 v2 v3 v4 v5) {k : Int} (hk : (hd l).k = k) :
    Calls Tryz.prog 59 #[.pointer (some ⟨b, 0, none⟩), .int .i64 k] w fun e w' => e = .returned (.bool true) ∧ w' = w := by
  have h1 := rd_is h k
  rw [show ((hd l).k == k) = true from by rw [hk]; exact beq_self_eq_true k] at h1
  exact h1
theorem rd_want_no {W0 w : World} {b : Nat} {l : List Tk} {v1 v2 v3 v4 v5 : Value} (h : RL W0 w b l v1 v2 v3 v4 v5) {k : Int} (hk : (hd l).k ≠ k) :
    Calls Tryz.prog 95 #[.pointer (some ⟨b, 0, none⟩), .int .i64 k] w fun e w' => Panics (badS l) e ∧ BelowBut b w w' := by
  have H := Aside0.mk h
  have HK := Aside0.mk hk
  clear h hk
  go_enter Tryz.func95, Tryz.ntmps95
  go_wp2_with (first | (go_at_call 59; refine (rd_isn (H.out.alloc _) HK.out).mono ?_; rintro e w' ⟨rfl, rfl⟩) | (go_at_call 94; refine (rd_bad (H.out.alloc _)).mono ?_; rintro e w' ⟨⟨older, rfl, ho⟩, rfl⟩))
  exact ⟨rfl, ⟨older, rfl, ho⟩, (BelowBut.refl b w).alloc _⟩
theorem rd_want {W0 w : World} {b : Nat} {x : Tk} {l : List Tk} {v1 v2 v3 v4 v5 : Value} (h : RL W0 w b (x :: l) v1 v2 v3 v4 v5) (hl : 0 < l.length) {k : Int} (hk : x.k = k) :
    Calls Tryz.prog 95 #[.pointer (some ⟨b, 0, none⟩), .int .i64 k] w fun e w' => e = .returned (tkV x) ∧ RL W0 w' b l v1 v2 v3 v4 v5 ∧ BelowBut b w w' := by
  have H := Aside0.mk h
  have HK := Aside0.mk (show (hd (x :: l)).k = k from hk)
  have HS := Aside0.mk (show w.heap.size ≠ b from fun e => by obtain ⟨ad, c, hk, _⟩ := h.cells; have := blk_lt hk; omega)
  clear h hk
  go_enter Tryz.func95, Tryz.ntmps95
  go_wp2_with (first | (go_at_call 59; refine (rd_isy (H.out.alloc _) HK.out).mono ?_; rintro e w' ⟨rfl, rfl⟩) | (go_at_call 61; refine (rd_take (H.out.alloc _) hl).mono ?_; rintro e w2 ⟨rfl, h2, hb2⟩; have hn : w2.heap[w.heap.size]? = some (.cells #[.int .i64 0, .string ⟨#[]⟩, .int .i64 0] 85 (0, 0)) := (hb2.block _ (by simp) HS.out).trans (blk_new w _); have f0 := (blk_cell hn 0).trans rfl; have f1 := (blk_cell hn 1).trans rfl; have f2 := (blk_cell hn 2).trans rfl; have g0 := blk_frozen hn 0; have g1 := blk_frozen hn 1; have g2 := blk_frozen hn 2; have H2 := Aside0.mk h2; have HB2 := Aside0.mk hb2; have HN := Aside0.mk hn; clear h2 hb2 hn; unfold tkV))
  have b3 := blk_set (blk_set (blk_set HN.out 0 (.int .i64 x.k)) 1 (.string x.s)) 2 (.int .i64 x.at_)
  have hW : W0.heap.size ≤ w.heap.size := H.out.below.size
  refine bodyPost_ret (results_c (fn := Tryz.f95) rfl _ _ w.heap.size 85 _ (0, 0) _ rfl b3 Tryz.underlying85 rfl (by kernel_rfl)) rfl ⟨rfl, ((H2.out.setOther HS.out hW 0 _).setOther HS.out hW 1 _).setOther HS.out hW 2 _, ?_⟩
  exact (((((BelowBut.refl b w).alloc _).trans HB2.out).setNew (Nat.le_refl _) 0 _).setNew (Nat.le_refl _) 1 _).setNew (Nat.le_refl _) 2 _
end Go.Proofs.YtliofoikejdjeaaGreat
