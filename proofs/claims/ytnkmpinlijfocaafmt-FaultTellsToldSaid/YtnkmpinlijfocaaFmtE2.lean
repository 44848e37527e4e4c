/- fault.New, fault.In, errors.New, Unwrap; fmt.Errorf by its contract. -/
import Derived.Test.YtnkmpinlijfocaaFmtE1
namespace Go.Proofs.YtnkmpinlijfocaaFmt
open Go.RowKit Go.Proofs.YtnkmpinlijfocaaFmtW.PrintWords Go.Extern.Stop Go.Stop Go.Extern
set_option linter.unusedVariables false
set_option linter.unusedSimpArgs false
theorem fault_New0 (a : Int) (w : World) : Calls Tryf.prog 5 #[.int .i64 0, .int .i64 a] w fun ev w' => ev = .returned .nilIface ∧ w' = w := by
  go_enter Tryf.func5, Tryf.ntmps5
  go_wp2
  go_ret
  exact ⟨rfl, rfl⟩
theorem fault_New {e : Int} (a : Int) (he : e ≠ 0) (w : World) : Calls Tryf.prog 5 #[.int .i64 e, .int .i64 a] w fun ev w' => ∃ v, ev = .returned v ∧ ErAt w' v (.place e a) ∧ Below w.heap.size w w' := by
  have hq : (e == 0) = false := beq_false_of_ne he
  go_enter Tryf.func5, Tryf.ntmps5
  go_wp2
  go_ret
  exact ⟨_, rfl, ⟨_, rfl, blk_new w _⟩, below_alloc (Below.refl _ _) _⟩
theorem fault_In0 (n : ByteArray) (w : World) : Calls Tryf.prog 6 #[.string n, .nilIface] w fun ev w' => ev = .returned .nilIface ∧ w' = w := by
  go_enter Tryf.func6, Tryf.ntmps6
  go_wp2
  go_ret
  exact ⟨rfl, rfl⟩
theorem erAt_iface {w : World} {v : Value} {E : Er} (h : ErAt w v E) : ∃ t b, v = .iface t (.pointer (some ⟨b, 0, none⟩)) := by
  cases E with
  | place e a => obtain ⟨b, rfl, _⟩ := h; exact ⟨_, b, rfl⟩
  | named n i => obtain ⟨b, u, rfl, _⟩ := h; exact ⟨_, b, rfl⟩
  | wrap m i => obtain ⟨b, u, rfl, _⟩ := h; exact ⟨_, b, rfl⟩
  | other s => obtain ⟨b, rfl, _⟩ := h; exact ⟨_, b, rfl⟩
theorem fault_In (n : ByteArray) {w : World} {v : Value} {E : Er} (h : ErAt w v E) : Calls Tryf.prog 6 #[.string n, v] w fun ev w' => ∃ v, ev = .returned v ∧ ErAt w' v (.named n E) ∧ Below w.heap.size w w' := by
  have H := Aside0.mk h
  obtain ⟨t, b, rfl⟩ := erAt_iface h
  clear h
  go_enter Tryf.func6, Tryf.ntmps6
  go_wp2
  go_ret
  have hb := below_alloc (Below.refl w.heap.size w) (.cells #[.string n, .iface t (.pointer (some ⟨b, 0, none⟩))] 50)
  exact ⟨_, rfl, ⟨_, _, rfl, blk_new w _, H.out.below hb⟩, hb⟩
theorem errors_New (s : ByteArray) (w : World) : Calls Tryf.prog 20 #[.string s] w fun ev w' => ∃ v, ev = .returned v ∧ ErAt w' v (.other s) ∧ Below w.heap.size w w' := by
  go_enter Tryf.func20, Tryf.ntmps20
  go_wp2
  go_ret
  exact ⟨_, rfl, ⟨_, rfl, blk_new w _⟩, below_alloc (Below.refl _ _) _⟩
theorem named_Unwrap {w : World} {b : Nat} {n : ByteArray} {u : Value} (h : w.heap[b]? = some (.cells #[.string n, u] 50 (0, 0))) : Calls Tryf.prog 52 #[.pointer (some ⟨b, 0, none⟩)] w fun ev w' => ev = .returned u ∧ w' = w := by
  have c1 : w.cell? ⟨b, 1, none⟩ = some u := by simp [World.cell?, h]
  clear h
  go_enter Tryf.func52, Tryf.ntmps52
  go_wp2
  go_ret
  exact ⟨rfl, rfl⟩
theorem wrap_Unwrap {w : World} {b : Nat} {n : ByteArray} {u : Value} (h : w.heap[b]? = some (.cells #[.string n, u] 110 (0, 0))) : Calls Tryf.prog 54 #[.pointer (some ⟨b, 0, none⟩)] w fun ev w' => ev = .returned u ∧ w' = w := by
  have c1 : w.cell? ⟨b, 1, none⟩ = some u := by simp [World.cell?, h]
  clear h
  go_enter Tryf.func54, Tryf.ntmps54
  go_wp2
  go_ret
  exact ⟨rfl, rfl⟩
@[go_sem] theorem call_errorf (args : Array Value) (w : World) : (callFunc 19 args).run Tryf.prog w = (FmtCalls.errorf #[9, 51] #[24] args).run Tryf.prog w :=
  run_callFunc_next Tryf.func19 (by kernel_rfl) (by kernel_rfl) (by kernel_rfl) args w
@[go_sem] theorem fmt_guard (name : String) (w : World) : (FmtStop.guard name).run Tryf.prog w = .ok () w := by kernel_rfl
theorem nextTurns : Extern.next FmtCalls.turnsRow = some (FmtCalls.begun #[] #[]) := by kernel_rfl
theorem nextReturned : Extern.next FmtCalls.returnedRow = some (FmtCalls.returned #[] #[]) := by kernel_rfl
/-- What fmt is asked. -/
def askedOf (f : List UInt8) (E : Er) : List (List UInt8) := [f, if E.plain then 14 :: FmtStop.pack E.tname.toUTF8.data.toList else 19 :: 0 :: FmtStop.pack E.tname.toByteArray.data.toList, E.text.data.toList]
@[go_sem] theorem ptr53 (w : World) : (FmtStop.ptrTo "fmt.wrapError").run Tryf.prog w = .ok 53 w := by kernel_rfl
@[go_sem] theorem elem53 (w : World) : (elemOf 53).run Tryf.prog w = .ok 110 w := by kernel_rfl
theorem op62 (name : String) (a : Addr) (s : ByteArray) (w : World) (hc : w.cell? a = some (.string s)) :
    (FmtStop.operand name true 119 false (.iface 62 (.pointer (some a)))).run Tryf.prog w = .ok (14 :: FmtStop.pack "*errors.errorString".toUTF8.data.toList, s.data.toList) w := by
  have h1 : (typeStr 62).run Tryf.prog w = .ok "*errors.errorString" w := by kernel_rfl
  have d2 : Tryf.t62.desc = .pointer 64 := rfl
  have d3 : Tryf.t64.desc = .named "errors.errorString" 63 := rfl
  simp [FmtStop.operand, h1, d2, d3, run_load, hc]
theorem op53 (name : String) (a : Addr) (s : ByteArray) (w : World) (hc : w.cell? a = some (.string s)) :
    (FmtStop.operand name true 119 false (.iface 53 (.pointer (some a)))).run Tryf.prog w = .ok (14 :: FmtStop.pack "*fmt.wrapError".toUTF8.data.toList, s.data.toList) w := by
  have h1 : (typeStr 53).run Tryf.prog w = .ok "*fmt.wrapError" w := by kernel_rfl
  have d2 : Tryf.t53.desc = .pointer 110 := rfl
  have d3 : Tryf.t110.desc = .named "fmt.wrapError" 109 := rfl
  simp [FmtStop.operand, h1, d2, d3, run_load, hc]
theorem act53 (name : String) (x : Value) (w : World) : (FmtCalls.act name true 119 false (.iface 53 x)).run Tryf.prog w = .ok (.closed true) w := by kernel_rfl
theorem act62 (name : String) (x : Value) (w : World) : (FmtCalls.act name true 119 false (.iface 62 x)).run Tryf.prog w = .ok (.closed true) w := by kernel_rfl
theorem plain_op {w : World} {v : Value} {E : Er} (h : ErAt w v E) (hp : E.plain = true) : ∃ t x, v = .iface t x ∧ (∀ name : String, (FmtStop.operand name true 119 false (.iface t x)).run Tryf.prog w = .ok (14 :: FmtStop.pack E.tname.toUTF8.data.toList, E.text.data.toList) w) ∧
    (∀ (name : String) (W : World), (FmtCalls.act name true 119 false (.iface t x)).run Tryf.prog W = .ok (.closed true) W) ∧ ∀ W : World, (FmtDoors.textMethod t "Error").run Tryf.prog W = .ok true W := by
  cases E with
  | place e a => exact Bool.noConfusion hp
  | named n i => exact Bool.noConfusion hp
  | wrap m i =>
    obtain ⟨b, u, rfl, hb, _⟩ := h
    exact ⟨_, _, rfl, fun name => op53 name _ m w (blk_cell hb 0), fun name W => act53 name _ W, isE53⟩
  | other s =>
    obtain ⟨b, rfl, hb⟩ := h
    exact ⟨_, _, rfl, fun name => op62 name _ s w (blk_cell hb 0), fun name W => act62 name _ W, isE62⟩
@[go_sem] theorem fmt_y : FmtStop.printed? ⟨#[121, 58, 32, 37, 119]⟩ 1 = some [(0, 119, false)] := by kernel_rfl
@[go_sem] theorem fmtr_y (w : World) : (FmtDoors.printed ⟨#[121, 58, 32, 37, 119]⟩ 1).run Tryf.prog w = .ok [(0, 119, false)] w := by kernel_rfl
@[go_sem] theorem fmt0_y : FmtStop.printed? ⟨#[121, 58, 32, 37, 119]⟩ 0 = some [] := by kernel_rfl
@[go_sem] theorem fmt0r_y (w : World) : (FmtDoors.printed ⟨#[121, 58, 32, 37, 119]⟩ 0).run Tryf.prog w = .ok [] w := by kernel_rfl
set_option maxHeartbeats 1600000 in
set_option maxRecDepth 100000 in
theorem errorf_y (F : Interp) {w : World} {v : Value} {E : Er} {blk : Nat} (hF : F.answers w.tape) (h : ErAt w v E) (hs : E.small) (hp : E.plain = false) (hc0 : w.cell? ⟨blk, 0, none⟩ = some v) :
    Calls Tryf.prog 8 #[.string ⟨#[121, 58, 32, 37, 119]⟩, .slice (some ⟨blk, 0, none⟩) 1 1] w fun e w' => ∃ v', e = .returned v' ∧ ErAt w' v' (.wrap (FmtStop.textOf (F "fmt.errorf" (askedOf [121, 58, 32, 37, 119] E) 0)) E) ∧ Below w.heap.size w w' := by
  have hF' := answers_open hF
  have hb : blk < w.heap.size := World.block_lt_of_cell? _ _ hc0
  obtain ⟨t, x, hT, hE⟩ := er_Error E h hs
  have hv := hT.val
  have H := Aside0.mk h
  subst hv
  have a1 := hT.act hp
  have a2 := hT.isE
  have a3 := hT.str
  have a4 := hT.inv
  obtain ⟨te, a5⟩ := hT.und
  have a6 : ∀ W : World, (underlying t).run Tryf.prog W = .ok (.pointer te) W := fun W => run_underlying a5 W
  clear h
  go_enter Tryf.func8, Tryf.ntmps8
  go_wp2
  apply rows_call nextTurns
  case hr =>
    go_simp
    exact ⟨⟨rfl, rfl, rfl⟩, rfl⟩
  case hi => exact a4 _
  case hc =>
    refine hE.mono ?_
    rintro e w3 ⟨rfl, hx⟩
    have hF3 : ∀ i name reading k range, w3.tape i (.extern (word name reading k) range) = F name reading k := by rw [hx.tape]; exact hF'
    have hc03 : w3.cell? ⟨blk, 0, none⟩ = some (.iface t x) := by rw [hx.cell hb]; exact hc0
    have HP : Aside0 (askedOf [121, 58, 32, 37, 119] E = [[121, 58, 32, 37, 119], 19 :: 0 :: FmtStop.pack E.tname.toByteArray.data.toList, E.text.data.toList]) := ⟨by unfold askedOf; rw [if_neg (by rw [hp]; exact Bool.noConfusion)]⟩
    apply rows_value nextReturned
    case hr =>
      go_simp
      exact ⟨rfl, rfl⟩
    case h =>
      go_wp2
      go_ret
      have hb2 := hx.trans ((below_drew1 (below_alloc (Below.refl _ w3) (.cells #[.string (FmtStop.textOf (F "fmt.errorf" (askedOf [121, 58, 32, 37, 119] E) 0)), .iface t x] 110))).mono hx.size)
      rw [HP.out] at *
      exact ⟨_, rfl, ⟨w3.heap.size, _, rfl, blk_drew (blk_new w3 _), H.out.below hb2⟩, hb2⟩
set_option maxHeartbeats 1600000 in
set_option maxRecDepth 100000 in
theorem errorfp_y (F : Interp) {w : World} {v : Value} {E : Er} {blk : Nat} (hF : F.answers w.tape) (h : ErAt w v E) (hs : E.small) (hp : E.plain = true) (hc0 : w.cell? ⟨blk, 0, none⟩ = some v) :
    Calls Tryf.prog 8 #[.string ⟨#[121, 58, 32, 37, 119]⟩, .slice (some ⟨blk, 0, none⟩) 1 1] w fun e w' => ∃ v', e = .returned v' ∧ ErAt w' v' (.wrap (FmtStop.textOf (F "fmt.errorf" (askedOf [121, 58, 32, 37, 119] E) 0)) E) ∧ Below w.heap.size w w' := by
  have hF' := answers_open hF
  obtain ⟨t, x, rfl, hop, hact, hisE⟩ := plain_op h hp
  have H := Aside0.mk h
  have HP : Aside0 (askedOf [121, 58, 32, 37, 119] E = [[121, 58, 32, 37, 119], 14 :: FmtStop.pack E.tname.toUTF8.data.toList, E.text.data.toList]) := ⟨by unfold askedOf; rw [if_pos hp]⟩
  clear h
  go_enter Tryf.func8, Tryf.ntmps8
  go_wp2
  apply rows_value nextTurns
  case hr =>
    go_simp
    exact ⟨rfl, rfl⟩
  case h =>
    go_wp2
    go_ret
    have hb2 := below_drew1 (below_alloc (Below.refl _ w) (.cells #[.string (FmtStop.textOf (F "fmt.errorf" (askedOf [121, 58, 32, 37, 119] E) 0)), .iface t x] 110))
    rw [HP.out] at *
    exact ⟨_, rfl, ⟨w.heap.size, _, rfl, blk_drew (blk_new w _), H.out.below hb2⟩, hb2⟩
@[go_sem] theorem fmt_more : FmtStop.printed? ⟨#[109, 111, 114, 101, 58, 32, 37, 119]⟩ 1 = some [(0, 119, false)] := by kernel_rfl
@[go_sem] theorem fmtr_more (w : World) : (FmtDoors.printed ⟨#[109, 111, 114, 101, 58, 32, 37, 119]⟩ 1).run Tryf.prog w = .ok [(0, 119, false)] w := by kernel_rfl
@[go_sem] theorem fmt0_more : FmtStop.printed? ⟨#[109, 111, 114, 101, 58, 32, 37, 119]⟩ 0 = some [] := by kernel_rfl
@[go_sem] theorem fmt0r_more (w : World) : (FmtDoors.printed ⟨#[109, 111, 114, 101, 58, 32, 37, 119]⟩ 0).run Tryf.prog w = .ok [] w := by kernel_rfl
set_option maxHeartbeats 1600000 in
set_option maxRecDepth 100000 in
theorem errorf_more (F : Interp) {w : World} {v : Value} {E : Er} {blk : Nat} (hF : F.answers w.tape) (h : ErAt w v E) (hs : E.small) (hp : E.plain = false) (hc0 : w.cell? ⟨blk, 0, none⟩ = some v) :
    Calls Tryf.prog 8 #[.string ⟨#[109, 111, 114, 101, 58, 32, 37, 119]⟩, .slice (some ⟨blk, 0, none⟩) 1 1] w fun e w' => ∃ v', e = .returned v' ∧ ErAt w' v' (.wrap (FmtStop.textOf (F "fmt.errorf" (askedOf [109, 111, 114, 101, 58, 32, 37, 119] E) 0)) E) ∧ Below w.heap.size w w' := by
  have hF' := answers_open hF
  have hb : blk < w.heap.size := World.block_lt_of_cell? _ _ hc0
  obtain ⟨t, x, hT, hE⟩ := er_Error E h hs
  have hv := hT.val
  have H := Aside0.mk h
  subst hv
  have a1 := hT.act hp
  have a2 := hT.isE
  have a3 := hT.str
  have a4 := hT.inv
  obtain ⟨te, a5⟩ := hT.und
  have a6 : ∀ W : World, (underlying t).run Tryf.prog W = .ok (.pointer te) W := fun W => run_underlying a5 W
  clear h
  go_enter Tryf.func8, Tryf.ntmps8
  go_wp2
  apply rows_call nextTurns
  case hr =>
    go_simp
    exact ⟨⟨rfl, rfl, rfl⟩, rfl⟩
  case hi => exact a4 _
  case hc =>
    refine hE.mono ?_
    rintro e w3 ⟨rfl, hx⟩
    have hF3 : ∀ i name reading k range, w3.tape i (.extern (word name reading k) range) = F name reading k := by rw [hx.tape]; exact hF'
    have hc03 : w3.cell? ⟨blk, 0, none⟩ = some (.iface t x) := by rw [hx.cell hb]; exact hc0
    have HP : Aside0 (askedOf [109, 111, 114, 101, 58, 32, 37, 119] E = [[109, 111, 114, 101, 58, 32, 37, 119], 19 :: 0 :: FmtStop.pack E.tname.toByteArray.data.toList, E.text.data.toList]) := ⟨by unfold askedOf; rw [if_neg (by rw [hp]; exact Bool.noConfusion)]⟩
    apply rows_value nextReturned
    case hr =>
      go_simp
      exact ⟨rfl, rfl⟩
    case h =>
      go_wp2
      go_ret
      have hb2 := hx.trans ((below_drew1 (below_alloc (Below.refl _ w3) (.cells #[.string (FmtStop.textOf (F "fmt.errorf" (askedOf [109, 111, 114, 101, 58, 32, 37, 119] E) 0)), .iface t x] 110))).mono hx.size)
      rw [HP.out] at *
      exact ⟨_, rfl, ⟨w3.heap.size, _, rfl, blk_drew (blk_new w3 _), H.out.below hb2⟩, hb2⟩
set_option maxHeartbeats 1600000 in
set_option maxRecDepth 100000 in
theorem errorfp_more (F : Interp) {w : World} {v : Value} {E : Er} {blk : Nat} (hF : F.answers w.tape) (h : ErAt w v E) (hs : E.small) (hp : E.plain = true) (hc0 : w.cell? ⟨blk, 0, none⟩ = some v) :
    Calls Tryf.prog 8 #[.string ⟨#[109, 111, 114, 101, 58, 32, 37, 119]⟩, .slice (some ⟨blk, 0, none⟩) 1 1] w fun e w' => ∃ v', e = .returned v' ∧ ErAt w' v' (.wrap (FmtStop.textOf (F "fmt.errorf" (askedOf [109, 111, 114, 101, 58, 32, 37, 119] E) 0)) E) ∧ Below w.heap.size w w' := by
  have hF' := answers_open hF
  obtain ⟨t, x, rfl, hop, hact, hisE⟩ := plain_op h hp
  have H := Aside0.mk h
  have HP : Aside0 (askedOf [109, 111, 114, 101, 58, 32, 37, 119] E = [[109, 111, 114, 101, 58, 32, 37, 119], 14 :: FmtStop.pack E.tname.toUTF8.data.toList, E.text.data.toList]) := ⟨by unfold askedOf; rw [if_pos hp]⟩
  clear h
  go_enter Tryf.func8, Tryf.ntmps8
  go_wp2
  apply rows_value nextTurns
  case hr =>
    go_simp
    exact ⟨rfl, rfl⟩
  case h =>
    go_wp2
    go_ret
    have hb2 := below_drew1 (below_alloc (Below.refl _ w) (.cells #[.string (FmtStop.textOf (F "fmt.errorf" (askedOf [109, 111, 114, 101, 58, 32, 37, 119] E) 0)), .iface t x] 110))
    rw [HP.out] at *
    exact ⟨_, rfl, ⟨w.heap.size, _, rfl, blk_drew (blk_new w _), H.out.below hb2⟩, hb2⟩
end Go.Proofs.YtnkmpinlijfocaaFmt
