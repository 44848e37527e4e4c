/- Errors at places: what they are in memory; their texts. -/
import Derived.Test.YtnkmpinlijfocaaFmtBase
import Derived.Test.YtnkmpinlijfocaaFmtDet2
import Derived.Stop.CallBack
import Derived.Stop.IfaceNil
import GoSem.ClaimData
namespace Go.Proofs.YtnkmpinlijfocaaFmt
open Go.RowKit Go.Proofs.YtnkmpinlijfocaaFmtW.PrintWords Go.Extern.Stop Go.Stop Go.Extern
set_option linter.unusedVariables false
set_option linter.unusedSimpArgs false
theorem putAll_put {o : Oper} {os : List Oper} {v : Value} {vs : List Value} {a a' c : Act} (h1 : a.put o.dst v = a') (h2 : putAll os vs a' = c) : putAll (o :: os) (v :: vs) a = c := by
  rw [putAll, h1]
  exact h2
theorem putAll_nil (a : Act) : putAll [] [] a = a := rfl
inductive Er where
  | place (e : Int) (at_ : Int)
  | named (n : ByteArray) (i : Er)
  | wrap (m : ByteArray) (i : Er)
  | other (s : ByteArray)
def tPlace : TypeId := 45
def ErAt (w : World) : Value → Er → Prop
  | v, .place e a => ∃ b, v = .iface 45 (.pointer (some ⟨b, 0, none⟩)) ∧ w.heap[b]? = some (.cells #[.int .i64 e, .int .i64 a] 47 (0, 0))
  | v, .named n i => ∃ b u, v = .iface 48 (.pointer (some ⟨b, 0, none⟩)) ∧ w.heap[b]? = some (.cells #[.string n, u] 50 (0, 0)) ∧ ErAt w u i
  | v, .wrap m i => ∃ b u, v = .iface 53 (.pointer (some ⟨b, 0, none⟩)) ∧ w.heap[b]? = some (.cells #[.string m, u] 110 (0, 0)) ∧ ErAt w u i
  | v, .other s => ∃ b, v = .iface 62 (.pointer (some ⟨b, 0, none⟩)) ∧ w.heap[b]? = some (.cells #[.string s] 64 (0, 0))
theorem ErAt.below {w w' : World} (hb : Below w.heap.size w w') : ∀ {E : Er} {v : Value}, ErAt w v E → ErAt w' v E := by
  intro E
  induction E with
  | place e a => rintro v ⟨b, rfl, h⟩; exact ⟨b, rfl, blk_below h hb⟩
  | named n i ih => rintro v ⟨b, u, rfl, h, hu⟩; exact ⟨b, u, rfl, blk_below h hb, ih hu⟩
  | wrap m i ih => rintro v ⟨b, u, rfl, h, hu⟩; exact ⟨b, u, rfl, blk_below h hb, ih hu⟩
  | other s => rintro v ⟨b, rfl, h⟩; exact ⟨b, rfl, blk_below h hb⟩
/-- What Error tells. -/
def Er.text : Er → ByteArray
  | .place _ _ => ⟨#[99, 111, 110, 99, 104, 58, 32, 97, 110, 32, 101, 114, 114, 111, 114]⟩
  | .named n i => n ++ ⟨#[58, 32]⟩ ++ i.text
  | .wrap m _ => m
  | .other s => s
/-- The function that tells it. -/
def Er.fn : Er → FuncId
  | .place _ _ => 49
  | .named _ _ => 51
  | .wrap _ _ => 53
  | .other _ => 55
/-- Its type's name. -/
def Er.tname : Er → String
  | .place _ _ => "*fault.place"
  | .named _ _ => "*fault.named"
  | .wrap _ _ => "*fmt.wrapError"
  | .other _ => "*errors.errorString"
/-- Does fmt read its text out of memory? (Else it calls Error.) -/
def Er.plain : Er → Bool
  | .place _ _ => false
  | .named _ _ => false
  | .wrap _ _ => true
  | .other _ => true
def Er.small : Er → Prop
  | .place _ _ => True
  | .named n i => n.size + i.text.size ≤ 4611686018427387904 ∧ i.small
  | .wrap _ _ => True
  | .other _ => True
theorem inv45 (x : Value) (w : World) : (invoke (.fn (.method "Error") #[]) #[.iface 45 x]).run Tryf.prog w = .ok (.enter 49 #[x]) w := by kernel_rfl
theorem inv48 (x : Value) (w : World) : (invoke (.fn (.method "Error") #[]) #[.iface 48 x]).run Tryf.prog w = .ok (.enter 51 #[x]) w := by kernel_rfl
theorem inv53 (x : Value) (w : World) : (invoke (.fn (.method "Error") #[]) #[.iface 53 x]).run Tryf.prog w = .ok (.enter 53 #[x]) w := by kernel_rfl
theorem inv62 (x : Value) (w : World) : (invoke (.fn (.method "Error") #[]) #[.iface 62 x]).run Tryf.prog w = .ok (.enter 55 #[x]) w := by kernel_rfl
theorem met45 (x : Value) (w : World) : (Go.method 225 45 x "Error").run Tryf.prog w = .ok (49, x) w := by kernel_rfl
theorem met48 (x : Value) (w : World) : (Go.method 225 48 x "Error").run Tryf.prog w = .ok (51, x) w := by kernel_rfl
theorem met53 (x : Value) (w : World) : (Go.method 225 53 x "Error").run Tryf.prog w = .ok (53, x) w := by kernel_rfl
theorem met62 (x : Value) (w : World) : (Go.method 225 62 x "Error").run Tryf.prog w = .ok (55, x) w := by kernel_rfl
theorem act45 (name : String) (x : Value) (w : World) : (FmtCalls.act name true 119 false (.iface 45 x)).run Tryf.prog w = .ok (.call true) w := by kernel_rfl
theorem isE45 (w : World) : (FmtDoors.textMethod 45 "Error").run Tryf.prog w = .ok true w := by kernel_rfl
theorem str45 (w : World) : (typeStr 45).run Tryf.prog w = .ok "*fault.place" w := by kernel_rfl
theorem act48 (name : String) (x : Value) (w : World) : (FmtCalls.act name true 119 false (.iface 48 x)).run Tryf.prog w = .ok (.call true) w := by kernel_rfl
theorem isE48 (w : World) : (FmtDoors.textMethod 48 "Error").run Tryf.prog w = .ok true w := by kernel_rfl
theorem str48 (w : World) : (typeStr 48).run Tryf.prog w = .ok "*fault.named" w := by kernel_rfl
theorem isE53 (w : World) : (FmtDoors.textMethod 53 "Error").run Tryf.prog w = .ok true w := by kernel_rfl
theorem str53 (w : World) : (typeStr 53).run Tryf.prog w = .ok "*fmt.wrapError" w := by kernel_rfl
theorem isE62 (w : World) : (FmtDoors.textMethod 62 "Error").run Tryf.prog w = .ok true w := by kernel_rfl
theorem str62 (w : World) : (typeStr 62).run Tryf.prog w = .ok "*errors.errorString" w := by kernel_rfl
theorem enters_ (E : Er) (x : Value) (w : World) : (callFunc E.fn #[x]).run Tryf.prog w = .ok (.enter E.fn #[x]) w := by
  cases E <;> kernel_rfl
/-- How Error is found at an error. -/
structure Tells (v : Value) (E : Er) (t : TypeId) (x : Value) : Prop where
  val : v = .iface t x
  inv : ∀ W : World, (invoke (.fn (.method "Error") #[]) #[v]).run Tryf.prog W = .ok (.enter E.fn #[x]) W
  met : ∀ W : World, (Go.method 225 t x "Error").run Tryf.prog W = .ok (E.fn, x) W
  act : E.plain = false → ∀ (name : String) (W : World), (FmtCalls.act name true 119 false (.iface t x)).run Tryf.prog W = .ok (.call true) W
  isE : ∀ W : World, (FmtDoors.textMethod t "Error").run Tryf.prog W = .ok true W
  str : ∀ W : World, (typeStr t).run Tryf.prog W = .ok E.tname W
  und : ∃ e, Tryf.prog.underlying t = some (.pointer e)
theorem place_Error {w : World} {b : Nat} {e a : Int} (h : w.heap[b]? = some (.cells #[.int .i64 e, .int .i64 a] 47 (0, 0))) :
    Calls Tryf.prog 49 #[.pointer (some ⟨b, 0, none⟩)] w fun ev w' => ev = .returned (.string (Er.place e a).text) ∧ Below w.heap.size w w' := by
  have c0 : w.cell? ⟨b, 0, none⟩ = some (.int .i64 e) := by simp [World.cell?, h]
  clear h
  go_enter Tryf.func49, Tryf.ntmps49
  go_wp2
  go_ret
  exact ⟨rfl, Below.refl _ _⟩
theorem wrap_Error {w : World} {b : Nat} {m : ByteArray} {u : Value} (h : w.heap[b]? = some (.cells #[.string m, u] 110 (0, 0))) :
    Calls Tryf.prog 53 #[.pointer (some ⟨b, 0, none⟩)] w fun ev w' => ev = .returned (.string m) ∧ Below w.heap.size w w' := by
  have c0 : w.cell? ⟨b, 0, none⟩ = some (.string m) := by simp [World.cell?, h]
  clear h
  go_enter Tryf.func53, Tryf.ntmps53
  go_wp2
  go_ret
  exact ⟨rfl, Below.refl _ _⟩
theorem other_Error {w : World} {b : Nat} {m : ByteArray} (h : w.heap[b]? = some (.cells #[.string m] 64 (0, 0))) :
    Calls Tryf.prog 55 #[.pointer (some ⟨b, 0, none⟩)] w fun ev w' => ev = .returned (.string m) ∧ Below w.heap.size w w' := by
  have c0 : w.cell? ⟨b, 0, none⟩ = some (.string m) := by simp [World.cell?, h]
  clear h
  go_enter Tryf.func55, Tryf.ntmps55
  go_wp2
  go_ret
  exact ⟨rfl, Below.refl _ _⟩
set_option maxRecDepth 100000 in
/-- Error, at any error: by its own function. -/
theorem er_Error : ∀ (E : Er) {w : World} {v : Value}, ErAt w v E → E.small → ∃ t x, Tells v E t x ∧ Calls Tryf.prog E.fn #[x] w fun ev w' => ev = .returned (.string E.text) ∧ Below w.heap.size w w' := by
  intro E
  induction E with
  | place e a =>
    rintro w v ⟨b, rfl, h⟩ hs
    exact ⟨_, _, ⟨rfl, fun W => inv45 _ W, fun W => met45 _ W, fun _ nm W => act45 nm _ W, isE45, str45, _, Tryf.underlying45⟩, place_Error h⟩
  | wrap m i ih =>
    rintro w v ⟨b, u, rfl, h, hu⟩ hs
    exact ⟨_, _, ⟨rfl, fun W => inv53 _ W, fun W => met53 _ W, fun hp => Bool.noConfusion hp, isE53, str53, _, Tryf.underlying53⟩, wrap_Error h⟩
  | other s =>
    rintro w v ⟨b, rfl, h⟩ hs
    exact ⟨_, _, ⟨rfl, fun W => inv62 _ W, fun W => met62 _ W, fun hp => Bool.noConfusion hp, isE62, str62, _, Tryf.underlying62⟩, other_Error h⟩
  | named n i ih =>
    rintro w v ⟨b, u, rfl, h, hu⟩ ⟨hs1, hs2⟩
    refine ⟨_, _, ⟨rfl, fun W => inv48 _ W, fun W => met48 _ W, fun _ nm W => act48 nm _ W, isE48, str48, _, Tryf.underlying48⟩, ?_⟩
    obtain ⟨tu, xu, hte, _⟩ := ih hu hs2
    obtain rfl := hte.val
    have hmet := hte.met
    have hent := enters_ i xu
    have KI : Aside0 (∀ W, Below w.heap.size w W → Calls Tryf.prog i.fn #[xu] W fun ev w' => ev = .returned (.string i.text) ∧ Below W.heap.size W w') := ⟨fun W hb => by
      obtain ⟨t2, x2, h2, hc⟩ := ih (hu.below hb) hs2
      have := h2.val
      simp only [Value.iface.injEq] at this
      obtain ⟨rfl, rfl⟩ := this
      exact hc⟩
    have hcell : ∀ W, Below w.heap.size w W → W.cell? ⟨b, 0, none⟩ = some (.string n) ∧ W.cell? ⟨b, 1, none⟩ = some (.iface tu xu) := fun W hb => by
      have := blk_below h hb
      exact ⟨blk_cell this 0, blk_cell this 1⟩
    have KEY := Aside0.mk hcell
    have z1 : ¬ 9223372036854775807 < n.size + 2 := by omega
    have z2 : ¬ 9223372036854775807 < n.size + 2 + i.text.size := by omega
    have HT : Aside0 ((Er.named n i).text = n ++ ⟨#[58, 32]⟩ ++ i.text) := ⟨rfl⟩
    clear h hu hs1 hs2 ih hcell hte
    generalize (Er.named n i).text = tt at *
    generalize i.text = ti at *
    generalize i.fn = fi at *
    go_enter Tryf.func51, Tryf.ntmps51
    go_wp2
    refine wp_region_det (vs := [?d1xv0, ?d1xv1, ?d1xv2, ?d1xv3, ?d1xv4, ?d1xv5, ?d1xv6, ?d1xv7, ?d1xv8, ?d1xv9, ?d1xv10, ?d1xv11]) (fun w' => Below w.heap.size w w') rfl (by kernel_rfl) (putAll_put (by simp only [Act.put, List.setIfInBounds_toArray, List.set_cons_zero, List.set_cons_succ]; rfl) (putAll_put (by simp only [Act.put, List.setIfInBounds_toArray, List.set_cons_zero, List.set_cons_succ]; rfl) (putAll_put (by simp only [Act.put, List.setIfInBounds_toArray, List.set_cons_zero, List.set_cons_succ]; rfl) (putAll_put (by simp only [Act.put, List.setIfInBounds_toArray, List.set_cons_zero, List.set_cons_succ]; rfl) (putAll_put (by simp only [Act.put, List.setIfInBounds_toArray, List.set_cons_zero, List.set_cons_succ]; rfl) (putAll_put (by simp only [Act.put, List.setIfInBounds_toArray, List.set_cons_zero, List.set_cons_succ]; rfl) (putAll_put (by simp only [Act.put, List.setIfInBounds_toArray, List.set_cons_zero, List.set_cons_succ]; rfl) (putAll_put (by simp only [Act.put, List.setIfInBounds_toArray, List.set_cons_zero, List.set_cons_succ]; rfl) (putAll_put (by simp only [Act.put, List.setIfInBounds_toArray, List.set_cons_zero, List.set_cons_succ]; rfl) (putAll_put (by simp only [Act.put, List.setIfInBounds_toArray, List.set_cons_zero, List.set_cons_succ]; rfl) (putAll_put (by simp only [Act.put, List.setIfInBounds_toArray, List.set_cons_zero, List.set_cons_succ]; rfl) (putAll_put (by simp only [Act.put, List.setIfInBounds_toArray, List.set_cons_zero, List.set_cons_succ]; rfl) (putAll_nil _))))))))))))) (below_drew (Below.refl _ _)) ?d1xOps ?d1xFin
    case d1xOps =>
      refine ⟨fun w' hw => ?d1xo0, fun w' hw => ?d1xo1, fun w' hw => ?d1xo2, fun w' hw => ?d1xo3, fun w' hw => ?d1xo4, fun w' hw => ?d1xo5, fun w' hw => ?d1xo6, fun w' hw => ?d1xo7, fun w' hw => ?d1xo8, fun w' hw => ?d1xo9, fun w' hw => ?d1xo10, fun w' hw => ?d1xo11, trivial⟩
      case d1xo0 => (obtain ⟨f0, f1⟩ := KEY.out w' hw); go_simp; rfl
      case d1xo1 => (obtain ⟨f0, f1⟩ := KEY.out w' hw); go_simp; rfl
      case d1xo2 => (obtain ⟨f0, f1⟩ := KEY.out w' hw); go_simp; rfl
      case d1xo3 => (obtain ⟨f0, f1⟩ := KEY.out w' hw); go_simp; rfl
      case d1xo4 => (obtain ⟨f0, f1⟩ := KEY.out w' hw); go_simp; rfl
      case d1xo5 => (obtain ⟨f0, f1⟩ := KEY.out w' hw); go_simp; rfl
      case d1xo6 => (obtain ⟨f0, f1⟩ := KEY.out w' hw); go_simp; rfl
      case d1xo7 => (obtain ⟨f0, f1⟩ := KEY.out w' hw); go_simp; rfl
      case d1xo8 => (obtain ⟨f0, f1⟩ := KEY.out w' hw); go_simp; rfl
      case d1xo9 => (obtain ⟨f0, f1⟩ := KEY.out w' hw); (go_simp; refine (KI.out w' hw).mono ?_; rintro e w2 ⟨rfl, hb2⟩; exact ⟨by rfl, hw.trans (hb2.mono hw.size)⟩)
      case d1xo10 => (obtain ⟨f0, f1⟩ := KEY.out w' hw); go_simp; rfl
      case d1xo11 => (obtain ⟨f0, f1⟩ := KEY.out w' hw); go_simp; rfl
    case d1xFin =>
      intro w1 hw1
      go_wp2
      go_ret
      exact ⟨by rw [HT.out]; rfl, hw1⟩
end Go.Proofs.YtnkmpinlijfocaaFmt
