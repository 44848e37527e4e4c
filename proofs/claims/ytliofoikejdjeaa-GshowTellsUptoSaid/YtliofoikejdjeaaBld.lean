/- strings.Builder: copyCheck, WriteByte, WriteString, String. -/
import Derived.Test.YtliofoikejdjeaaBase
import Derived.Lib.OthersKept
import Derived.Lib.UnsafeStr
import Derived.Lib.Builder
import Derived.Laws.Externs
import Derived.OneCell
import Derived.Shelf.RegionOpenPlain
import Derived.Tactics
namespace Go.Proofs.Ytliofoikejdjeaa
open Go.RowKit Go.Proofs.YtliofoikejdjeaaW.PrintWords
set_option linter.unusedVariables false
set_option linter.unusedSimpArgs false
/-- A builder that holds s. -/
def Bld (w : World) (B b : Nat) (s : ByteArray) : Prop :=
  B ≤ b ∧ ∃ p v, (p = .pointer none ∨ p = .pointer (some ⟨b, 0, none⟩)) ∧ w.heap[b]? = some (.cells #[p, v] 40 (0, 0)) ∧ w.ownsRow B 5 1 v (bytesOf s).length (nums .u8 (bytesOf s)) ∧ v.ownBlock ≠ some b
/-- All other blocks but rows of bytes stand. -/
def Keep (b : Nat) (w w' : World) : Prop := Lib.OthersKept 5 (some b) w w'
theorem infoU8 : (Try.prog.info? 5).map (fun i => (i.zero, i.size, i.bytes)) = some (some (.int .u8 0), 1, 1) := by kernel_rfl
theorem bytesOf_add (s t : ByteArray) : bytesOf (s ++ t) = bytesOf s ++ bytesOf t := by
  simp [bytesOf, ByteArray.toList_data_append]
theorem bytes_ne {B b : Nat} {w : World} {v : Value} {xs : List Value} {n : Nat} {cs : Array Value} {T : TypeId} {fr : Nat × Nat} (ho : w.ownsRow B 5 1 v n xs) (hb : w.heap[b]? = some (.cells cs T fr)) (hT : T ≠ 5) : v.ownBlock ≠ some b := by
  intro e
  rcases ho.2 with ⟨rfl, _⟩ | ⟨g, cap, cur, rfl, _, hg, _⟩
  · simp [Value.ownBlock] at e
  · simp only [Value.ownBlock, Option.some.injEq] at e
    subst e
    rw [hb] at hg
    simp at hg
    exact hT hg.2.1
/-- A builder that has been written on, with its row. -/
def BldV (w : World) (B b : Nat) (v : Value) (s : ByteArray) : Prop :=
  B ≤ b ∧ w.heap[b]? = some (.cells #[.pointer (some ⟨b, 0, none⟩), v] 40 (0, 0)) ∧ w.ownsRow B 5 1 v (bytesOf s).length (nums .u8 (bytesOf s)) ∧ v.ownBlock ≠ some b
theorem BldV.bld {w : World} {B b : Nat} {v : Value} {s : ByteArray} (h : BldV w B b v s) : Bld w B b s := ⟨h.1, _, v, .inr rfl, h.2.1, h.2.2.1, h.2.2.2⟩
theorem heap_put {w : World} {b : Nat} {p v x : Value} {T : TypeId} (h : w.heap[b]? = some (.cells #[p, v] T (0, 0))) (i : Nat) (hi : i < 2) :
    (w.setCell ⟨b, i, none⟩ x).heap[b]? = some (.cells (#[p, v].set! i x) T (0, 0)) := by
  simp [World.setCell, Array.getElem?_modify, h]
theorem Keep.put {b : Nat} {w w' : World} (h : Keep b w w') (i : Nat) (v : Value) : Keep b w (w'.setCell ⟨b, i, none⟩ v) := Lib.OthersKept.setCell h ⟨b, i, none⟩ rfl _
set_option maxHeartbeats 1000000 in
set_option maxRecDepth 100000 in
theorem copyCheck_ {w : World} {B b : Nat} {s : ByteArray} (h : Bld w B b s) : Calls Try.prog 38 #[.pointer (some ⟨b, 0, none⟩)] w fun e w' => e = .returned (.tuple #[]) ∧ (∃ v, BldV w' B b v s) ∧ Below B w w' ∧ Keep b w w' := by
  obtain ⟨hB, p, v, hp, hb, ho, hn⟩ := h
  rcases hp with rfl | rfl
  · have h0 : w.cell? ⟨b, 0, none⟩ = some (.pointer none) := by simp [World.cell?, hb]
    have hfz : w.frozen? ⟨b, 0, none⟩ = false := by simp [World.frozen?, hb]
    have hsh : w.shape? b = some (40, 2) := by simp [World.shape?, hb]
    have HQ : Aside0 ((∃ v, BldV (w.setCell ⟨b, 0, none⟩ (.pointer (some ⟨b, 0, none⟩))) B b v s) ∧ Below B w (w.setCell ⟨b, 0, none⟩ (.pointer (some ⟨b, 0, none⟩))) ∧ Keep b w (w.setCell ⟨b, 0, none⟩ (.pointer (some ⟨b, 0, none⟩)))) :=
      ⟨⟨v, hB, heap_put hb 0 (by omega), ownsRow_setCell_other ho (a := ⟨b, 0, none⟩) hn _, hn⟩, (Below.refl B w).setCell (p := ⟨b, 0, none⟩) hB _, Keep.put (Lib.OthersKept.refl _ _ w) 0 _⟩
    clear hb ho hn
    obtain ⟨j, hj, hjs⟩ := Option.map_eq_some_iff.1 (show (Try.prog.info? 40).map (·.size) = some 2 from by kernel_rfl)
    go_enter Try.func38, Try.ntmps38
    go_wp2
    rw [Lib.run_to_unsafe w ⟨b, 0, none⟩ Try.underlying37 Try.underlying68 hj (by rw [hjs]; decide) hsh (Nat.zero_lt_succ 1)]
    simp only [Result.andThen]
    rw [Oper.upon_value]
    go_wp2
    rw [run_callFunc_extern Try.func61 (by kernel_rfl) (by kernel_rfl) (by kernel_rfl) (e := Extern.AbiNoEscape.same) (by kernel_rfl)]
    rw [Lib.run_noEscape]
    simp only [Result.andThen]
    rw [Oper.upon_value]
    go_wp2
    rw [Lib.run_from_unsafe w ⟨b, 0, none⟩ Try.underlying68 Try.underlying37 hj hsh (by kernel_rfl)]
    simp only [Result.andThen]
    rw [Oper.upon_value]
    go_wp2
    go_end0
    exact ⟨rfl, HQ.out⟩
  · have h0 : w.cell? ⟨b, 0, none⟩ = some (.pointer (some ⟨b, 0, none⟩)) := by simp [World.cell?, hb]
    have HQ : Aside0 ((∃ v, BldV w B b v s) ∧ Below B w w ∧ Keep b w w) := ⟨⟨v, hB, hb, ho, hn⟩, Below.refl B w, Lib.OthersKept.refl _ _ w⟩
    clear hb ho hn
    obtain ⟨j, hj, hjs⟩ := Option.map_eq_some_iff.1 (show (Try.prog.info? 40).map (·.size) = some 2 from by kernel_rfl)
    go_enter Try.func38, Try.ntmps38
    go_wp2
    rw [Lib.run_neq_ptr_same w _ Try.underlying37 hj]
    go_wp2
    go_end0
    exact ⟨rfl, HQ.out⟩
theorem Keep.grown {b B n : Nat} {w W w1 : World} {v : Value} {xs : List Value} (h : Keep b w W) (ho : W.ownsRow B 5 1 v n xs) (hg : W.grownBy w1 v.ownBlock) : Keep b w w1 := by
  intro k o hk hb ht
  have h1 := h k o hk hb ht
  have hlt : k < W.heap.size := (Array.getElem?_eq_some_iff.1 h1).1
  rw [hg.block k hlt ?_]
  · exact h1
  · intro e
    rcases ho.2 with ⟨rfl, _⟩ | ⟨g, cap, cur, rfl, _, hgb, _⟩
    · simp [Value.ownBlock] at e
    · simp only [Value.ownBlock, Option.some.injEq] at e
      subst e
      rw [h1] at hgb
      exact ht _ _ (Option.some.inj hgb)
theorem own_slice {w : World} {B : Nat} {v : Value} {n : Nat} {xs : List Value} (h : w.ownsRow B 5 1 v n xs) : ∃ A c, v = .slice A n c := by
  rcases h.2 with ⟨rfl, h0⟩ | ⟨g, cap, cur, rfl, _⟩
  · exact ⟨none, 0, by rw [h0]⟩
  · exact ⟨_, _, rfl⟩
/-- Behind the append: the row's slice put into the builder. -/
theorem BldV.put {w W w1 : World} {B b : Nat} {v v1 : Value} {s t : ByteArray} (h : BldV W B b v s) (hk : Keep b w W) (hB : Below B w W) (ho : w1.ownsRow B 5 1 v1 (bytesOf t).length (nums .u8 (bytesOf t))) (hb : Below B w w1) (hg : W.grownBy w1 v.ownBlock) :
    Bld (w1.setCell ⟨b, 1, none⟩ v1) B b t ∧ Below B w (w1.setCell ⟨b, 1, none⟩ v1) ∧ Keep b w (w1.setCell ⟨b, 1, none⟩ v1) ∧ w1.heap[b]? = some (.cells #[.pointer (some ⟨b, 0, none⟩), v] 40 (0, 0)) := by
  obtain ⟨h1, h2, h3, h4⟩ := h
  have hlt : b < W.heap.size := (Array.getElem?_eq_some_iff.1 h2).1
  have hb1 : w1.heap[b]? = some (.cells #[.pointer (some ⟨b, 0, none⟩), v] 40 (0, 0)) := by rw [hg.block b hlt (fun e => h4 e.symm)]; exact h2
  have hn := bytes_ne ho hb1 (by decide)
  exact ⟨⟨h1, _, v1, .inr rfl, heap_put hb1 1 (by omega), ownsRow_setCell_other ho (a := ⟨b, 1, none⟩) hn _, hn⟩, hb.setCell (p := ⟨b, 1, none⟩) h1 _, Keep.put (hk.grown h3 hg) 1 _, hb1⟩
set_option maxHeartbeats 1000000 in
set_option maxRecDepth 100000 in
theorem bld_WriteString {w : World} {B b : Nat} {s : ByteArray} (h : Bld w B b s) (x : ByteArray) (hl : s.size + x.size ≤ 140737488355328) (hBw : B ≤ w.heap.size) :
    Calls Try.prog 12 #[.pointer (some ⟨b, 0, none⟩), .string x] w fun e w' => e = .returned (.tuple #[.int .i64 x.size, .nilIface]) ∧ Bld w' B b (s ++ x) ∧ Below B w w' ∧ Keep b w w' := by
  have hc := copyCheck_ h
  clear h
  go_enter Try.func12, Try.ntmps12
  go_wp2_with (first | (go_at_call 38; refine hc.mono ?_; rintro e w1 ⟨rfl, ⟨v, h1⟩, hb1, hk1⟩; obtain ⟨A, c, rfl⟩ := own_slice h1.2.2.1; have c1 : w1.cell? ⟨b, 1, none⟩ = some (.slice A (bytesOf s).length c) := by simp [World.cell?, h1.2.1]) | (at_builtin; refine print_append_str (w0 := w) B rfl (.tmp 12) (.tmp 13) 38 9 5 rfl Try.underlying38 Try.underlying9 infoU8 (.slice A (bytesOf s).length c) (bytesOf s) x rfl rfl h1.2.2.1 hb1 (Nat.le_trans hBw hb1.size) (by rw [bytesOf_length]; exact hl) ?_; intro v1 w2 ho2 hb2 hg2; rw [← bytesOf_add] at ho2; obtain ⟨p1, p2, p3, p4⟩ := h1.put hk1 hb1 ho2 hb2 hg2; (have d1 : w2.cell? ⟨b, 1, none⟩ = some (.slice A (bytesOf s).length c) := by simp [World.cell?, p4]); (have f1 : w2.frozen? ⟨b, 1, none⟩ = false := by simp [World.frozen?, p4]); obtain ⟨A1, q1, rfl⟩ := own_slice ho2; have P := Aside0.mk (And.intro p1 (And.intro p2 p3)); clear p1 p2 p3 p4 h1 hk1 ho2 hg2))
  go_ret2
  exact ⟨rfl, P.out⟩
set_option maxHeartbeats 1000000 in
set_option maxRecDepth 100000 in
theorem bld_WriteByte {w : World} {B b : Nat} {s : ByteArray} (h : Bld w B b s) (x : UInt8) (hl : s.size + 1 ≤ 140737488355328) (hBw : B ≤ w.heap.size) :
    Calls Try.prog 62 #[.pointer (some ⟨b, 0, none⟩), .int .u8 x.toNat] w fun e w' => e = .returned .nilIface ∧ Bld w' B b (s ++ ⟨#[x]⟩) ∧ Below B w w' ∧ Keep b w w' := by
  have hc := copyCheck_ h
  clear h
  go_enter Try.func62, Try.ntmps62
  go_wp2_with (first | (go_at_call 38; refine hc.mono ?_; rintro e w1 ⟨rfl, ⟨v, h1⟩, hb1, hk1⟩; obtain ⟨A, c, rfl⟩ := own_slice h1.2.2.1; have c1 : w1.cell? ⟨b, 1, none⟩ = some (.slice A (bytesOf s).length c) := by simp [World.cell?, h1.2.1]) | (at_builtin; refine print_append_cells (w0 := w) B rfl (.tmp 11) (.tmp 13) 38 5 (.int .u8 0) 1 1 rfl Try.underlying38 infoU8 rfl (by decide) (by decide) (.slice A (bytesOf s).length c) (bytesOf s).length (nums .u8 (bytesOf s)) [.int .u8 x.toNat] rfl (by simp [Act.eval]) rfl (by simp; rfl) h1.2.2.1 hb1 (Nat.le_trans hBw hb1.size) (by rw [bytesOf_length]; omega) ?_; intro v1 w2 ho2 hb2 hg2 _; (have ho3 : w2.ownsRow B 5 1 v1 (bytesOf (s ++ ⟨#[x]⟩)).length (nums .u8 (bytesOf (s ++ ⟨#[x]⟩))) := by rw [bytesOf_add, List.length_append, nums_append]; exact ho2); obtain ⟨p1, p2, p3, p4⟩ := h1.put hk1 hb1 ho3 hb2 hg2; (have d1 : w2.cell? ⟨b, 1, none⟩ = some (.slice A (bytesOf s).length c) := by simp [World.cell?, p4]); (have f1 : w2.frozen? ⟨b, 1, none⟩ = false := by simp [World.frozen?, p4]); obtain ⟨A1, q1, rfl⟩ := own_slice ho3; have P := Aside0.mk (And.intro p1 (And.intro p2 p3)); clear p1 p2 p3 p4 h1 hk1 ho2 ho3 hg2))
  go_ret
  exact ⟨rfl, P.out⟩
theorem data_toArray (s : ByteArray) : (⟨s.data.toList.toArray⟩ : ByteArray) = s := by
  cases s
  simp
set_option maxHeartbeats 1000000 in
set_option maxRecDepth 100000 in
theorem bld_String {w : World} {B b : Nat} {s : ByteArray} (h : Bld w B b s) (hs : s.size ≠ 0) :
    Calls Try.prog 15 #[.pointer (some ⟨b, 0, none⟩)] w fun e w' => e = .returned (.string s) ∧ Below B w w' := by
  obtain ⟨hB, p, v, hp, hb, ho, hn⟩ := h
  have hl0 : s.data.toList.length = s.size := data_length s
  have hl1 : (bytesOf s).length = s.size := bytesOf_length s
  rcases ho.2 with ⟨rfl, h0⟩ | ⟨g, cap, cur, rfl, hbg, hg, hcap, hmax, hcs, htk⟩
  · omega
  have c1 : w.drew.cell? ⟨b, 1, none⟩ = some (.slice (some ⟨g, 0, none⟩) (bytesOf s).length cap) := by
    have : w.drew.heap[b]? = some (.cells #[p, .slice (some ⟨g, 0, none⟩) (bytesOf s).length cap] 40 (0, 0)) := hb
    simp [World.cell?, this]
  have hSD : (Builtin.unsafeSliceData_ #[38] 58 #[.slice (some ⟨g, 0, none⟩) (bytesOf s).length cap]).run Try.prog w.drew = .ok (.pointer (some ⟨g, 0, none⟩)) w.drew :=
    Lib.run_unsafeSliceData_row _ _ _ _ _ _ (by omega)
  have hUS : (Builtin.unsafeString_ #[58, 3] 9 #[.pointer (some ⟨g, 0, none⟩), .int .i64 s.data.toList.length]).run Try.prog w.drew = .ok (.string ⟨s.data.toList.toArray⟩) (w.drew.freeze ⟨g, 0, none⟩ s.data.toList.length) := by
    refine Lib.run_unsafeString_row w.drew 58 3 9 5 Try.underlying58 (by kernel_rfl) g cur.size (by have hg' : w.drew.heap[g]? = some (.cells cur 5 (0, 0)) := hg; simp [World.shape?, hg']) s.data.toList (by intro e; rw [e, List.length_nil] at hl0; exact hs hl0.symm) (by omega) (by unfold maxLen at hmax; omega) ?_
    intro j x hx
    exact (World.ownsRowF_of ho).cells (g := g) rfl j (.int .u8 x.toNat) (by simp [nums, bytesOf, hx])
  rw [data_toArray] at hUS
  have hlen : s.data.toList.length = (bytesOf s).length := by omega
  rw [hlen] at hUS
  clear hb ho hn hl0 hl1 htk hcs hg hlen
  have mixed : Try.prog.follows .mixedOrders = true := rfl
  go_enter Try.func15, Try.ntmps15
  go_wp2
  go_region_o
  all_goals (go_wp2; go_ret; exact ⟨rfl, Lib.below_freeze (Below.drew (Below.refl B w)) (p := ⟨g, 0, none⟩) hbg _⟩)
set_option maxHeartbeats 1000000 in
set_option maxRecDepth 100000 in
/-- Of a builder that was never written on. -/
theorem bld_StringNil {w : World} {b : Nat} (hb : w.heap[b]? = some (.cells #[.pointer none, .slice none 0 0] 40 (0, 0))) :
    Calls Try.prog 15 #[.pointer (some ⟨b, 0, none⟩)] w fun e w' => e = .returned (.string ⟨#[]⟩) ∧ w' = w.drew := by
  have c1 : w.drew.cell? ⟨b, 1, none⟩ = some (.slice none 0 0) := by
    have : w.drew.heap[b]? = some (.cells #[.pointer none, .slice none 0 0] 40 (0, 0)) := hb
    simp [World.cell?, this]
  have hSD : (Builtin.unsafeSliceData_ #[38] 58 #[.slice none 0 0]).run Try.prog w.drew = .ok (.pointer none) w.drew := Lib.run_unsafeSliceData_nil _ _ _ _ _
  have hUS : (Builtin.unsafeString_ #[58, 3] 9 #[.pointer none, .int .i64 0]).run Try.prog w.drew = .ok (.string ⟨#[]⟩) w.drew := by rfl
  clear hb
  have mixed : Try.prog.follows .mixedOrders = true := rfl
  go_enter Try.func15, Try.ntmps15
  go_wp2
  go_region_o
  all_goals (go_wp2; go_ret; exact ⟨rfl, rfl⟩)
end Go.Proofs.Ytliofoikejdjeaa
