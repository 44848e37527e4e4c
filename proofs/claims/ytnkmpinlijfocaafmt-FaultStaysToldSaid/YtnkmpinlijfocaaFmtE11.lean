/- The told texts of fmt.Errorf("y: %w", err), fmt.Errorf("more: %w", err). -/
import Derived.Test.YtnkmpinlijfocaaFmtE10
import Derived.Stop.Texts
import Derived.Stop.JoinedTold
import Derived.Stop.FmtTextVerbs
import Derived.Stop.FmtTextKit
namespace Go.Proofs.YtnkmpinlijfocaaFmt
open Go.RowKit Go.Proofs.YtnkmpinlijfocaaFmtW.PrintWords Go.Extern.Stop Go.Stop Go.Extern Go.Kit
set_option linter.unusedVariables false
set_option linter.unusedSimpArgs false
theorem parse_y : (FmtText.parse [121, 58, 32, 37, 119]).map FmtText.glue = some [.lit [121, 58, 32], .verb {} 119] := by rfl
theorem parse_more : (FmtText.parse [109, 111, 114, 101, 58, 32, 37, 119]).map FmtText.glue = some [.lit [109, 111, 114, 101, 58, 32], .verb {} 119] := by rfl
theorem told_text {f l : List UInt8} (hp : (FmtText.parse f).map FmtText.glue = some [.lit l, .verb {} 119]) (E : Er) : FmtText.text "fmt.errorf" (askedOf f E) = some (l ++ E.text.data.toList) := by
  cases E with
  | place e a =>
    show FmtText.text "fmt.errorf" [f, 19 :: 0 :: FmtStop.pack "*fault.place".toByteArray.data.toList, (Er.place e a).text.data.toList] = _
    rw [FmtText.text_errorf_glued hp (FmtText.operands_cons (FmtText.operand_error_at rfl (FmtText.unpack_pack _ (by decide)) _) FmtText.operands_nil)]
    simp [FmtText.render, FmtText.printArg_w_said]
  | named n i =>
    show FmtText.text "fmt.errorf" [f, 19 :: 0 :: FmtStop.pack "*fault.named".toByteArray.data.toList, (Er.named n i).text.data.toList] = _
    rw [FmtText.text_errorf_glued hp (FmtText.operands_cons (FmtText.operand_error_at rfl (FmtText.unpack_pack _ (by decide)) _) FmtText.operands_nil)]
    simp [FmtText.render, FmtText.printArg_w_said]
  | wrap m i =>
    show FmtText.text "fmt.errorf" [f, 14 :: FmtStop.pack "*fmt.wrapError".toUTF8.data.toList, (Er.wrap m i).text.data.toList] = _
    rw [FmtText.text_errorf_glued hp (FmtText.operands_cons (FmtText.operand_plain_at rfl (FmtText.unpack_pack _ (by decide)) _) FmtText.operands_nil)]
    simp [FmtText.render, FmtText.printArg_w_said]
  | other s =>
    show FmtText.text "fmt.errorf" [f, 14 :: FmtStop.pack "*errors.errorString".toUTF8.data.toList, (Er.other s).text.data.toList] = _
    rw [FmtText.text_errorf_glued hp (FmtText.operands_cons (FmtText.operand_plain_at rfl (FmtText.unpack_pack _ (by decide)) _) FmtText.operands_nil)]
    simp [FmtText.render, FmtText.printArg_w_said]
theorem told_size (F : Interp) {f l : List UInt8} (hp : (FmtText.parse f).map FmtText.glue = some [.lit l, .verb {} 119]) (hl : l.length ≤ 100) (E : Er) (hs : E.text.size ≤ 4611686018427387904) :
    (FmtStop.textOf (F.told "fmt.errorf" (askedOf f E) 0)).size = l.length + E.text.size := by
  have h1 : E.text.data.toList.length = E.text.size := data_length _
  have ht := told_string F (told_text hp E) (by rw [List.length_append, h1]; omega)
  have h2 := textOf_list F.told "fmt.errorf" (askedOf f E)
  rw [ht] at h2
  have h3 := congrArg List.length h2
  rw [List.length_append, h1, data_length] at h3
  exact h3
end Go.Proofs.YtnkmpinlijfocaaFmt
