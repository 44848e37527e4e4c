/-
  NARROWER THAN 'FOR EVERY INPUT', by the rows' own cells (each row's printed sentence says how): PosixTells: laid · PosixNames: laid · GreadMany: laid · GreadToken: laid.
  DERIVED. THE GIVEN ROWS OF THIS SEAT. 4 by the template 'for every input the law returns true; each argument reads behind the call as it read before'; 0 by the template 'total and deterministic' (their statements: YtliofoikejdjeaaDoorTotals.lean).
  GIVEN WITH THE SEED: the statements are not yours to turn. If you find one false, say at which input.
  Laid BY PROGRAM, IN A SANDBOX (cutbox-rows.mjs): the forced cells as the released guide's own fill.sh prints them over the translation 4db3fe4108df8aeb… (all of the seat's roots in one cut). By AI agents, Wed Nov 11 2026. No macro, syntax, notation, axiom, sorry.
-/
import Derived.Test.YtliofoikejdjeaaDoorChecked
import GoSem.Claim
import GoSem.ClaimJoined
import GoSem.ClaimMapViews
import Derived.JoinedTies
import Derived.KernelRfl
namespace Go.Proofs.YtliofoikejdjeaaDoor
/- THE CELL 'sum', in the pinned program and in every row, IS THE sha256 OF THE DUMP (.gsa) THAT YtliofoikejdjeaaDoorProg.lean LOADS. Nothing in Lean hashes anything: it is a label: what it is worth is what the hold of that sum in a sandbox is worth. -/
noncomputable def Tryd.pinned : Pinned := { name := "ytliofoikejdjeaadoor", sum := "4db3fe4108df8aebaa1bbd52b9ef8929940057dc02e4a80d569c9e25baad6657", checked := Tryd.checked }
namespace Rows
def none {H : Type} : Left H := { results := [], args := [] }

/- WHAT THE LISTED PACKAGE-LEVEL VARIABLES READ AS WHEN THE CALL BEGINS. Each datum BY PROGRAM (the guide's laid-datum.mjs) off the statement by which the dump's own 'gosem.cut.vars' lays the variable. In a bare row this is a premise. The card (YtliofoikejdjeaaDoorCards.lean) ties it to the program's text. -/
def laid_conch_oper_texts {H : Type} : DataW H := .agg [.lit (.string []), .lit (.string [38, 38]), .lit (.string [124, 124]), .lit (.string [59, 59]), .lit (.string [59]), .lit (.string [38]), .lit (.string [124]), .lit (.string [40]), .lit (.string [41]), .lit (.string [60]), .lit (.string [62]), .lit (.string [62, 62]), .lit (.string [60, 60]), .lit (.string [60, 60, 45]), .lit (.string [60, 38]), .lit (.string [62, 38]), .lit (.string [60, 62]), .lit (.string [62, 124])]
def laid_conch_posix_reserved {H : Type} : DataW H := .agg [.lit (.string [105, 102]), .lit (.string [116, 104, 101, 110]), .lit (.string [101, 108, 115, 101]), .lit (.string [101, 108, 105, 102]), .lit (.string [102, 105]), .lit (.string [100, 111]), .lit (.string [100, 111, 110, 101]), .lit (.string [99, 97, 115, 101]), .lit (.string [101, 115, 97, 99]), .lit (.string [119, 104, 105, 108, 101]), .lit (.string [117, 110, 116, 105, 108]), .lit (.string [102, 111, 114]), .lit (.string [123]), .lit (.string [125]), .lit (.string [33]), .lit (.string [105, 110])]
def laid_errors_errorType {H : Type} : DataW H := .iface "internal/reflectlite.rtype" (.agg [.ptr (.lit (.string [101, 114, 114, 111, 114]))])

/-- 'conchlaw30.PosixTells': WHATEVER THE INPUT: true; the input reads as it did. -/
def posixTellsSpec : ChangeSpec := { name := "posixTells", fn := fun _ => fun
  | [d1, d2, d3] => { results := [.lit (.bool true)], args := [d1, d2, d3] }
  | _ => none }
def posixTellsRow : OpenClaim := { program := "ytliofoikejdjeaadoor", sum := "4db3fe4108df8aebaa1bbd52b9ef8929940057dc02e4a80d569c9e25baad6657", func := "conch/conchlaw30.PosixTells", spec := "posixTells", inPlace := ["internal/bytealg.IndexByteString", "internal/bytealg.IndexString"], unfollowed := true, recurses := true, named := ["internal/bytealg.MaxLen", "conch/oper.texts", "conch/posix.reserved"], apart := false, laid := [("conch/oper.texts", laid_conch_oper_texts), ("conch/posix.reserved", laid_conch_posix_reserved)] }
def PosixTellsSaid : Prop := posixTellsRow.holds Tryd.pinned (OpenSpec.ofChange posixTellsSpec)

/-- ITS FALSE NEIGHBOUR: 'it returns false'. Refute it at one input. -/
def posixTellsWrong : ChangeSpec := { name := "posixTells", fn := fun _ => fun
  | [d1, d2, d3] => { results := [.lit (.bool false)], args := [d1, d2, d3] }
  | _ => none }
def PosixTellsWrongFalsely : Prop := posixTellsRow.holds Tryd.pinned (OpenSpec.ofChange posixTellsWrong)

/-- 'conchlaw30.PosixNames': WHATEVER THE INPUT: true; the input reads as it did. -/
def posixNamesSpec : ChangeSpec := { name := "posixNames", fn := fun _ => fun
  | [d1, d2] => { results := [.lit (.bool true)], args := [d1, d2] }
  | _ => none }
def posixNamesRow : OpenClaim := { program := "ytliofoikejdjeaadoor", sum := "4db3fe4108df8aebaa1bbd52b9ef8929940057dc02e4a80d569c9e25baad6657", func := "conch/conchlaw30.PosixNames", spec := "posixNames", inPlace := ["internal/bytealg.IndexByteString", "internal/bytealg.IndexString"], unfollowed := true, recurses := true, named := ["internal/bytealg.MaxLen", "conch/oper.texts", "conch/posix.reserved"], apart := false, laid := [("conch/oper.texts", laid_conch_oper_texts), ("conch/posix.reserved", laid_conch_posix_reserved)] }
def PosixNamesSaid : Prop := posixNamesRow.holds Tryd.pinned (OpenSpec.ofChange posixNamesSpec)

/-- ITS FALSE NEIGHBOUR: 'it returns false'. Refute it at one input. -/
def posixNamesWrong : ChangeSpec := { name := "posixNames", fn := fun _ => fun
  | [d1, d2] => { results := [.lit (.bool false)], args := [d1, d2] }
  | _ => none }
def PosixNamesWrongFalsely : Prop := posixNamesRow.holds Tryd.pinned (OpenSpec.ofChange posixNamesWrong)

/-- 'conchlaw07.GreadMany': WHATEVER THE INPUT: true; the input reads as it did. -/
def greadManySpec : ChangeSpec := { name := "greadMany", fn := fun _ => fun
  | [d] => { results := [.lit (.bool true)], args := [d] }
  | _ => none }
def greadManyRow : OpenClaim := { program := "ytliofoikejdjeaadoor", sum := "4db3fe4108df8aebaa1bbd52b9ef8929940057dc02e4a80d569c9e25baad6657", func := "conch/conchlaw07.GreadMany", spec := "greadMany", inPlace := ["internal/bytealg.IndexByteString", "internal/bytealg.IndexString", "internal/reflectlite.ValueOf", "(internal/reflectlite.Value).Type", "(internal/reflectlite.Value).IsNil", "internal/reflectlite.TypeOf", "(internal/reflectlite.Value).Elem", "(internal/reflectlite.Value).Set"], unfollowed := true, recurses := true, named := ["internal/bytealg.MaxLen", "errors.errorType"], apart := false, laid := [("errors.errorType", laid_errors_errorType)] }
def GreadManySaid : Prop := greadManyRow.holds Tryd.pinned (OpenSpec.ofChange greadManySpec)

/-- ITS FALSE NEIGHBOUR: 'it returns false'. Refute it at one input. -/
def greadManyWrong : ChangeSpec := { name := "greadMany", fn := fun _ => fun
  | [d] => { results := [.lit (.bool false)], args := [d] }
  | _ => none }
def GreadManyWrongFalsely : Prop := greadManyRow.holds Tryd.pinned (OpenSpec.ofChange greadManyWrong)

/-- 'conchlaw07.GreadToken': WHATEVER THE INPUT: true; the input reads as it did. -/
def greadTokenSpec : ChangeSpec := { name := "greadToken", fn := fun _ => fun
  | [d] => { results := [.lit (.bool true)], args := [d] }
  | _ => none }
def greadTokenRow : OpenClaim := { program := "ytliofoikejdjeaadoor", sum := "4db3fe4108df8aebaa1bbd52b9ef8929940057dc02e4a80d569c9e25baad6657", func := "conch/conchlaw07.GreadToken", spec := "greadToken", inPlace := ["internal/bytealg.IndexByteString", "internal/bytealg.IndexString", "internal/reflectlite.ValueOf", "(internal/reflectlite.Value).Type", "(internal/reflectlite.Value).IsNil", "internal/reflectlite.TypeOf", "(internal/reflectlite.Value).Elem", "(internal/reflectlite.Value).Set"], unfollowed := true, recurses := true, named := ["internal/bytealg.MaxLen", "errors.errorType"], apart := false, laid := [("errors.errorType", laid_errors_errorType)] }
def GreadTokenSaid : Prop := greadTokenRow.holds Tryd.pinned (OpenSpec.ofChange greadTokenSpec)

/-- ITS FALSE NEIGHBOUR: 'it returns false'. Refute it at one input. -/
def greadTokenWrong : ChangeSpec := { name := "greadToken", fn := fun _ => fun
  | [d] => { results := [.lit (.bool false)], args := [d] }
  | _ => none }
def GreadTokenWrongFalsely : Prop := greadTokenRow.holds Tryd.pinned (OpenSpec.ofChange greadTokenWrong)

/- THE SECOND FORM. 'bulk': how many values and letters a reading holds, each counted each time it is reached (what is shared counts as often as it is met; a slice's spare places count too). A statement '..UptoSaid' is the law's where the arguments, and the package variables that the reading takes, are together of bulk at most 1048576: NARROWER than '..Said'. Prove '..Said' where nothing that the law and all that it calls make is longer than what came in: it says more and counts as full. Else prove '..UptoSaid'. A law counts once. -/
mutual
def uptoBulk {H : Type} : DataW H → Nat
  | .lit (.string bytes) => bytes.length + 1
  | .lit _ => 1
  | .nil => 1
  | .ptr d => uptoBulk d + 1
  | .slice elems spare => uptoBulkAll elems + uptoBulkAll spare + 1
  | .agg parts => uptoBulkAll parts + 1
  | .iface _ d => uptoBulk d + 1
  | .map entries => uptoBulkEntries entries + 1
  | .held _ => 1
def uptoBulkAll {H : Type} : List (DataW H) → Nat
  | [] => 0
  | d :: r => uptoBulk d + uptoBulkAll r
def uptoBulkEntries {H : Type} : List (Lit × DataW H) → Nat
  | [] => 0
  | x :: r => uptoBulkEntry x + uptoBulkEntries r
def uptoBulkEntry {H : Type} : Lit × DataW H → Nat
  | (.string bytes, d) => bytes.length + uptoBulk d + 1
  | (_, d) => uptoBulk d + 1
 end
def uptoSmall : (H : Type) → List (DataW H) → Bool := fun _ ds => decide (uptoBulkAll ds ≤ 1048576)
def OpenSpec.upto (s : _root_.Go.ChangeSpec) : _root_.Go.OpenSpec := { _root_.Go.OpenSpec.ofChange s with cond := some uptoSmall }

/-- 'conchlaw30.PosixTells', WHERE WHAT IT READS IS OF BULK AT MOST 1048576: true; the input reads as it did. -/
def posixTellsUptoRow : OpenClaim := { program := "ytliofoikejdjeaadoor", sum := "4db3fe4108df8aebaa1bbd52b9ef8929940057dc02e4a80d569c9e25baad6657", func := "conch/conchlaw30.PosixTells", spec := "posixTells", inPlace := ["internal/bytealg.IndexByteString", "internal/bytealg.IndexString"], unfollowed := true, recurses := true, named := ["internal/bytealg.MaxLen", "conch/oper.texts", "conch/posix.reserved"], apart := false, laid := [("conch/oper.texts", laid_conch_oper_texts), ("conch/posix.reserved", laid_conch_posix_reserved)], narrowed := true }
def PosixTellsUptoSaid : Prop := posixTellsUptoRow.holds Tryd.pinned (OpenSpec.upto posixTellsSpec)

/-- 'conchlaw30.PosixNames', WHERE WHAT IT READS IS OF BULK AT MOST 1048576: true; the input reads as it did. -/
def posixNamesUptoRow : OpenClaim := { program := "ytliofoikejdjeaadoor", sum := "4db3fe4108df8aebaa1bbd52b9ef8929940057dc02e4a80d569c9e25baad6657", func := "conch/conchlaw30.PosixNames", spec := "posixNames", inPlace := ["internal/bytealg.IndexByteString", "internal/bytealg.IndexString"], unfollowed := true, recurses := true, named := ["internal/bytealg.MaxLen", "conch/oper.texts", "conch/posix.reserved"], apart := false, laid := [("conch/oper.texts", laid_conch_oper_texts), ("conch/posix.reserved", laid_conch_posix_reserved)], narrowed := true }
def PosixNamesUptoSaid : Prop := posixNamesUptoRow.holds Tryd.pinned (OpenSpec.upto posixNamesSpec)

/-- 'conchlaw07.GreadMany', WHERE WHAT IT READS IS OF BULK AT MOST 1048576: true; the input reads as it did. -/
def greadManyUptoRow : OpenClaim := { program := "ytliofoikejdjeaadoor", sum := "4db3fe4108df8aebaa1bbd52b9ef8929940057dc02e4a80d569c9e25baad6657", func := "conch/conchlaw07.GreadMany", spec := "greadMany", inPlace := ["internal/bytealg.IndexByteString", "internal/bytealg.IndexString", "internal/reflectlite.ValueOf", "(internal/reflectlite.Value).Type", "(internal/reflectlite.Value).IsNil", "internal/reflectlite.TypeOf", "(internal/reflectlite.Value).Elem", "(internal/reflectlite.Value).Set"], unfollowed := true, recurses := true, named := ["internal/bytealg.MaxLen", "errors.errorType"], apart := false, laid := [("errors.errorType", laid_errors_errorType)], narrowed := true }
def GreadManyUptoSaid : Prop := greadManyUptoRow.holds Tryd.pinned (OpenSpec.upto greadManySpec)

/-- 'conchlaw07.GreadToken', WHERE WHAT IT READS IS OF BULK AT MOST 1048576: true; the input reads as it did. -/
def greadTokenUptoRow : OpenClaim := { program := "ytliofoikejdjeaadoor", sum := "4db3fe4108df8aebaa1bbd52b9ef8929940057dc02e4a80d569c9e25baad6657", func := "conch/conchlaw07.GreadToken", spec := "greadToken", inPlace := ["internal/bytealg.IndexByteString", "internal/bytealg.IndexString", "internal/reflectlite.ValueOf", "(internal/reflectlite.Value).Type", "(internal/reflectlite.Value).IsNil", "internal/reflectlite.TypeOf", "(internal/reflectlite.Value).Elem", "(internal/reflectlite.Value).Set"], unfollowed := true, recurses := true, named := ["internal/bytealg.MaxLen", "errors.errorType"], apart := false, laid := [("errors.errorType", laid_errors_errorType)], narrowed := true }
def GreadTokenUptoSaid : Prop := greadTokenUptoRow.holds Tryd.pinned (OpenSpec.upto greadTokenSpec)

end Rows
end Go.Proofs.YtliofoikejdjeaaDoor
