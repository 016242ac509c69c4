/-
  NARROWER THAN 'FOR EVERY INPUT', by the rows' own cells (each row's printed sentence says how): FnCodeRun: laid · FnCodeShort: laid · FnExactProgEnds: laid · FnProgCode: laid · FnProgEnds: laid.
  DERIVED. THE GIVEN ROWS OF THIS SEAT. 5 by the template 'for every input the law returns true; each argument reads behind the call as it read before'; 0 by the template 'total and deterministic' (their statements: YtoondakdjhhehaaDoorTotals.lean).
  GIVEN WITH THE SEED: the statements are not yours to turn. If you find one false, say at which input.
  Laid BY PROGRAM, IN A SANDBOX (cutbox-rows.mjs): the forced cells as the released guide's own fill.sh prints them over the translation 9f5b1a9e819c79b7… (all of the seat's roots in one cut). By AI agents, Wed Nov 11 2026. No macro, syntax, notation, axiom, sorry.
-/
import Derived.Test.YtoondakdjhhehaaDoorChecked
import GoSem.Claim
import GoSem.ClaimJoined
import GoSem.ClaimMapViews
import Derived.JoinedTies
import Derived.KernelRfl
namespace Go.Proofs.YtoondakdjhhehaaDoor
/- THE CELL 'sum', in the pinned program and in every row, IS THE sha256 OF THE DUMP (.gsa) THAT YtoondakdjhhehaaDoorProg.lean LOADS. Nothing in Lean hashes anything: it is a label: what it is worth is what the hold of that sum in a sandbox is worth. -/
noncomputable def Tryd.pinned : Pinned := { name := "ytoondakdjhhehaadoor", sum := "9f5b1a9e819c79b7bf4b514bfc30ceed260070e67ebea1896825e1b7e52047c8", checked := Tryd.checked }
namespace Rows
def none {H : Type} : Left H := { results := [], args := [] }

/- WHAT THE LISTED PACKAGE-LEVEL VARIABLES READ AS WHEN THE CALL BEGINS. Each datum BY PROGRAM (the guide's laid-datum.mjs) off the statement by which the dump's own 'gosem.cut.vars' lays the variable. In a bare row this is a premise. The card (YtoondakdjhhehaaDoorCards.lean) ties it to the program's text. -/
def laid_math_bits_deBruijn32tab {H : Type} : DataW H := .agg [.lit (.int .u8 0), .lit (.int .u8 1), .lit (.int .u8 28), .lit (.int .u8 2), .lit (.int .u8 29), .lit (.int .u8 14), .lit (.int .u8 24), .lit (.int .u8 3), .lit (.int .u8 30), .lit (.int .u8 22), .lit (.int .u8 20), .lit (.int .u8 15), .lit (.int .u8 25), .lit (.int .u8 17), .lit (.int .u8 4), .lit (.int .u8 8), .lit (.int .u8 31), .lit (.int .u8 27), .lit (.int .u8 13), .lit (.int .u8 23), .lit (.int .u8 21), .lit (.int .u8 19), .lit (.int .u8 16), .lit (.int .u8 7), .lit (.int .u8 26), .lit (.int .u8 12), .lit (.int .u8 18), .lit (.int .u8 6), .lit (.int .u8 11), .lit (.int .u8 5), .lit (.int .u8 10), .lit (.int .u8 9)]
def laid_math_bits_deBruijn64tab {H : Type} : DataW H := .agg [.lit (.int .u8 0), .lit (.int .u8 1), .lit (.int .u8 56), .lit (.int .u8 2), .lit (.int .u8 57), .lit (.int .u8 49), .lit (.int .u8 28), .lit (.int .u8 3), .lit (.int .u8 61), .lit (.int .u8 58), .lit (.int .u8 42), .lit (.int .u8 50), .lit (.int .u8 38), .lit (.int .u8 29), .lit (.int .u8 17), .lit (.int .u8 4), .lit (.int .u8 62), .lit (.int .u8 47), .lit (.int .u8 59), .lit (.int .u8 36), .lit (.int .u8 45), .lit (.int .u8 43), .lit (.int .u8 51), .lit (.int .u8 22), .lit (.int .u8 53), .lit (.int .u8 39), .lit (.int .u8 33), .lit (.int .u8 30), .lit (.int .u8 24), .lit (.int .u8 18), .lit (.int .u8 12), .lit (.int .u8 5), .lit (.int .u8 63), .lit (.int .u8 55), .lit (.int .u8 48), .lit (.int .u8 27), .lit (.int .u8 60), .lit (.int .u8 41), .lit (.int .u8 37), .lit (.int .u8 16), .lit (.int .u8 46), .lit (.int .u8 35), .lit (.int .u8 44), .lit (.int .u8 21), .lit (.int .u8 52), .lit (.int .u8 32), .lit (.int .u8 23), .lit (.int .u8 11), .lit (.int .u8 54), .lit (.int .u8 26), .lit (.int .u8 40), .lit (.int .u8 15), .lit (.int .u8 34), .lit (.int .u8 20), .lit (.int .u8 31), .lit (.int .u8 10), .lit (.int .u8 25), .lit (.int .u8 14), .lit (.int .u8 19), .lit (.int .u8 9), .lit (.int .u8 13), .lit (.int .u8 8), .lit (.int .u8 7), .lit (.int .u8 6)]

/-- 'laws.FnCodeRun': WHATEVER THE INPUT: true; the input reads as it did. -/
def fnCodeRunSpec : ChangeSpec := { name := "fnCodeRun", fn := fun _ => fun
  | [d] => { results := [.lit (.bool true)], args := [d] }
  | _ => none }
def fnCodeRunRow : OpenClaim := { program := "ytoondakdjhhehaadoor", sum := "9f5b1a9e819c79b7bf4b514bfc30ceed260070e67ebea1896825e1b7e52047c8", func := "loop.example/kleenetests/laws.FnCodeRun", spec := "fnCodeRun", unfollowed := true, recurses := true, named := ["math/bits.deBruijn32tab", "math/bits.deBruijn64tab"], apart := false, laid := [("math/bits.deBruijn32tab", laid_math_bits_deBruijn32tab), ("math/bits.deBruijn64tab", laid_math_bits_deBruijn64tab)] }
def FnCodeRunSaid : Prop := fnCodeRunRow.holds Tryd.pinned (OpenSpec.ofChange fnCodeRunSpec)

/-- ITS FALSE NEIGHBOUR: 'it returns false'. Refute it at one input. -/
def fnCodeRunWrong : ChangeSpec := { name := "fnCodeRun", fn := fun _ => fun
  | [d] => { results := [.lit (.bool false)], args := [d] }
  | _ => none }
def FnCodeRunWrongFalsely : Prop := fnCodeRunRow.holds Tryd.pinned (OpenSpec.ofChange fnCodeRunWrong)

/-- 'laws.FnCodeShort': WHATEVER THE INPUT: true; the input reads as it did. -/
def fnCodeShortSpec : ChangeSpec := { name := "fnCodeShort", fn := fun _ => fun
  | [d1, d2] => { results := [.lit (.bool true)], args := [d1, d2] }
  | _ => none }
def fnCodeShortRow : OpenClaim := { program := "ytoondakdjhhehaadoor", sum := "9f5b1a9e819c79b7bf4b514bfc30ceed260070e67ebea1896825e1b7e52047c8", func := "loop.example/kleenetests/laws.FnCodeShort", spec := "fnCodeShort", unfollowed := true, recurses := true, named := ["math/bits.deBruijn32tab", "math/bits.deBruijn64tab"], apart := false, laid := [("math/bits.deBruijn32tab", laid_math_bits_deBruijn32tab), ("math/bits.deBruijn64tab", laid_math_bits_deBruijn64tab)] }
def FnCodeShortSaid : Prop := fnCodeShortRow.holds Tryd.pinned (OpenSpec.ofChange fnCodeShortSpec)

/-- ITS FALSE NEIGHBOUR: 'it returns false'. Refute it at one input. -/
def fnCodeShortWrong : ChangeSpec := { name := "fnCodeShort", fn := fun _ => fun
  | [d1, d2] => { results := [.lit (.bool false)], args := [d1, d2] }
  | _ => none }
def FnCodeShortWrongFalsely : Prop := fnCodeShortRow.holds Tryd.pinned (OpenSpec.ofChange fnCodeShortWrong)

/-- 'laws.FnExactProgEnds': WHATEVER THE INPUT: true; the input reads as it did. -/
def fnExactProgEndsSpec : ChangeSpec := { name := "fnExactProgEnds", fn := fun _ => fun
  | [d1, d2, d3] => { results := [.lit (.bool true)], args := [d1, d2, d3] }
  | _ => none }
def fnExactProgEndsRow : OpenClaim := { program := "ytoondakdjhhehaadoor", sum := "9f5b1a9e819c79b7bf4b514bfc30ceed260070e67ebea1896825e1b7e52047c8", func := "loop.example/kleenetests/laws.FnExactProgEnds", spec := "fnExactProgEnds", unfollowed := true, recurses := true, named := ["math/bits.deBruijn32tab", "math/bits.deBruijn64tab"], apart := false, laid := [("math/bits.deBruijn32tab", laid_math_bits_deBruijn32tab), ("math/bits.deBruijn64tab", laid_math_bits_deBruijn64tab)] }
def FnExactProgEndsSaid : Prop := fnExactProgEndsRow.holds Tryd.pinned (OpenSpec.ofChange fnExactProgEndsSpec)

/-- ITS FALSE NEIGHBOUR: 'it returns false'. Refute it at one input. -/
def fnExactProgEndsWrong : ChangeSpec := { name := "fnExactProgEnds", fn := fun _ => fun
  | [d1, d2, d3] => { results := [.lit (.bool false)], args := [d1, d2, d3] }
  | _ => none }
def FnExactProgEndsWrongFalsely : Prop := fnExactProgEndsRow.holds Tryd.pinned (OpenSpec.ofChange fnExactProgEndsWrong)

/-- 'laws.FnProgCode': WHATEVER THE INPUT: true; the input reads as it did. -/
def fnProgCodeSpec : ChangeSpec := { name := "fnProgCode", fn := fun _ => fun
  | [d1, d2] => { results := [.lit (.bool true)], args := [d1, d2] }
  | _ => none }
def fnProgCodeRow : OpenClaim := { program := "ytoondakdjhhehaadoor", sum := "9f5b1a9e819c79b7bf4b514bfc30ceed260070e67ebea1896825e1b7e52047c8", func := "loop.example/kleenetests/laws.FnProgCode", spec := "fnProgCode", unfollowed := true, recurses := true, named := ["math/bits.deBruijn32tab", "math/bits.deBruijn64tab"], apart := false, laid := [("math/bits.deBruijn32tab", laid_math_bits_deBruijn32tab), ("math/bits.deBruijn64tab", laid_math_bits_deBruijn64tab)] }
def FnProgCodeSaid : Prop := fnProgCodeRow.holds Tryd.pinned (OpenSpec.ofChange fnProgCodeSpec)

/-- ITS FALSE NEIGHBOUR: 'it returns false'. Refute it at one input. -/
def fnProgCodeWrong : ChangeSpec := { name := "fnProgCode", fn := fun _ => fun
  | [d1, d2] => { results := [.lit (.bool false)], args := [d1, d2] }
  | _ => none }
def FnProgCodeWrongFalsely : Prop := fnProgCodeRow.holds Tryd.pinned (OpenSpec.ofChange fnProgCodeWrong)

/-- 'laws.FnProgEnds': WHATEVER THE INPUT: true; the input reads as it did. -/
def fnProgEndsSpec : ChangeSpec := { name := "fnProgEnds", fn := fun _ => fun
  | [d] => { results := [.lit (.bool true)], args := [d] }
  | _ => none }
def fnProgEndsRow : OpenClaim := { program := "ytoondakdjhhehaadoor", sum := "9f5b1a9e819c79b7bf4b514bfc30ceed260070e67ebea1896825e1b7e52047c8", func := "loop.example/kleenetests/laws.FnProgEnds", spec := "fnProgEnds", unfollowed := true, recurses := true, named := ["math/bits.deBruijn32tab", "math/bits.deBruijn64tab"], apart := false, laid := [("math/bits.deBruijn32tab", laid_math_bits_deBruijn32tab), ("math/bits.deBruijn64tab", laid_math_bits_deBruijn64tab)] }
def FnProgEndsSaid : Prop := fnProgEndsRow.holds Tryd.pinned (OpenSpec.ofChange fnProgEndsSpec)

/-- ITS FALSE NEIGHBOUR: 'it returns false'. Refute it at one input. -/
def fnProgEndsWrong : ChangeSpec := { name := "fnProgEnds", fn := fun _ => fun
  | [d] => { results := [.lit (.bool false)], args := [d] }
  | _ => none }
def FnProgEndsWrongFalsely : Prop := fnProgEndsRow.holds Tryd.pinned (OpenSpec.ofChange fnProgEndsWrong)

/- THE SECOND FORM. 'bulk': how many values and letters a reading holds, each counted each time it is reached (what is shared counts as often as it is met; a slice's spare places count too). A statement '..UptoSaid' is the law's where the arguments, and the package variables that the reading takes, are together of bulk at most 1048576: NARROWER than '..Said'. Prove '..Said' where nothing that the law and all that it calls make is longer than what came in: it says more and counts as full. Else prove '..UptoSaid'. A law counts once. -/
mutual
def uptoBulk {H : Type} : DataW H → Nat
  | .lit (.string bytes) => bytes.length + 1
  | .lit _ => 1
  | .nil => 1
  | .ptr d => uptoBulk d + 1
  | .slice elems spare => uptoBulkAll elems + uptoBulkAll spare + 1
  | .agg parts => uptoBulkAll parts + 1
  | .iface _ d => uptoBulk d + 1
  | .map entries => uptoBulkEntries entries + 1
  | .held _ => 1
def uptoBulkAll {H : Type} : List (DataW H) → Nat
  | [] => 0
  | d :: r => uptoBulk d + uptoBulkAll r
def uptoBulkEntries {H : Type} : List (Lit × DataW H) → Nat
  | [] => 0
  | x :: r => uptoBulkEntry x + uptoBulkEntries r
def uptoBulkEntry {H : Type} : Lit × DataW H → Nat
  | (.string bytes, d) => bytes.length + uptoBulk d + 1
  | (_, d) => uptoBulk d + 1
 end
def uptoSmall : (H : Type) → List (DataW H) → Bool := fun _ ds => decide (uptoBulkAll ds ≤ 1048576)
def OpenSpec.upto (s : _root_.Go.ChangeSpec) : _root_.Go.OpenSpec := { _root_.Go.OpenSpec.ofChange s with cond := some uptoSmall }

/-- 'laws.FnCodeRun', WHERE WHAT IT READS IS OF BULK AT MOST 1048576: true; the input reads as it did. -/
def fnCodeRunUptoRow : OpenClaim := { program := "ytoondakdjhhehaadoor", sum := "9f5b1a9e819c79b7bf4b514bfc30ceed260070e67ebea1896825e1b7e52047c8", func := "loop.example/kleenetests/laws.FnCodeRun", spec := "fnCodeRun", unfollowed := true, recurses := true, named := ["math/bits.deBruijn32tab", "math/bits.deBruijn64tab"], apart := false, laid := [("math/bits.deBruijn32tab", laid_math_bits_deBruijn32tab), ("math/bits.deBruijn64tab", laid_math_bits_deBruijn64tab)], narrowed := true }
def FnCodeRunUptoSaid : Prop := fnCodeRunUptoRow.holds Tryd.pinned (OpenSpec.upto fnCodeRunSpec)

/-- 'laws.FnCodeShort', WHERE WHAT IT READS IS OF BULK AT MOST 1048576: true; the input reads as it did. -/
def fnCodeShortUptoRow : OpenClaim := { program := "ytoondakdjhhehaadoor", sum := "9f5b1a9e819c79b7bf4b514bfc30ceed260070e67ebea1896825e1b7e52047c8", func := "loop.example/kleenetests/laws.FnCodeShort", spec := "fnCodeShort", unfollowed := true, recurses := true, named := ["math/bits.deBruijn32tab", "math/bits.deBruijn64tab"], apart := false, laid := [("math/bits.deBruijn32tab", laid_math_bits_deBruijn32tab), ("math/bits.deBruijn64tab", laid_math_bits_deBruijn64tab)], narrowed := true }
def FnCodeShortUptoSaid : Prop := fnCodeShortUptoRow.holds Tryd.pinned (OpenSpec.upto fnCodeShortSpec)

/-- 'laws.FnExactProgEnds', WHERE WHAT IT READS IS OF BULK AT MOST 1048576: true; the input reads as it did. -/
def fnExactProgEndsUptoRow : OpenClaim := { program := "ytoondakdjhhehaadoor", sum := "9f5b1a9e819c79b7bf4b514bfc30ceed260070e67ebea1896825e1b7e52047c8", func := "loop.example/kleenetests/laws.FnExactProgEnds", spec := "fnExactProgEnds", unfollowed := true, recurses := true, named := ["math/bits.deBruijn32tab", "math/bits.deBruijn64tab"], apart := false, laid := [("math/bits.deBruijn32tab", laid_math_bits_deBruijn32tab), ("math/bits.deBruijn64tab", laid_math_bits_deBruijn64tab)], narrowed := true }
def FnExactProgEndsUptoSaid : Prop := fnExactProgEndsUptoRow.holds Tryd.pinned (OpenSpec.upto fnExactProgEndsSpec)

/-- 'laws.FnProgCode', WHERE WHAT IT READS IS OF BULK AT MOST 1048576: true; the input reads as it did. -/
def fnProgCodeUptoRow : OpenClaim := { program := "ytoondakdjhhehaadoor", sum := "9f5b1a9e819c79b7bf4b514bfc30ceed260070e67ebea1896825e1b7e52047c8", func := "loop.example/kleenetests/laws.FnProgCode", spec := "fnProgCode", unfollowed := true, recurses := true, named := ["math/bits.deBruijn32tab", "math/bits.deBruijn64tab"], apart := false, laid := [("math/bits.deBruijn32tab", laid_math_bits_deBruijn32tab), ("math/bits.deBruijn64tab", laid_math_bits_deBruijn64tab)], narrowed := true }
def FnProgCodeUptoSaid : Prop := fnProgCodeUptoRow.holds Tryd.pinned (OpenSpec.upto fnProgCodeSpec)

/-- 'laws.FnProgEnds', WHERE WHAT IT READS IS OF BULK AT MOST 1048576: true; the input reads as it did. -/
def fnProgEndsUptoRow : OpenClaim := { program := "ytoondakdjhhehaadoor", sum := "9f5b1a9e819c79b7bf4b514bfc30ceed260070e67ebea1896825e1b7e52047c8", func := "loop.example/kleenetests/laws.FnProgEnds", spec := "fnProgEnds", unfollowed := true, recurses := true, named := ["math/bits.deBruijn32tab", "math/bits.deBruijn64tab"], apart := false, laid := [("math/bits.deBruijn32tab", laid_math_bits_deBruijn32tab), ("math/bits.deBruijn64tab", laid_math_bits_deBruijn64tab)], narrowed := true }
def FnProgEndsUptoSaid : Prop := fnProgEndsUptoRow.holds Tryd.pinned (OpenSpec.upto fnProgEndsSpec)

end Rows
end Go.Proofs.YtoondakdjhhehaaDoor
