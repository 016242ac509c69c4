/-
  NARROWER THAN 'FOR EVERY INPUT', by the rows' own cells (each row's printed sentence says how): FnRuleOf: maps, laid · FnProofRun: maps, laid · FnSimpleBy: maps, laid · FnMovesAt: maps, laid · FnActText: laid · FnReadAct: laid · FnDeskDo: maps, laid · FnJournalText: laid.
  DERIVED. THE GIVEN ROWS OF THIS SEAT. 8 by the template 'for every input the law returns true; each argument reads behind the call as it read before'; 0 by the template 'total and deterministic' (their statements: YtagjpecibpejmaaGreatDoorTotals.lean).
  GIVEN WITH THE SEED: the statements are not yours to turn. If you find one false, say at which input.
  Laid BY PROGRAM, IN A SANDBOX (cutbox-rows.mjs): the forced cells as the released guide's own fill.sh prints them over the translation 792876117d42d09e… (all of the seat's roots in one cut). By AI agents, Wed Nov 11 2026. No macro, syntax, notation, axiom, sorry.
-/
import Derived.Test.YtagjpecibpejmaaGreatDoorChecked
import GoSem.Claim
import GoSem.ClaimJoined
import GoSem.ClaimMapViews
import Derived.JoinedTies
import Derived.KernelRfl
namespace Go.Proofs.YtagjpecibpejmaaGreatDoor
/- THE CELL 'sum', in the pinned program and in every row, IS THE sha256 OF THE DUMP (.gsa) THAT YtagjpecibpejmaaGreatDoorProg.lean LOADS. Nothing in Lean hashes anything: it is a label: what it is worth is what the hold of that sum in a sandbox is worth. -/
noncomputable def Tryz.pinned : Pinned := { name := "ytagjpecibpejmaagreatdoor", sum := "792876117d42d09e827dfa784a57a43cd1c113abef902a565ee3ab062a11dbd3", checked := Tryz.checked }
namespace Rows
def none {H : Type} : Left H := { results := [], args := [] }

/- WHAT THE LISTED PACKAGE-LEVEL VARIABLES READ AS WHEN THE CALL BEGINS. Each datum BY PROGRAM (the guide's laid-datum.mjs) off the statement by which the dump's own 'gosem.cut.vars' lays the variable. In a bare row this is a premise. The card (YtagjpecibpejmaaGreatDoorCards.lean) ties it to the program's text. -/
def laid_loop_example_kleenetests_impl_testNames {H : Type} : DataW H := .map [(.int .i64 0, .lit (.string [48])), (.int .i64 3, .lit (.string [33, 113])), (.int .i64 5, .lit (.string [33, 112])), (.int .i64 10, .lit (.string [112])), (.int .i64 12, .lit (.string [113])), (.int .i64 15, .lit (.string [49]))]
def laid_loop_example_kleenetests_impl_ruleTexts {H : Type} : DataW H := .slice [.lit (.string [40, 120, 43, 121, 41, 43, 122, 61, 120, 43, 40, 121, 43, 122, 41]), .lit (.string [120, 43, 121, 61, 121, 43, 120]), .lit (.string [120, 43, 120, 61, 120]), .lit (.string [120, 43, 48, 61, 120]), .lit (.string [40, 120, 59, 121, 41, 59, 122, 61, 120, 59, 40, 121, 59, 122, 41]), .lit (.string [49, 59, 120, 61, 120]), .lit (.string [120, 59, 49, 61, 120]), .lit (.string [48, 59, 120, 61, 48]), .lit (.string [120, 59, 48, 61, 48]), .lit (.string [120, 59, 40, 121, 43, 122, 41, 61, 120, 59, 121, 43, 120, 59, 122]), .lit (.string [40, 120, 43, 121, 41, 59, 122, 61, 120, 59, 122, 43, 121, 59, 122]), .lit (.string [49, 43, 120, 59, 120, 42, 61, 120, 42]), .lit (.string [49, 43, 120, 42, 59, 120, 61, 120, 42]), .lit (.string [40, 120, 59, 121, 41, 42, 59, 120, 61, 120, 59, 40, 121, 59, 120, 41, 42]), .lit (.string [40, 120, 43, 121, 41, 42, 61, 120, 42, 59, 40, 121, 59, 120, 42, 41, 42]), .lit (.string [120, 42, 42, 61, 120, 42]), .lit (.string [120, 42, 59, 120, 42, 61, 120, 42]), .lit (.string [48, 42, 61, 49]), .lit (.string [49, 42, 61, 49]), .lit (.string [40, 49, 43, 120, 41, 42, 61, 120, 42]), .lit (.string [120, 43, 120, 59, 121, 42, 61, 120, 59, 121, 42])] []
def laid_errors_errorType {H : Type} : DataW H := .iface "internal/reflectlite.rtype" (.agg [.ptr (.lit (.string [101, 114, 114, 111, 114]))])
def laid_math_bits_deBruijn32tab {H : Type} : DataW H := .agg [.lit (.int .u8 0), .lit (.int .u8 1), .lit (.int .u8 28), .lit (.int .u8 2), .lit (.int .u8 29), .lit (.int .u8 14), .lit (.int .u8 24), .lit (.int .u8 3), .lit (.int .u8 30), .lit (.int .u8 22), .lit (.int .u8 20), .lit (.int .u8 15), .lit (.int .u8 25), .lit (.int .u8 17), .lit (.int .u8 4), .lit (.int .u8 8), .lit (.int .u8 31), .lit (.int .u8 27), .lit (.int .u8 13), .lit (.int .u8 23), .lit (.int .u8 21), .lit (.int .u8 19), .lit (.int .u8 16), .lit (.int .u8 7), .lit (.int .u8 26), .lit (.int .u8 12), .lit (.int .u8 18), .lit (.int .u8 6), .lit (.int .u8 11), .lit (.int .u8 5), .lit (.int .u8 10), .lit (.int .u8 9)]
def laid_math_bits_deBruijn64tab {H : Type} : DataW H := .agg [.lit (.int .u8 0), .lit (.int .u8 1), .lit (.int .u8 56), .lit (.int .u8 2), .lit (.int .u8 57), .lit (.int .u8 49), .lit (.int .u8 28), .lit (.int .u8 3), .lit (.int .u8 61), .lit (.int .u8 58), .lit (.int .u8 42), .lit (.int .u8 50), .lit (.int .u8 38), .lit (.int .u8 29), .lit (.int .u8 17), .lit (.int .u8 4), .lit (.int .u8 62), .lit (.int .u8 47), .lit (.int .u8 59), .lit (.int .u8 36), .lit (.int .u8 45), .lit (.int .u8 43), .lit (.int .u8 51), .lit (.int .u8 22), .lit (.int .u8 53), .lit (.int .u8 39), .lit (.int .u8 33), .lit (.int .u8 30), .lit (.int .u8 24), .lit (.int .u8 18), .lit (.int .u8 12), .lit (.int .u8 5), .lit (.int .u8 63), .lit (.int .u8 55), .lit (.int .u8 48), .lit (.int .u8 27), .lit (.int .u8 60), .lit (.int .u8 41), .lit (.int .u8 37), .lit (.int .u8 16), .lit (.int .u8 46), .lit (.int .u8 35), .lit (.int .u8 44), .lit (.int .u8 21), .lit (.int .u8 52), .lit (.int .u8 32), .lit (.int .u8 23), .lit (.int .u8 11), .lit (.int .u8 54), .lit (.int .u8 26), .lit (.int .u8 40), .lit (.int .u8 15), .lit (.int .u8 34), .lit (.int .u8 20), .lit (.int .u8 31), .lit (.int .u8 10), .lit (.int .u8 25), .lit (.int .u8 14), .lit (.int .u8 19), .lit (.int .u8 9), .lit (.int .u8 13), .lit (.int .u8 8), .lit (.int .u8 7), .lit (.int .u8 6)]
def laid_internal_strconv_uint64pow10 {H : Type} : DataW H := .agg [.lit (.int .u64 1), .lit (.int .u64 10), .lit (.int .u64 100), .lit (.int .u64 1000), .lit (.int .u64 10000), .lit (.int .u64 100000), .lit (.int .u64 1000000), .lit (.int .u64 10000000), .lit (.int .u64 100000000), .lit (.int .u64 1000000000), .lit (.int .u64 10000000000), .lit (.int .u64 100000000000), .lit (.int .u64 1000000000000), .lit (.int .u64 10000000000000), .lit (.int .u64 100000000000000), .lit (.int .u64 1000000000000000), .lit (.int .u64 10000000000000000), .lit (.int .u64 100000000000000000), .lit (.int .u64 1000000000000000000), .lit (.int .u64 10000000000000000000)]
def laid_strconv_ErrRange {H : Type} : DataW H := .iface "*errors.errorString" (.ptr (.agg [.lit (.string [118, 97, 108, 117, 101, 32, 111, 117, 116, 32, 111, 102, 32, 114, 97, 110, 103, 101])]))
def laid_strconv_ErrSyntax {H : Type} : DataW H := .iface "*errors.errorString" (.ptr (.agg [.lit (.string [105, 110, 118, 97, 108, 105, 100, 32, 115, 121, 110, 116, 97, 120])]))

/-- 'laws.FnRuleOf': WHATEVER THE INPUT: true; the input reads as it did. -/
def fnRuleOfSpec : ChangeSpec := { name := "fnRuleOf", vars := ["loop.example/kleenetests/impl.ruleTexts", "loop.example/kleenetests/impl.testNames"], fn := fun _ => fun
  | [d, g1, g2] => { results := [.lit (.bool true)], args := [d], vars := [g1, g2] }
  | _ => none }
def fnRuleOfRow : OpenClaim := { program := "ytagjpecibpejmaagreatdoor", sum := "792876117d42d09e827dfa784a57a43cd1c113abef902a565ee3ab062a11dbd3", func := "loop.example/kleenetests/laws.FnRuleOf", spec := "fnRuleOf", inPlace := ["internal/bytealg.IndexByteString", "internal/bytealg.IndexString", "sync/atomic.LoadUint32", "(*internal/sync.Mutex).Lock", "internal/race.Disable", "sync/atomic.CompareAndSwapInt32", "internal/race.Enable", "internal/race.Acquire", "(*internal/sync.Mutex).lockSlow", "internal/sync.runtime_canSpin", "internal/sync.runtime_doSpin", "internal/sync.throw", "internal/sync.runtime_nanotime", "internal/sync.runtime_SemacquireMutex", "sync/atomic.AddInt32", "(*internal/sync.Mutex).Unlock", "internal/race.ReleaseMerge", "(*internal/sync.Mutex).unlockSlow", "internal/sync.fatal", "internal/sync.runtime_Semrelease", "sync/atomic.StoreUint32"], unfollowed := true, recurses := true, named := ["loop.example/kleenetests/impl.ruleTexts", "internal/bytealg.MaxLen", "loop.example/kleenetests/impl.testNames"], maps := true, apart := false, laid := [("loop.example/kleenetests/impl.testNames", laid_loop_example_kleenetests_impl_testNames), ("loop.example/kleenetests/impl.ruleTexts", laid_loop_example_kleenetests_impl_ruleTexts)] }
def FnRuleOfSaid : Prop := fnRuleOfRow.holds Tryz.pinned (OpenSpec.ofChange fnRuleOfSpec)

/-- ITS FALSE NEIGHBOUR: 'it returns false'. Refute it at one input. -/
def fnRuleOfWrong : ChangeSpec := { name := "fnRuleOf", vars := ["loop.example/kleenetests/impl.ruleTexts", "loop.example/kleenetests/impl.testNames"], fn := fun _ => fun
  | [d, g1, g2] => { results := [.lit (.bool false)], args := [d], vars := [g1, g2] }
  | _ => none }
def FnRuleOfWrongFalsely : Prop := fnRuleOfRow.holds Tryz.pinned (OpenSpec.ofChange fnRuleOfWrong)

/-- 'laws.FnProofRun': WHATEVER THE INPUT: true; the input reads as it did. -/
def fnProofRunSpec : ChangeSpec := { name := "fnProofRun", vars := ["loop.example/kleenetests/impl.ruleTexts", "loop.example/kleenetests/impl.testNames"], fn := fun _ => fun
  | [d, g1, g2] => { results := [.lit (.bool true)], args := [d], vars := [g1, g2] }
  | _ => none }
def fnProofRunRow : OpenClaim := { program := "ytagjpecibpejmaagreatdoor", sum := "792876117d42d09e827dfa784a57a43cd1c113abef902a565ee3ab062a11dbd3", func := "loop.example/kleenetests/laws.FnProofRun", spec := "fnProofRun", inPlace := ["internal/bytealg.IndexByteString", "internal/bytealg.IndexString", "sync/atomic.LoadUint32", "(*internal/sync.Mutex).Lock", "internal/race.Disable", "sync/atomic.CompareAndSwapInt32", "internal/race.Enable", "internal/race.Acquire", "(*internal/sync.Mutex).lockSlow", "internal/sync.runtime_canSpin", "internal/sync.runtime_doSpin", "internal/sync.throw", "internal/sync.runtime_nanotime", "internal/sync.runtime_SemacquireMutex", "sync/atomic.AddInt32", "(*internal/sync.Mutex).Unlock", "internal/race.ReleaseMerge", "(*internal/sync.Mutex).unlockSlow", "internal/sync.fatal", "internal/sync.runtime_Semrelease", "sync/atomic.StoreUint32"], unfollowed := true, recurses := true, named := ["loop.example/kleenetests/impl.ruleTexts", "internal/bytealg.MaxLen", "loop.example/kleenetests/impl.testNames"], maps := true, apart := false, laid := [("loop.example/kleenetests/impl.testNames", laid_loop_example_kleenetests_impl_testNames), ("loop.example/kleenetests/impl.ruleTexts", laid_loop_example_kleenetests_impl_ruleTexts)] }
def FnProofRunSaid : Prop := fnProofRunRow.holds Tryz.pinned (OpenSpec.ofChange fnProofRunSpec)

/-- ITS FALSE NEIGHBOUR: 'it returns false'. Refute it at one input. -/
def fnProofRunWrong : ChangeSpec := { name := "fnProofRun", vars := ["loop.example/kleenetests/impl.ruleTexts", "loop.example/kleenetests/impl.testNames"], fn := fun _ => fun
  | [d, g1, g2] => { results := [.lit (.bool false)], args := [d], vars := [g1, g2] }
  | _ => none }
def FnProofRunWrongFalsely : Prop := fnProofRunRow.holds Tryz.pinned (OpenSpec.ofChange fnProofRunWrong)

/-- 'laws.FnSimpleBy': WHATEVER THE INPUT: true; the input reads as it did. -/
def fnSimpleBySpec : ChangeSpec := { name := "fnSimpleBy", vars := ["loop.example/kleenetests/impl.ruleTexts", "loop.example/kleenetests/impl.testNames"], fn := fun _ => fun
  | [d, g1, g2] => { results := [.lit (.bool true)], args := [d], vars := [g1, g2] }
  | _ => none }
def fnSimpleByRow : OpenClaim := { program := "ytagjpecibpejmaagreatdoor", sum := "792876117d42d09e827dfa784a57a43cd1c113abef902a565ee3ab062a11dbd3", func := "loop.example/kleenetests/laws.FnSimpleBy", spec := "fnSimpleBy", inPlace := ["internal/bytealg.IndexByteString", "internal/bytealg.IndexString", "sync/atomic.LoadUint32", "(*internal/sync.Mutex).Lock", "internal/race.Disable", "sync/atomic.CompareAndSwapInt32", "internal/race.Enable", "internal/race.Acquire", "(*internal/sync.Mutex).lockSlow", "internal/sync.runtime_canSpin", "internal/sync.runtime_doSpin", "internal/sync.throw", "internal/sync.runtime_nanotime", "internal/sync.runtime_SemacquireMutex", "sync/atomic.AddInt32", "(*internal/sync.Mutex).Unlock", "internal/race.ReleaseMerge", "(*internal/sync.Mutex).unlockSlow", "internal/sync.fatal", "internal/sync.runtime_Semrelease", "sync/atomic.StoreUint32"], unfollowed := true, recurses := true, named := ["loop.example/kleenetests/impl.ruleTexts", "internal/bytealg.MaxLen", "loop.example/kleenetests/impl.testNames"], maps := true, apart := false, laid := [("loop.example/kleenetests/impl.testNames", laid_loop_example_kleenetests_impl_testNames), ("loop.example/kleenetests/impl.ruleTexts", laid_loop_example_kleenetests_impl_ruleTexts)] }
def FnSimpleBySaid : Prop := fnSimpleByRow.holds Tryz.pinned (OpenSpec.ofChange fnSimpleBySpec)

/-- ITS FALSE NEIGHBOUR: 'it returns false'. Refute it at one input. -/
def fnSimpleByWrong : ChangeSpec := { name := "fnSimpleBy", vars := ["loop.example/kleenetests/impl.ruleTexts", "loop.example/kleenetests/impl.testNames"], fn := fun _ => fun
  | [d, g1, g2] => { results := [.lit (.bool false)], args := [d], vars := [g1, g2] }
  | _ => none }
def FnSimpleByWrongFalsely : Prop := fnSimpleByRow.holds Tryz.pinned (OpenSpec.ofChange fnSimpleByWrong)

/-- 'laws.FnMovesAt': WHATEVER THE INPUT: true; the input reads as it did. -/
def fnMovesAtSpec : ChangeSpec := { name := "fnMovesAt", vars := ["loop.example/kleenetests/impl.ruleTexts", "loop.example/kleenetests/impl.testNames"], fn := fun _ => fun
  | [d, g1, g2] => { results := [.lit (.bool true)], args := [d], vars := [g1, g2] }
  | _ => none }
def fnMovesAtRow : OpenClaim := { program := "ytagjpecibpejmaagreatdoor", sum := "792876117d42d09e827dfa784a57a43cd1c113abef902a565ee3ab062a11dbd3", func := "loop.example/kleenetests/laws.FnMovesAt", spec := "fnMovesAt", inPlace := ["internal/bytealg.IndexByteString", "internal/bytealg.IndexString", "sync/atomic.LoadUint32", "(*internal/sync.Mutex).Lock", "internal/race.Disable", "sync/atomic.CompareAndSwapInt32", "internal/race.Enable", "internal/race.Acquire", "(*internal/sync.Mutex).lockSlow", "internal/sync.runtime_canSpin", "internal/sync.runtime_doSpin", "internal/sync.throw", "internal/sync.runtime_nanotime", "internal/sync.runtime_SemacquireMutex", "sync/atomic.AddInt32", "(*internal/sync.Mutex).Unlock", "internal/race.ReleaseMerge", "(*internal/sync.Mutex).unlockSlow", "internal/sync.fatal", "internal/sync.runtime_Semrelease", "sync/atomic.StoreUint32", "internal/reflectlite.ValueOf", "(internal/reflectlite.Value).Type", "(internal/reflectlite.Value).IsNil", "internal/reflectlite.TypeOf", "(internal/reflectlite.Value).Elem", "(internal/reflectlite.Value).Set"], unfollowed := true, recurses := true, named := ["loop.example/kleenetests/impl.ruleTexts", "internal/bytealg.MaxLen", "loop.example/kleenetests/impl.testNames", "errors.errorType"], maps := true, apart := false, laid := [("errors.errorType", laid_errors_errorType), ("loop.example/kleenetests/impl.testNames", laid_loop_example_kleenetests_impl_testNames), ("loop.example/kleenetests/impl.ruleTexts", laid_loop_example_kleenetests_impl_ruleTexts)] }
def FnMovesAtSaid : Prop := fnMovesAtRow.holds Tryz.pinned (OpenSpec.ofChange fnMovesAtSpec)

/-- ITS FALSE NEIGHBOUR: 'it returns false'. Refute it at one input. -/
def fnMovesAtWrong : ChangeSpec := { name := "fnMovesAt", vars := ["loop.example/kleenetests/impl.ruleTexts", "loop.example/kleenetests/impl.testNames"], fn := fun _ => fun
  | [d, g1, g2] => { results := [.lit (.bool false)], args := [d], vars := [g1, g2] }
  | _ => none }
def FnMovesAtWrongFalsely : Prop := fnMovesAtRow.holds Tryz.pinned (OpenSpec.ofChange fnMovesAtWrong)

/-- 'laws.FnActText': WHATEVER THE INPUT: true; the input reads as it did. -/
def fnActTextSpec : ChangeSpec := { name := "fnActText", fn := fun _ => fun
  | [d] => { results := [.lit (.bool true)], args := [d] }
  | _ => none }
def fnActTextRow : OpenClaim := { program := "ytagjpecibpejmaagreatdoor", sum := "792876117d42d09e827dfa784a57a43cd1c113abef902a565ee3ab062a11dbd3", func := "loop.example/kleenetests/laws.FnActText", spec := "fnActText", inPlace := ["internal/bytealg.IndexByteString", "internal/bytealg.IndexString"], recurses := true, named := ["internal/strconv.uint64pow10", "math/bits.deBruijn32tab", "math/bits.deBruijn64tab", "internal/bytealg.MaxLen", "strconv.ErrSyntax", "strconv.ErrRange"], apart := false, laid := [("math/bits.deBruijn32tab", laid_math_bits_deBruijn32tab), ("math/bits.deBruijn64tab", laid_math_bits_deBruijn64tab), ("internal/strconv.uint64pow10", laid_internal_strconv_uint64pow10), ("strconv.ErrRange", laid_strconv_ErrRange), ("strconv.ErrSyntax", laid_strconv_ErrSyntax)] }
def FnActTextSaid : Prop := fnActTextRow.holds Tryz.pinned (OpenSpec.ofChange fnActTextSpec)

/-- ITS FALSE NEIGHBOUR: 'it returns false'. Refute it at one input. -/
def fnActTextWrong : ChangeSpec := { name := "fnActText", fn := fun _ => fun
  | [d] => { results := [.lit (.bool false)], args := [d] }
  | _ => none }
def FnActTextWrongFalsely : Prop := fnActTextRow.holds Tryz.pinned (OpenSpec.ofChange fnActTextWrong)

/-- 'laws.FnReadAct': WHATEVER THE INPUT: true; the input reads as it did. -/
def fnReadActSpec : ChangeSpec := { name := "fnReadAct", fn := fun _ => fun
  | [d] => { results := [.lit (.bool true)], args := [d] }
  | _ => none }
def fnReadActRow : OpenClaim := { program := "ytagjpecibpejmaagreatdoor", sum := "792876117d42d09e827dfa784a57a43cd1c113abef902a565ee3ab062a11dbd3", func := "loop.example/kleenetests/laws.FnReadAct", spec := "fnReadAct", inPlace := ["internal/bytealg.IndexByteString", "internal/bytealg.IndexString"], recurses := true, named := ["internal/bytealg.MaxLen", "strconv.ErrSyntax", "strconv.ErrRange", "internal/strconv.uint64pow10", "math/bits.deBruijn32tab", "math/bits.deBruijn64tab"], apart := false, laid := [("math/bits.deBruijn32tab", laid_math_bits_deBruijn32tab), ("math/bits.deBruijn64tab", laid_math_bits_deBruijn64tab), ("internal/strconv.uint64pow10", laid_internal_strconv_uint64pow10), ("strconv.ErrRange", laid_strconv_ErrRange), ("strconv.ErrSyntax", laid_strconv_ErrSyntax)] }
def FnReadActSaid : Prop := fnReadActRow.holds Tryz.pinned (OpenSpec.ofChange fnReadActSpec)

/-- ITS FALSE NEIGHBOUR: 'it returns false'. Refute it at one input. -/
def fnReadActWrong : ChangeSpec := { name := "fnReadAct", fn := fun _ => fun
  | [d] => { results := [.lit (.bool false)], args := [d] }
  | _ => none }
def FnReadActWrongFalsely : Prop := fnReadActRow.holds Tryz.pinned (OpenSpec.ofChange fnReadActWrong)

/-- 'laws.FnDeskDo': WHATEVER THE INPUT: true; the input reads as it did. -/
def fnDeskDoSpec : ChangeSpec := { name := "fnDeskDo", vars := ["loop.example/kleenetests/impl.ruleTexts", "loop.example/kleenetests/impl.testNames"], fn := fun _ => fun
  | [d, g1, g2] => { results := [.lit (.bool true)], args := [d], vars := [g1, g2] }
  | _ => none }
def fnDeskDoRow : OpenClaim := { program := "ytagjpecibpejmaagreatdoor", sum := "792876117d42d09e827dfa784a57a43cd1c113abef902a565ee3ab062a11dbd3", func := "loop.example/kleenetests/laws.FnDeskDo", spec := "fnDeskDo", inPlace := ["internal/bytealg.IndexByteString", "internal/bytealg.IndexString", "sync/atomic.LoadUint32", "(*internal/sync.Mutex).Lock", "internal/race.Disable", "sync/atomic.CompareAndSwapInt32", "internal/race.Enable", "internal/race.Acquire", "(*internal/sync.Mutex).lockSlow", "internal/sync.runtime_canSpin", "internal/sync.runtime_doSpin", "internal/sync.throw", "internal/sync.runtime_nanotime", "internal/sync.runtime_SemacquireMutex", "sync/atomic.AddInt32", "(*internal/sync.Mutex).Unlock", "internal/race.ReleaseMerge", "(*internal/sync.Mutex).unlockSlow", "internal/sync.fatal", "internal/sync.runtime_Semrelease", "sync/atomic.StoreUint32"], unfollowed := true, recurses := true, named := ["loop.example/kleenetests/impl.ruleTexts", "internal/bytealg.MaxLen", "loop.example/kleenetests/impl.testNames"], maps := true, apart := false, laid := [("loop.example/kleenetests/impl.testNames", laid_loop_example_kleenetests_impl_testNames), ("loop.example/kleenetests/impl.ruleTexts", laid_loop_example_kleenetests_impl_ruleTexts)] }
def FnDeskDoSaid : Prop := fnDeskDoRow.holds Tryz.pinned (OpenSpec.ofChange fnDeskDoSpec)

/-- ITS FALSE NEIGHBOUR: 'it returns false'. Refute it at one input. -/
def fnDeskDoWrong : ChangeSpec := { name := "fnDeskDo", vars := ["loop.example/kleenetests/impl.ruleTexts", "loop.example/kleenetests/impl.testNames"], fn := fun _ => fun
  | [d, g1, g2] => { results := [.lit (.bool false)], args := [d], vars := [g1, g2] }
  | _ => none }
def FnDeskDoWrongFalsely : Prop := fnDeskDoRow.holds Tryz.pinned (OpenSpec.ofChange fnDeskDoWrong)

/-- 'laws.FnJournalText': WHATEVER THE INPUT: true; the input reads as it did. -/
def fnJournalTextSpec : ChangeSpec := { name := "fnJournalText", fn := fun _ => fun
  | [d] => { results := [.lit (.bool true)], args := [d] }
  | _ => none }
def fnJournalTextRow : OpenClaim := { program := "ytagjpecibpejmaagreatdoor", sum := "792876117d42d09e827dfa784a57a43cd1c113abef902a565ee3ab062a11dbd3", func := "loop.example/kleenetests/laws.FnJournalText", spec := "fnJournalText", inPlace := ["internal/abi.NoEscape", "internal/bytealg.IndexByteString", "internal/bytealg.IndexString"], recurses := true, named := ["internal/strconv.uint64pow10", "math/bits.deBruijn32tab", "math/bits.deBruijn64tab", "internal/bytealg.MaxLen", "strconv.ErrSyntax", "strconv.ErrRange"], apart := false, laid := [("math/bits.deBruijn32tab", laid_math_bits_deBruijn32tab), ("math/bits.deBruijn64tab", laid_math_bits_deBruijn64tab), ("internal/strconv.uint64pow10", laid_internal_strconv_uint64pow10), ("strconv.ErrRange", laid_strconv_ErrRange), ("strconv.ErrSyntax", laid_strconv_ErrSyntax)] }
def FnJournalTextSaid : Prop := fnJournalTextRow.holds Tryz.pinned (OpenSpec.ofChange fnJournalTextSpec)

/-- ITS FALSE NEIGHBOUR: 'it returns false'. Refute it at one input. -/
def fnJournalTextWrong : ChangeSpec := { name := "fnJournalText", fn := fun _ => fun
  | [d] => { results := [.lit (.bool false)], args := [d] }
  | _ => none }
def FnJournalTextWrongFalsely : Prop := fnJournalTextRow.holds Tryz.pinned (OpenSpec.ofChange fnJournalTextWrong)

/- THE SECOND FORM. 'bulk': how many values and letters a reading holds, each counted each time it is reached (what is shared counts as often as it is met; a slice's spare places count too). A statement '..UptoSaid' is the law's where the arguments, and the package variables that the reading takes, are together of bulk at most 1048576: NARROWER than '..Said'. Prove '..Said' where nothing that the law and all that it calls make is longer than what came in: it says more and counts as full. Else prove '..UptoSaid'. A law counts once. -/
mutual
def uptoBulk {H : Type} : DataW H → Nat
  | .lit (.string bytes) => bytes.length + 1
  | .lit _ => 1
  | .nil => 1
  | .ptr d => uptoBulk d + 1
  | .slice elems spare => uptoBulkAll elems + uptoBulkAll spare + 1
  | .agg parts => uptoBulkAll parts + 1
  | .iface _ d => uptoBulk d + 1
  | .map entries => uptoBulkEntries entries + 1
  | .held _ => 1
def uptoBulkAll {H : Type} : List (DataW H) → Nat
  | [] => 0
  | d :: r => uptoBulk d + uptoBulkAll r
def uptoBulkEntries {H : Type} : List (Lit × DataW H) → Nat
  | [] => 0
  | x :: r => uptoBulkEntry x + uptoBulkEntries r
def uptoBulkEntry {H : Type} : Lit × DataW H → Nat
  | (.string bytes, d) => bytes.length + uptoBulk d + 1
  | (_, d) => uptoBulk d + 1
 end
def uptoSmall : (H : Type) → List (DataW H) → Bool := fun _ ds => decide (uptoBulkAll ds ≤ 1048576)
def OpenSpec.upto (s : _root_.Go.ChangeSpec) : _root_.Go.OpenSpec := { _root_.Go.OpenSpec.ofChange s with cond := some uptoSmall }

/-- 'laws.FnRuleOf', WHERE WHAT IT READS IS OF BULK AT MOST 1048576: true; the input reads as it did. -/
def fnRuleOfUptoRow : OpenClaim := { program := "ytagjpecibpejmaagreatdoor", sum := "792876117d42d09e827dfa784a57a43cd1c113abef902a565ee3ab062a11dbd3", func := "loop.example/kleenetests/laws.FnRuleOf", spec := "fnRuleOf", inPlace := ["internal/bytealg.IndexByteString", "internal/bytealg.IndexString", "sync/atomic.LoadUint32", "(*internal/sync.Mutex).Lock", "internal/race.Disable", "sync/atomic.CompareAndSwapInt32", "internal/race.Enable", "internal/race.Acquire", "(*internal/sync.Mutex).lockSlow", "internal/sync.runtime_canSpin", "internal/sync.runtime_doSpin", "internal/sync.throw", "internal/sync.runtime_nanotime", "internal/sync.runtime_SemacquireMutex", "sync/atomic.AddInt32", "(*internal/sync.Mutex).Unlock", "internal/race.ReleaseMerge", "(*internal/sync.Mutex).unlockSlow", "internal/sync.fatal", "internal/sync.runtime_Semrelease", "sync/atomic.StoreUint32"], unfollowed := true, recurses := true, named := ["loop.example/kleenetests/impl.ruleTexts", "internal/bytealg.MaxLen", "loop.example/kleenetests/impl.testNames"], maps := true, apart := false, laid := [("loop.example/kleenetests/impl.testNames", laid_loop_example_kleenetests_impl_testNames), ("loop.example/kleenetests/impl.ruleTexts", laid_loop_example_kleenetests_impl_ruleTexts)], narrowed := true }
def FnRuleOfUptoSaid : Prop := fnRuleOfUptoRow.holds Tryz.pinned (OpenSpec.upto fnRuleOfSpec)

/-- 'laws.FnProofRun', WHERE WHAT IT READS IS OF BULK AT MOST 1048576: true; the input reads as it did. -/
def fnProofRunUptoRow : OpenClaim := { program := "ytagjpecibpejmaagreatdoor", sum := "792876117d42d09e827dfa784a57a43cd1c113abef902a565ee3ab062a11dbd3", func := "loop.example/kleenetests/laws.FnProofRun", spec := "fnProofRun", inPlace := ["internal/bytealg.IndexByteString", "internal/bytealg.IndexString", "sync/atomic.LoadUint32", "(*internal/sync.Mutex).Lock", "internal/race.Disable", "sync/atomic.CompareAndSwapInt32", "internal/race.Enable", "internal/race.Acquire", "(*internal/sync.Mutex).lockSlow", "internal/sync.runtime_canSpin", "internal/sync.runtime_doSpin", "internal/sync.throw", "internal/sync.runtime_nanotime", "internal/sync.runtime_SemacquireMutex", "sync/atomic.AddInt32", "(*internal/sync.Mutex).Unlock", "internal/race.ReleaseMerge", "(*internal/sync.Mutex).unlockSlow", "internal/sync.fatal", "internal/sync.runtime_Semrelease", "sync/atomic.StoreUint32"], unfollowed := true, recurses := true, named := ["loop.example/kleenetests/impl.ruleTexts", "internal/bytealg.MaxLen", "loop.example/kleenetests/impl.testNames"], maps := true, apart := false, laid := [("loop.example/kleenetests/impl.testNames", laid_loop_example_kleenetests_impl_testNames), ("loop.example/kleenetests/impl.ruleTexts", laid_loop_example_kleenetests_impl_ruleTexts)], narrowed := true }
def FnProofRunUptoSaid : Prop := fnProofRunUptoRow.holds Tryz.pinned (OpenSpec.upto fnProofRunSpec)

/-- 'laws.FnSimpleBy', WHERE WHAT IT READS IS OF BULK AT MOST 1048576: true; the input reads as it did. -/
def fnSimpleByUptoRow : OpenClaim := { program := "ytagjpecibpejmaagreatdoor", sum := "792876117d42d09e827dfa784a57a43cd1c113abef902a565ee3ab062a11dbd3", func := "loop.example/kleenetests/laws.FnSimpleBy", spec := "fnSimpleBy", inPlace := ["internal/bytealg.IndexByteString", "internal/bytealg.IndexString", "sync/atomic.LoadUint32", "(*internal/sync.Mutex).Lock", "internal/race.Disable", "sync/atomic.CompareAndSwapInt32", "internal/race.Enable", "internal/race.Acquire", "(*internal/sync.Mutex).lockSlow", "internal/sync.runtime_canSpin", "internal/sync.runtime_doSpin", "internal/sync.throw", "internal/sync.runtime_nanotime", "internal/sync.runtime_SemacquireMutex", "sync/atomic.AddInt32", "(*internal/sync.Mutex).Unlock", "internal/race.ReleaseMerge", "(*internal/sync.Mutex).unlockSlow", "internal/sync.fatal", "internal/sync.runtime_Semrelease", "sync/atomic.StoreUint32"], unfollowed := true, recurses := true, named := ["loop.example/kleenetests/impl.ruleTexts", "internal/bytealg.MaxLen", "loop.example/kleenetests/impl.testNames"], maps := true, apart := false, laid := [("loop.example/kleenetests/impl.testNames", laid_loop_example_kleenetests_impl_testNames), ("loop.example/kleenetests/impl.ruleTexts", laid_loop_example_kleenetests_impl_ruleTexts)], narrowed := true }
def FnSimpleByUptoSaid : Prop := fnSimpleByUptoRow.holds Tryz.pinned (OpenSpec.upto fnSimpleBySpec)

/-- 'laws.FnMovesAt', WHERE WHAT IT READS IS OF BULK AT MOST 1048576: true; the input reads as it did. -/
def fnMovesAtUptoRow : OpenClaim := { program := "ytagjpecibpejmaagreatdoor", sum := "792876117d42d09e827dfa784a57a43cd1c113abef902a565ee3ab062a11dbd3", func := "loop.example/kleenetests/laws.FnMovesAt", spec := "fnMovesAt", inPlace := ["internal/bytealg.IndexByteString", "internal/bytealg.IndexString", "sync/atomic.LoadUint32", "(*internal/sync.Mutex).Lock", "internal/race.Disable", "sync/atomic.CompareAndSwapInt32", "internal/race.Enable", "internal/race.Acquire", "(*internal/sync.Mutex).lockSlow", "internal/sync.runtime_canSpin", "internal/sync.runtime_doSpin", "internal/sync.throw", "internal/sync.runtime_nanotime", "internal/sync.runtime_SemacquireMutex", "sync/atomic.AddInt32", "(*internal/sync.Mutex).Unlock", "internal/race.ReleaseMerge", "(*internal/sync.Mutex).unlockSlow", "internal/sync.fatal", "internal/sync.runtime_Semrelease", "sync/atomic.StoreUint32", "internal/reflectlite.ValueOf", "(internal/reflectlite.Value).Type", "(internal/reflectlite.Value).IsNil", "internal/reflectlite.TypeOf", "(internal/reflectlite.Value).Elem", "(internal/reflectlite.Value).Set"], unfollowed := true, recurses := true, named := ["loop.example/kleenetests/impl.ruleTexts", "internal/bytealg.MaxLen", "loop.example/kleenetests/impl.testNames", "errors.errorType"], maps := true, apart := false, laid := [("errors.errorType", laid_errors_errorType), ("loop.example/kleenetests/impl.testNames", laid_loop_example_kleenetests_impl_testNames), ("loop.example/kleenetests/impl.ruleTexts", laid_loop_example_kleenetests_impl_ruleTexts)], narrowed := true }
def FnMovesAtUptoSaid : Prop := fnMovesAtUptoRow.holds Tryz.pinned (OpenSpec.upto fnMovesAtSpec)

/-- 'laws.FnActText', WHERE WHAT IT READS IS OF BULK AT MOST 1048576: true; the input reads as it did. -/
def fnActTextUptoRow : OpenClaim := { program := "ytagjpecibpejmaagreatdoor", sum := "792876117d42d09e827dfa784a57a43cd1c113abef902a565ee3ab062a11dbd3", func := "loop.example/kleenetests/laws.FnActText", spec := "fnActText", inPlace := ["internal/bytealg.IndexByteString", "internal/bytealg.IndexString"], recurses := true, named := ["internal/strconv.uint64pow10", "math/bits.deBruijn32tab", "math/bits.deBruijn64tab", "internal/bytealg.MaxLen", "strconv.ErrSyntax", "strconv.ErrRange"], apart := false, laid := [("math/bits.deBruijn32tab", laid_math_bits_deBruijn32tab), ("math/bits.deBruijn64tab", laid_math_bits_deBruijn64tab), ("internal/strconv.uint64pow10", laid_internal_strconv_uint64pow10), ("strconv.ErrRange", laid_strconv_ErrRange), ("strconv.ErrSyntax", laid_strconv_ErrSyntax)], narrowed := true }
def FnActTextUptoSaid : Prop := fnActTextUptoRow.holds Tryz.pinned (OpenSpec.upto fnActTextSpec)

/-- 'laws.FnReadAct', WHERE WHAT IT READS IS OF BULK AT MOST 1048576: true; the input reads as it did. -/
def fnReadActUptoRow : OpenClaim := { program := "ytagjpecibpejmaagreatdoor", sum := "792876117d42d09e827dfa784a57a43cd1c113abef902a565ee3ab062a11dbd3", func := "loop.example/kleenetests/laws.FnReadAct", spec := "fnReadAct", inPlace := ["internal/bytealg.IndexByteString", "internal/bytealg.IndexString"], recurses := true, named := ["internal/bytealg.MaxLen", "strconv.ErrSyntax", "strconv.ErrRange", "internal/strconv.uint64pow10", "math/bits.deBruijn32tab", "math/bits.deBruijn64tab"], apart := false, laid := [("math/bits.deBruijn32tab", laid_math_bits_deBruijn32tab), ("math/bits.deBruijn64tab", laid_math_bits_deBruijn64tab), ("internal/strconv.uint64pow10", laid_internal_strconv_uint64pow10), ("strconv.ErrRange", laid_strconv_ErrRange), ("strconv.ErrSyntax", laid_strconv_ErrSyntax)], narrowed := true }
def FnReadActUptoSaid : Prop := fnReadActUptoRow.holds Tryz.pinned (OpenSpec.upto fnReadActSpec)

/-- 'laws.FnDeskDo', WHERE WHAT IT READS IS OF BULK AT MOST 1048576: true; the input reads as it did. -/
def fnDeskDoUptoRow : OpenClaim := { program := "ytagjpecibpejmaagreatdoor", sum := "792876117d42d09e827dfa784a57a43cd1c113abef902a565ee3ab062a11dbd3", func := "loop.example/kleenetests/laws.FnDeskDo", spec := "fnDeskDo", inPlace := ["internal/bytealg.IndexByteString", "internal/bytealg.IndexString", "sync/atomic.LoadUint32", "(*internal/sync.Mutex).Lock", "internal/race.Disable", "sync/atomic.CompareAndSwapInt32", "internal/race.Enable", "internal/race.Acquire", "(*internal/sync.Mutex).lockSlow", "internal/sync.runtime_canSpin", "internal/sync.runtime_doSpin", "internal/sync.throw", "internal/sync.runtime_nanotime", "internal/sync.runtime_SemacquireMutex", "sync/atomic.AddInt32", "(*internal/sync.Mutex).Unlock", "internal/race.ReleaseMerge", "(*internal/sync.Mutex).unlockSlow", "internal/sync.fatal", "internal/sync.runtime_Semrelease", "sync/atomic.StoreUint32"], unfollowed := true, recurses := true, named := ["loop.example/kleenetests/impl.ruleTexts", "internal/bytealg.MaxLen", "loop.example/kleenetests/impl.testNames"], maps := true, apart := false, laid := [("loop.example/kleenetests/impl.testNames", laid_loop_example_kleenetests_impl_testNames), ("loop.example/kleenetests/impl.ruleTexts", laid_loop_example_kleenetests_impl_ruleTexts)], narrowed := true }
def FnDeskDoUptoSaid : Prop := fnDeskDoUptoRow.holds Tryz.pinned (OpenSpec.upto fnDeskDoSpec)

/-- 'laws.FnJournalText', WHERE WHAT IT READS IS OF BULK AT MOST 1048576: true; the input reads as it did. -/
def fnJournalTextUptoRow : OpenClaim := { program := "ytagjpecibpejmaagreatdoor", sum := "792876117d42d09e827dfa784a57a43cd1c113abef902a565ee3ab062a11dbd3", func := "loop.example/kleenetests/laws.FnJournalText", spec := "fnJournalText", inPlace := ["internal/abi.NoEscape", "internal/bytealg.IndexByteString", "internal/bytealg.IndexString"], recurses := true, named := ["internal/strconv.uint64pow10", "math/bits.deBruijn32tab", "math/bits.deBruijn64tab", "internal/bytealg.MaxLen", "strconv.ErrSyntax", "strconv.ErrRange"], apart := false, laid := [("math/bits.deBruijn32tab", laid_math_bits_deBruijn32tab), ("math/bits.deBruijn64tab", laid_math_bits_deBruijn64tab), ("internal/strconv.uint64pow10", laid_internal_strconv_uint64pow10), ("strconv.ErrRange", laid_strconv_ErrRange), ("strconv.ErrSyntax", laid_strconv_ErrSyntax)], narrowed := true }
def FnJournalTextUptoSaid : Prop := fnJournalTextUptoRow.holds Tryz.pinned (OpenSpec.upto fnJournalTextSpec)

end Rows
end Go.Proofs.YtagjpecibpejmaaGreatDoor
