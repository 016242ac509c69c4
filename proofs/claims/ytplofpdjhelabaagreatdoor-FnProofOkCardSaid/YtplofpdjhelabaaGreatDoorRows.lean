/-
  NARROWER THAN 'FOR EVERY INPUT', by the rows' own cells (each row's printed sentence says how): FnProofOk: maps, laid · FnMoveDo: maps, laid.
  DERIVED. THE GIVEN ROWS OF THIS SEAT. 2 by the template 'for every input the law returns true; each argument reads behind the call as it read before'; 0 by the template 'total and deterministic' (their statements: YtplofpdjhelabaaGreatDoorTotals.lean).
  GIVEN WITH THE SEED: the statements are not yours to turn. If you find one false, say at which input.
  Laid BY PROGRAM, IN A SANDBOX (cutbox-rows.mjs): the forced cells as the released guide's own fill.sh prints them over the translation 6eb7ce7cd7180e29… (all of the seat's roots in one cut). By AI agents, Wed Nov 11 2026. No macro, syntax, notation, axiom, sorry.
-/
import Derived.Test.YtplofpdjhelabaaGreatDoorChecked
import GoSem.Claim
import GoSem.ClaimJoined
import GoSem.ClaimMapViews
import Derived.JoinedTies
import Derived.KernelRfl
namespace Go.Proofs.YtplofpdjhelabaaGreatDoor
/- THE CELL 'sum', in the pinned program and in every row, IS THE sha256 OF THE DUMP (.gsa) THAT YtplofpdjhelabaaGreatDoorProg.lean LOADS. Nothing in Lean hashes anything: it is a label: what it is worth is what the hold of that sum in a sandbox is worth. -/
noncomputable def Tryz.pinned : Pinned := { name := "ytplofpdjhelabaagreatdoor", sum := "6eb7ce7cd7180e29bfbb16307b6251756c722e04fb44f89e075748791428e08a", checked := Tryz.checked }
namespace Rows
def none {H : Type} : Left H := { results := [], args := [] }

/- WHAT THE LISTED PACKAGE-LEVEL VARIABLES READ AS WHEN THE CALL BEGINS. Each datum BY PROGRAM (the guide's laid-datum.mjs) off the statement by which the dump's own 'gosem.cut.vars' lays the variable. In a bare row this is a premise. The card (YtplofpdjhelabaaGreatDoorCards.lean) ties it to the program's text. -/
def laid_loop_example_kleenetests_impl_testNames {H : Type} : DataW H := .map [(.int .i64 0, .lit (.string [48])), (.int .i64 3, .lit (.string [33, 113])), (.int .i64 5, .lit (.string [33, 112])), (.int .i64 10, .lit (.string [112])), (.int .i64 12, .lit (.string [113])), (.int .i64 15, .lit (.string [49]))]
def laid_loop_example_kleenetests_impl_ruleTexts {H : Type} : DataW H := .slice [.lit (.string [40, 120, 43, 121, 41, 43, 122, 61, 120, 43, 40, 121, 43, 122, 41]), .lit (.string [120, 43, 121, 61, 121, 43, 120]), .lit (.string [120, 43, 120, 61, 120]), .lit (.string [120, 43, 48, 61, 120]), .lit (.string [40, 120, 59, 121, 41, 59, 122, 61, 120, 59, 40, 121, 59, 122, 41]), .lit (.string [49, 59, 120, 61, 120]), .lit (.string [120, 59, 49, 61, 120]), .lit (.string [48, 59, 120, 61, 48]), .lit (.string [120, 59, 48, 61, 48]), .lit (.string [120, 59, 40, 121, 43, 122, 41, 61, 120, 59, 121, 43, 120, 59, 122]), .lit (.string [40, 120, 43, 121, 41, 59, 122, 61, 120, 59, 122, 43, 121, 59, 122]), .lit (.string [49, 43, 120, 59, 120, 42, 61, 120, 42]), .lit (.string [49, 43, 120, 42, 59, 120, 61, 120, 42]), .lit (.string [40, 120, 59, 121, 41, 42, 59, 120, 61, 120, 59, 40, 121, 59, 120, 41, 42]), .lit (.string [40, 120, 43, 121, 41, 42, 61, 120, 42, 59, 40, 121, 59, 120, 42, 41, 42]), .lit (.string [120, 42, 42, 61, 120, 42]), .lit (.string [120, 42, 59, 120, 42, 61, 120, 42]), .lit (.string [48, 42, 61, 49]), .lit (.string [49, 42, 61, 49]), .lit (.string [40, 49, 43, 120, 41, 42, 61, 120, 42]), .lit (.string [120, 43, 120, 59, 121, 42, 61, 120, 59, 121, 42])] []
def laid_errors_errorType {H : Type} : DataW H := .iface "internal/reflectlite.rtype" (.agg [.ptr (.lit (.string [101, 114, 114, 111, 114]))])

/-- 'laws.FnProofOk': WHATEVER THE INPUT: true; the input reads as it did. -/
def fnProofOkSpec : ChangeSpec := { name := "fnProofOk", vars := ["loop.example/kleenetests/impl.ruleTexts", "loop.example/kleenetests/impl.testNames"], fn := fun _ => fun
  | [d1, d2, g1, g2] => { results := [.lit (.bool true)], args := [d1, d2], vars := [g1, g2] }
  | _ => none }
def fnProofOkRow : OpenClaim := { program := "ytplofpdjhelabaagreatdoor", sum := "6eb7ce7cd7180e29bfbb16307b6251756c722e04fb44f89e075748791428e08a", func := "loop.example/kleenetests/laws.FnProofOk", spec := "fnProofOk", inPlace := ["internal/bytealg.IndexByteString", "internal/bytealg.IndexString", "sync/atomic.LoadUint32", "(*internal/sync.Mutex).Lock", "internal/race.Disable", "sync/atomic.CompareAndSwapInt32", "internal/race.Enable", "internal/race.Acquire", "(*internal/sync.Mutex).lockSlow", "internal/sync.runtime_canSpin", "internal/sync.runtime_doSpin", "internal/sync.throw", "internal/sync.runtime_nanotime", "internal/sync.runtime_SemacquireMutex", "sync/atomic.AddInt32", "(*internal/sync.Mutex).Unlock", "internal/race.ReleaseMerge", "(*internal/sync.Mutex).unlockSlow", "internal/sync.fatal", "internal/sync.runtime_Semrelease", "sync/atomic.StoreUint32"], unfollowed := true, recurses := true, named := ["loop.example/kleenetests/impl.ruleTexts", "internal/bytealg.MaxLen", "loop.example/kleenetests/impl.testNames"], maps := true, plainKeys := false, apart := false, laid := [("loop.example/kleenetests/impl.testNames", laid_loop_example_kleenetests_impl_testNames), ("loop.example/kleenetests/impl.ruleTexts", laid_loop_example_kleenetests_impl_ruleTexts)] }
def FnProofOkSaid : Prop := fnProofOkRow.holds Tryz.pinned (OpenSpec.ofChange fnProofOkSpec)

/-- ITS FALSE NEIGHBOUR: 'it returns false'. Refute it at one input. -/
def fnProofOkWrong : ChangeSpec := { name := "fnProofOk", vars := ["loop.example/kleenetests/impl.ruleTexts", "loop.example/kleenetests/impl.testNames"], fn := fun _ => fun
  | [d1, d2, g1, g2] => { results := [.lit (.bool false)], args := [d1, d2], vars := [g1, g2] }
  | _ => none }
def FnProofOkWrongFalsely : Prop := fnProofOkRow.holds Tryz.pinned (OpenSpec.ofChange fnProofOkWrong)

/-- 'laws.FnMoveDo': WHATEVER THE INPUT: true; the input reads as it did. -/
def fnMoveDoSpec : ChangeSpec := { name := "fnMoveDo", vars := ["loop.example/kleenetests/impl.ruleTexts", "loop.example/kleenetests/impl.testNames"], fn := fun _ => fun
  | [d1, d2, g1, g2] => { results := [.lit (.bool true)], args := [d1, d2], vars := [g1, g2] }
  | _ => none }
def fnMoveDoRow : OpenClaim := { program := "ytplofpdjhelabaagreatdoor", sum := "6eb7ce7cd7180e29bfbb16307b6251756c722e04fb44f89e075748791428e08a", func := "loop.example/kleenetests/laws.FnMoveDo", spec := "fnMoveDo", inPlace := ["internal/bytealg.IndexByteString", "internal/bytealg.IndexString", "sync/atomic.LoadUint32", "(*internal/sync.Mutex).Lock", "internal/race.Disable", "sync/atomic.CompareAndSwapInt32", "internal/race.Enable", "internal/race.Acquire", "(*internal/sync.Mutex).lockSlow", "internal/sync.runtime_canSpin", "internal/sync.runtime_doSpin", "internal/sync.throw", "internal/sync.runtime_nanotime", "internal/sync.runtime_SemacquireMutex", "sync/atomic.AddInt32", "(*internal/sync.Mutex).Unlock", "internal/race.ReleaseMerge", "(*internal/sync.Mutex).unlockSlow", "internal/sync.fatal", "internal/sync.runtime_Semrelease", "sync/atomic.StoreUint32", "internal/reflectlite.ValueOf", "(internal/reflectlite.Value).Type", "(internal/reflectlite.Value).IsNil", "internal/reflectlite.TypeOf", "(internal/reflectlite.Value).Elem", "(internal/reflectlite.Value).Set"], unfollowed := true, recurses := true, named := ["loop.example/kleenetests/impl.ruleTexts", "internal/bytealg.MaxLen", "loop.example/kleenetests/impl.testNames", "errors.errorType"], maps := true, plainKeys := false, apart := false, laid := [("errors.errorType", laid_errors_errorType), ("loop.example/kleenetests/impl.testNames", laid_loop_example_kleenetests_impl_testNames), ("loop.example/kleenetests/impl.ruleTexts", laid_loop_example_kleenetests_impl_ruleTexts)] }
def FnMoveDoSaid : Prop := fnMoveDoRow.holds Tryz.pinned (OpenSpec.ofChange fnMoveDoSpec)

/-- ITS FALSE NEIGHBOUR: 'it returns false'. Refute it at one input. -/
def fnMoveDoWrong : ChangeSpec := { name := "fnMoveDo", vars := ["loop.example/kleenetests/impl.ruleTexts", "loop.example/kleenetests/impl.testNames"], fn := fun _ => fun
  | [d1, d2, g1, g2] => { results := [.lit (.bool false)], args := [d1, d2], vars := [g1, g2] }
  | _ => none }
def FnMoveDoWrongFalsely : Prop := fnMoveDoRow.holds Tryz.pinned (OpenSpec.ofChange fnMoveDoWrong)

/- THE SECOND FORM. 'bulk': how many values and letters a reading holds, each counted each time it is reached (what is shared counts as often as it is met; a slice's spare places count too). A statement '..UptoSaid' is the law's where the arguments, and the package variables that the reading takes, are together of bulk at most 1048576: NARROWER than '..Said'. Prove '..Said' where nothing that the law and all that it calls make is longer than what came in: it says more and counts as full. Else prove '..UptoSaid'. A law counts once. -/
mutual
def uptoBulk {H : Type} : DataW H → Nat
  | .lit (.string bytes) => bytes.length + 1
  | .lit _ => 1
  | .nil => 1
  | .ptr d => uptoBulk d + 1
  | .slice elems spare => uptoBulkAll elems + uptoBulkAll spare + 1
  | .agg parts => uptoBulkAll parts + 1
  | .iface _ d => uptoBulk d + 1
  | .map entries => uptoBulkEntries entries + 1
  | .held _ => 1
def uptoBulkAll {H : Type} : List (DataW H) → Nat
  | [] => 0
  | d :: r => uptoBulk d + uptoBulkAll r
def uptoBulkEntries {H : Type} : List (Lit × DataW H) → Nat
  | [] => 0
  | x :: r => uptoBulkEntry x + uptoBulkEntries r
def uptoBulkEntry {H : Type} : Lit × DataW H → Nat
  | (.string bytes, d) => bytes.length + uptoBulk d + 1
  | (_, d) => uptoBulk d + 1
 end
def uptoSmall : (H : Type) → List (DataW H) → Bool := fun _ ds => decide (uptoBulkAll ds ≤ 1048576)
def OpenSpec.upto (s : _root_.Go.ChangeSpec) : _root_.Go.OpenSpec := { _root_.Go.OpenSpec.ofChange s with cond := some uptoSmall }

/-- 'laws.FnProofOk', WHERE WHAT IT READS IS OF BULK AT MOST 1048576: true; the input reads as it did. -/
def fnProofOkUptoRow : OpenClaim := { program := "ytplofpdjhelabaagreatdoor", sum := "6eb7ce7cd7180e29bfbb16307b6251756c722e04fb44f89e075748791428e08a", func := "loop.example/kleenetests/laws.FnProofOk", spec := "fnProofOk", inPlace := ["internal/bytealg.IndexByteString", "internal/bytealg.IndexString", "sync/atomic.LoadUint32", "(*internal/sync.Mutex).Lock", "internal/race.Disable", "sync/atomic.CompareAndSwapInt32", "internal/race.Enable", "internal/race.Acquire", "(*internal/sync.Mutex).lockSlow", "internal/sync.runtime_canSpin", "internal/sync.runtime_doSpin", "internal/sync.throw", "internal/sync.runtime_nanotime", "internal/sync.runtime_SemacquireMutex", "sync/atomic.AddInt32", "(*internal/sync.Mutex).Unlock", "internal/race.ReleaseMerge", "(*internal/sync.Mutex).unlockSlow", "internal/sync.fatal", "internal/sync.runtime_Semrelease", "sync/atomic.StoreUint32"], unfollowed := true, recurses := true, named := ["loop.example/kleenetests/impl.ruleTexts", "internal/bytealg.MaxLen", "loop.example/kleenetests/impl.testNames"], maps := true, plainKeys := false, apart := false, laid := [("loop.example/kleenetests/impl.testNames", laid_loop_example_kleenetests_impl_testNames), ("loop.example/kleenetests/impl.ruleTexts", laid_loop_example_kleenetests_impl_ruleTexts)], narrowed := true }
def FnProofOkUptoSaid : Prop := fnProofOkUptoRow.holds Tryz.pinned (OpenSpec.upto fnProofOkSpec)

/-- 'laws.FnMoveDo', WHERE WHAT IT READS IS OF BULK AT MOST 1048576: true; the input reads as it did. -/
def fnMoveDoUptoRow : OpenClaim := { program := "ytplofpdjhelabaagreatdoor", sum := "6eb7ce7cd7180e29bfbb16307b6251756c722e04fb44f89e075748791428e08a", func := "loop.example/kleenetests/laws.FnMoveDo", spec := "fnMoveDo", inPlace := ["internal/bytealg.IndexByteString", "internal/bytealg.IndexString", "sync/atomic.LoadUint32", "(*internal/sync.Mutex).Lock", "internal/race.Disable", "sync/atomic.CompareAndSwapInt32", "internal/race.Enable", "internal/race.Acquire", "(*internal/sync.Mutex).lockSlow", "internal/sync.runtime_canSpin", "internal/sync.runtime_doSpin", "internal/sync.throw", "internal/sync.runtime_nanotime", "internal/sync.runtime_SemacquireMutex", "sync/atomic.AddInt32", "(*internal/sync.Mutex).Unlock", "internal/race.ReleaseMerge", "(*internal/sync.Mutex).unlockSlow", "internal/sync.fatal", "internal/sync.runtime_Semrelease", "sync/atomic.StoreUint32", "internal/reflectlite.ValueOf", "(internal/reflectlite.Value).Type", "(internal/reflectlite.Value).IsNil", "internal/reflectlite.TypeOf", "(internal/reflectlite.Value).Elem", "(internal/reflectlite.Value).Set"], unfollowed := true, recurses := true, named := ["loop.example/kleenetests/impl.ruleTexts", "internal/bytealg.MaxLen", "loop.example/kleenetests/impl.testNames", "errors.errorType"], maps := true, plainKeys := false, apart := false, laid := [("errors.errorType", laid_errors_errorType), ("loop.example/kleenetests/impl.testNames", laid_loop_example_kleenetests_impl_testNames), ("loop.example/kleenetests/impl.ruleTexts", laid_loop_example_kleenetests_impl_ruleTexts)], narrowed := true }
def FnMoveDoUptoSaid : Prop := fnMoveDoUptoRow.holds Tryz.pinned (OpenSpec.upto fnMoveDoSpec)

end Rows
end Go.Proofs.YtplofpdjhelabaaGreatDoor
