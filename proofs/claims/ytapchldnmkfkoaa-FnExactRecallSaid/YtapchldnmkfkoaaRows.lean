/-
  No cell of these rows narrows 'for every input' (looked for: loops, veiled, ifaces, maps, wideKeys, modest, calm, conditions, laid).
  DERIVED. THE GIVEN ROWS OF THIS SEAT. 6 by the template 'for every input the law returns true; each argument reads behind the call as it read before'; 0 by the template 'total and deterministic' (their statements: YtapchldnmkfkoaaTotals.lean).
  GIVEN WITH THE SEED: the statements are not yours to turn. If you find one false, say at which input.
  Laid BY PROGRAM, IN A SANDBOX (cutbox-rows.mjs): the forced cells as the released guide's own fill.sh prints them over the translation c48ba29690129fe1… (all of the seat's roots in one cut). By AI agents, Wed Nov 11 2026. No macro, syntax, notation, axiom, sorry.
-/
import Derived.Test.YtapchldnmkfkoaaChecked
import GoSem.Claim
import GoSem.ClaimJoined
import GoSem.ClaimMapViews
import Derived.JoinedTies
import Derived.KernelRfl
namespace Go.Proofs.Ytapchldnmkfkoaa
/- THE CELL 'sum', in the pinned program and in every row, IS THE sha256 OF THE DUMP (.gsa) THAT YtapchldnmkfkoaaProg.lean LOADS. Nothing in Lean hashes anything: it is a label: what it is worth is what the hold of that sum in a sandbox is worth. -/
noncomputable def Try.pinned : Pinned := { name := "ytapchldnmkfkoaa", sum := "c48ba29690129fe16babeb39454d2223cd3de4006582b379306ab1193b9a9939", checked := Try.checked }
namespace Rows
def none {H : Type} : Left H := { results := [], args := [] }

/-- 'laws.FnExactShowFrame': WHATEVER THE INPUT: true; the input reads as it did. -/
def fnExactShowFrameSpec : ChangeSpec := { name := "fnExactShowFrame", fn := fun _ => fun
  | [d] => { results := [.lit (.bool true)], args := [d] }
  | _ => none }
def fnExactShowFrameRow : OpenClaim := { program := "ytapchldnmkfkoaa", sum := "c48ba29690129fe16babeb39454d2223cd3de4006582b379306ab1193b9a9939", func := "loop.example/g00190/laws.FnExactShowFrame", spec := "fnExactShowFrame", inPlace := ["internal/abi.NoEscape"], apart := false }
def FnExactShowFrameSaid : Prop := fnExactShowFrameRow.holds Try.pinned (OpenSpec.ofChange fnExactShowFrameSpec)

/-- ITS FALSE NEIGHBOUR: 'it returns false'. Refute it at one input. -/
def fnExactShowFrameWrong : ChangeSpec := { name := "fnExactShowFrame", fn := fun _ => fun
  | [d] => { results := [.lit (.bool false)], args := [d] }
  | _ => none }
def FnExactShowFrameWrongFalsely : Prop := fnExactShowFrameRow.holds Try.pinned (OpenSpec.ofChange fnExactShowFrameWrong)

/-- 'laws.FnExactForget': WHATEVER THE INPUT: true; the input reads as it did. -/
def fnExactForgetSpec : ChangeSpec := { name := "fnExactForget", fn := fun _ => fun
  | [d1, d2] => { results := [.lit (.bool true)], args := [d1, d2] }
  | _ => none }
def fnExactForgetRow : OpenClaim := { program := "ytapchldnmkfkoaa", sum := "c48ba29690129fe16babeb39454d2223cd3de4006582b379306ab1193b9a9939", func := "loop.example/g00190/laws.FnExactForget", spec := "fnExactForget", unfollowed := true, recurses := true, apart := false }
def FnExactForgetSaid : Prop := fnExactForgetRow.holds Try.pinned (OpenSpec.ofChange fnExactForgetSpec)

/-- ITS FALSE NEIGHBOUR: 'it returns false'. Refute it at one input. -/
def fnExactForgetWrong : ChangeSpec := { name := "fnExactForget", fn := fun _ => fun
  | [d1, d2] => { results := [.lit (.bool false)], args := [d1, d2] }
  | _ => none }
def FnExactForgetWrongFalsely : Prop := fnExactForgetRow.holds Try.pinned (OpenSpec.ofChange fnExactForgetWrong)

/-- 'laws.FnExactRemember': WHATEVER THE INPUT: true; the input reads as it did. -/
def fnExactRememberSpec : ChangeSpec := { name := "fnExactRemember", fn := fun _ => fun
  | [d1, d2, d3] => { results := [.lit (.bool true)], args := [d1, d2, d3] }
  | _ => none }
def fnExactRememberRow : OpenClaim := { program := "ytapchldnmkfkoaa", sum := "c48ba29690129fe16babeb39454d2223cd3de4006582b379306ab1193b9a9939", func := "loop.example/g00190/laws.FnExactRemember", spec := "fnExactRemember", inPlace := ["slices.overlaps[loop.example/g00190/impl.Kept]"], unfollowed := true, recurses := true, apart := false }
def FnExactRememberSaid : Prop := fnExactRememberRow.holds Try.pinned (OpenSpec.ofChange fnExactRememberSpec)

/-- ITS FALSE NEIGHBOUR: 'it returns false'. Refute it at one input. -/
def fnExactRememberWrong : ChangeSpec := { name := "fnExactRemember", fn := fun _ => fun
  | [d1, d2, d3] => { results := [.lit (.bool false)], args := [d1, d2, d3] }
  | _ => none }
def FnExactRememberWrongFalsely : Prop := fnExactRememberRow.holds Try.pinned (OpenSpec.ofChange fnExactRememberWrong)

/-- 'laws.FnExactRecall': WHATEVER THE INPUT: true; the input reads as it did. -/
def fnExactRecallSpec : ChangeSpec := { name := "fnExactRecall", fn := fun _ => fun
  | [d1, d2] => { results := [.lit (.bool true)], args := [d1, d2] }
  | _ => none }
def fnExactRecallRow : OpenClaim := { program := "ytapchldnmkfkoaa", sum := "c48ba29690129fe16babeb39454d2223cd3de4006582b379306ab1193b9a9939", func := "loop.example/g00190/laws.FnExactRecall", spec := "fnExactRecall", inPlace := ["slices.overlaps[loop.example/g00190/impl.Kept]"], unfollowed := true, recurses := true, apart := false }
def FnExactRecallSaid : Prop := fnExactRecallRow.holds Try.pinned (OpenSpec.ofChange fnExactRecallSpec)

/-- ITS FALSE NEIGHBOUR: 'it returns false'. Refute it at one input. -/
def fnExactRecallWrong : ChangeSpec := { name := "fnExactRecall", fn := fun _ => fun
  | [d1, d2] => { results := [.lit (.bool false)], args := [d1, d2] }
  | _ => none }
def FnExactRecallWrongFalsely : Prop := fnExactRecallRow.holds Try.pinned (OpenSpec.ofChange fnExactRecallWrong)

/-- 'laws.FnCaches': WHATEVER THE INPUT: true; the input reads as it did. -/
def fnCachesSpec : ChangeSpec := { name := "fnCaches", fn := fun _ => fun
  | [d] => { results := [.lit (.bool true)], args := [d] }
  | _ => none }
def fnCachesRow : OpenClaim := { program := "ytapchldnmkfkoaa", sum := "c48ba29690129fe16babeb39454d2223cd3de4006582b379306ab1193b9a9939", func := "loop.example/g00190/laws.FnCaches", spec := "fnCaches", inPlace := ["slices.overlaps[loop.example/g00190/impl.Kept]"], unfollowed := true, recurses := true, apart := false }
def FnCachesSaid : Prop := fnCachesRow.holds Try.pinned (OpenSpec.ofChange fnCachesSpec)

/-- ITS FALSE NEIGHBOUR: 'it returns false'. Refute it at one input. -/
def fnCachesWrong : ChangeSpec := { name := "fnCaches", fn := fun _ => fun
  | [d] => { results := [.lit (.bool false)], args := [d] }
  | _ => none }
def FnCachesWrongFalsely : Prop := fnCachesRow.holds Try.pinned (OpenSpec.ofChange fnCachesWrong)

/-- 'laws.FnCreates': WHATEVER THE INPUT: true; the input reads as it did. -/
def fnCreatesSpec : ChangeSpec := { name := "fnCreates", fn := fun _ => fun
  | [d] => { results := [.lit (.bool true)], args := [d] }
  | _ => none }
def fnCreatesRow : OpenClaim := { program := "ytapchldnmkfkoaa", sum := "c48ba29690129fe16babeb39454d2223cd3de4006582b379306ab1193b9a9939", func := "loop.example/g00190/laws.FnCreates", spec := "fnCreates", unfollowed := true, recurses := true, apart := false }
def FnCreatesSaid : Prop := fnCreatesRow.holds Try.pinned (OpenSpec.ofChange fnCreatesSpec)

/-- ITS FALSE NEIGHBOUR: 'it returns false'. Refute it at one input. -/
def fnCreatesWrong : ChangeSpec := { name := "fnCreates", fn := fun _ => fun
  | [d] => { results := [.lit (.bool false)], args := [d] }
  | _ => none }
def FnCreatesWrongFalsely : Prop := fnCreatesRow.holds Try.pinned (OpenSpec.ofChange fnCreatesWrong)

/- THE SECOND FORM. 'bulk': how many values and letters a reading holds, each counted each time it is reached (what is shared counts as often as it is met; a slice's spare places count too). A statement '..UptoSaid' is the law's where the arguments, and the package variables that the reading takes, are together of bulk at most 1048576: NARROWER than '..Said'. Prove '..Said' where nothing that the law and all that it calls make is longer than what came in: it says more and counts as full. Else prove '..UptoSaid'. A law counts once. -/
mutual
def uptoBulk {H : Type} : DataW H → Nat
  | .lit (.string bytes) => bytes.length + 1
  | .lit _ => 1
  | .nil => 1
  | .ptr d => uptoBulk d + 1
  | .slice elems spare => uptoBulkAll elems + uptoBulkAll spare + 1
  | .agg parts => uptoBulkAll parts + 1
  | .iface _ d => uptoBulk d + 1
  | .map entries => uptoBulkEntries entries + 1
  | .held _ => 1
def uptoBulkAll {H : Type} : List (DataW H) → Nat
  | [] => 0
  | d :: r => uptoBulk d + uptoBulkAll r
def uptoBulkEntries {H : Type} : List (Lit × DataW H) → Nat
  | [] => 0
  | x :: r => uptoBulkEntry x + uptoBulkEntries r
def uptoBulkEntry {H : Type} : Lit × DataW H → Nat
  | (.string bytes, d) => bytes.length + uptoBulk d + 1
  | (_, d) => uptoBulk d + 1
 end
def uptoSmall : (H : Type) → List (DataW H) → Bool := fun _ ds => decide (uptoBulkAll ds ≤ 1048576)
def OpenSpec.upto (s : _root_.Go.ChangeSpec) : _root_.Go.OpenSpec := { _root_.Go.OpenSpec.ofChange s with cond := some uptoSmall }

/-- 'laws.FnExactShowFrame', WHERE WHAT IT READS IS OF BULK AT MOST 1048576: true; the input reads as it did. -/
def fnExactShowFrameUptoRow : OpenClaim := { program := "ytapchldnmkfkoaa", sum := "c48ba29690129fe16babeb39454d2223cd3de4006582b379306ab1193b9a9939", func := "loop.example/g00190/laws.FnExactShowFrame", spec := "fnExactShowFrame", inPlace := ["internal/abi.NoEscape"], apart := false, narrowed := true }
def FnExactShowFrameUptoSaid : Prop := fnExactShowFrameUptoRow.holds Try.pinned (OpenSpec.upto fnExactShowFrameSpec)

/-- 'laws.FnExactForget', WHERE WHAT IT READS IS OF BULK AT MOST 1048576: true; the input reads as it did. -/
def fnExactForgetUptoRow : OpenClaim := { program := "ytapchldnmkfkoaa", sum := "c48ba29690129fe16babeb39454d2223cd3de4006582b379306ab1193b9a9939", func := "loop.example/g00190/laws.FnExactForget", spec := "fnExactForget", unfollowed := true, recurses := true, apart := false, narrowed := true }
def FnExactForgetUptoSaid : Prop := fnExactForgetUptoRow.holds Try.pinned (OpenSpec.upto fnExactForgetSpec)

/-- 'laws.FnExactRemember', WHERE WHAT IT READS IS OF BULK AT MOST 1048576: true; the input reads as it did. -/
def fnExactRememberUptoRow : OpenClaim := { program := "ytapchldnmkfkoaa", sum := "c48ba29690129fe16babeb39454d2223cd3de4006582b379306ab1193b9a9939", func := "loop.example/g00190/laws.FnExactRemember", spec := "fnExactRemember", inPlace := ["slices.overlaps[loop.example/g00190/impl.Kept]"], unfollowed := true, recurses := true, apart := false, narrowed := true }
def FnExactRememberUptoSaid : Prop := fnExactRememberUptoRow.holds Try.pinned (OpenSpec.upto fnExactRememberSpec)

/-- 'laws.FnExactRecall', WHERE WHAT IT READS IS OF BULK AT MOST 1048576: true; the input reads as it did. -/
def fnExactRecallUptoRow : OpenClaim := { program := "ytapchldnmkfkoaa", sum := "c48ba29690129fe16babeb39454d2223cd3de4006582b379306ab1193b9a9939", func := "loop.example/g00190/laws.FnExactRecall", spec := "fnExactRecall", inPlace := ["slices.overlaps[loop.example/g00190/impl.Kept]"], unfollowed := true, recurses := true, apart := false, narrowed := true }
def FnExactRecallUptoSaid : Prop := fnExactRecallUptoRow.holds Try.pinned (OpenSpec.upto fnExactRecallSpec)

/-- 'laws.FnCaches', WHERE WHAT IT READS IS OF BULK AT MOST 1048576: true; the input reads as it did. -/
def fnCachesUptoRow : OpenClaim := { program := "ytapchldnmkfkoaa", sum := "c48ba29690129fe16babeb39454d2223cd3de4006582b379306ab1193b9a9939", func := "loop.example/g00190/laws.FnCaches", spec := "fnCaches", inPlace := ["slices.overlaps[loop.example/g00190/impl.Kept]"], unfollowed := true, recurses := true, apart := false, narrowed := true }
def FnCachesUptoSaid : Prop := fnCachesUptoRow.holds Try.pinned (OpenSpec.upto fnCachesSpec)

/-- 'laws.FnCreates', WHERE WHAT IT READS IS OF BULK AT MOST 1048576: true; the input reads as it did. -/
def fnCreatesUptoRow : OpenClaim := { program := "ytapchldnmkfkoaa", sum := "c48ba29690129fe16babeb39454d2223cd3de4006582b379306ab1193b9a9939", func := "loop.example/g00190/laws.FnCreates", spec := "fnCreates", unfollowed := true, recurses := true, apart := false, narrowed := true }
def FnCreatesUptoSaid : Prop := fnCreatesUptoRow.holds Try.pinned (OpenSpec.upto fnCreatesSpec)

end Rows
end Go.Proofs.Ytapchldnmkfkoaa
