/-
  No cell of these rows narrows 'for every input' (looked for: loops, veiled, ifaces, maps, wideKeys, modest, calm, conditions, laid).
  DERIVED. THE GIVEN ROWS OF THIS SEAT. 5 by the template 'for every input the law returns true; each argument reads behind the call as it read before'; 0 by the template 'total and deterministic' (their statements: YtapchldnmkfkoabTotals.lean).
  GIVEN WITH THE SEED: the statements are not yours to turn. If you find one false, say at which input.
  Laid BY PROGRAM, IN A SANDBOX (cutbox-rows.mjs): the forced cells as the released guide's own fill.sh prints them over the translation f6e70722e4f3b14d… (all of the seat's roots in one cut). By AI agents, Wed Nov 11 2026. No macro, syntax, notation, axiom, sorry.
-/
import Derived.Test.YtapchldnmkfkoabChecked
import GoSem.Claim
import GoSem.ClaimJoined
import GoSem.ClaimMapViews
import Derived.JoinedTies
import Derived.KernelRfl
namespace Go.Proofs.Ytapchldnmkfkoab
/- THE CELL 'sum', in the pinned program and in every row, IS THE sha256 OF THE DUMP (.gsa) THAT YtapchldnmkfkoabProg.lean LOADS. Nothing in Lean hashes anything: it is a label: what it is worth is what the hold of that sum in a sandbox is worth. -/
noncomputable def Try.pinned : Pinned := { name := "ytapchldnmkfkoab", sum := "f6e70722e4f3b14d2e41c48ec2c10296ad2d506d13633377e2a03bb2717de9b2", checked := Try.checked }
namespace Rows
def none {H : Type} : Left H := { results := [], args := [] }

/-- 'laws.FnPlaces': WHATEVER THE INPUT: true; the input reads as it did. -/
def fnPlacesSpec : ChangeSpec := { name := "fnPlaces", fn := fun _ => fun
  | [d] => { results := [.lit (.bool true)], args := [d] }
  | _ => none }
def fnPlacesRow : OpenClaim := { program := "ytapchldnmkfkoab", sum := "f6e70722e4f3b14d2e41c48ec2c10296ad2d506d13633377e2a03bb2717de9b2", func := "loop.example/g00190/laws.FnPlaces", spec := "fnPlaces", inPlace := ["slices.overlaps[loop.example/g00190/impl.Node]"], unfollowed := true, recurses := true, apart := false }
def FnPlacesSaid : Prop := fnPlacesRow.holds Try.pinned (OpenSpec.ofChange fnPlacesSpec)

/-- ITS FALSE NEIGHBOUR: 'it returns false'. Refute it at one input. -/
def fnPlacesWrong : ChangeSpec := { name := "fnPlaces", fn := fun _ => fun
  | [d] => { results := [.lit (.bool false)], args := [d] }
  | _ => none }
def FnPlacesWrongFalsely : Prop := fnPlacesRow.holds Try.pinned (OpenSpec.ofChange fnPlacesWrong)

/-- 'laws.FnExactCreateNode': WHATEVER THE INPUT: true; the input reads as it did. -/
def fnExactCreateNodeSpec : ChangeSpec := { name := "fnExactCreateNode", fn := fun _ => fun
  | [d1, d2] => { results := [.lit (.bool true)], args := [d1, d2] }
  | _ => none }
def fnExactCreateNodeRow : OpenClaim := { program := "ytapchldnmkfkoab", sum := "f6e70722e4f3b14d2e41c48ec2c10296ad2d506d13633377e2a03bb2717de9b2", func := "loop.example/g00190/laws.FnExactCreateNode", spec := "fnExactCreateNode", unfollowed := true, recurses := true, apart := false }
def FnExactCreateNodeSaid : Prop := fnExactCreateNodeRow.holds Try.pinned (OpenSpec.ofChange fnExactCreateNodeSpec)

/-- ITS FALSE NEIGHBOUR: 'it returns false'. Refute it at one input. -/
def fnExactCreateNodeWrong : ChangeSpec := { name := "fnExactCreateNode", fn := fun _ => fun
  | [d1, d2] => { results := [.lit (.bool false)], args := [d1, d2] }
  | _ => none }
def FnExactCreateNodeWrongFalsely : Prop := fnExactCreateNodeRow.holds Try.pinned (OpenSpec.ofChange fnExactCreateNodeWrong)

/-- 'laws.FnExactSetNode': WHATEVER THE INPUT: true; the input reads as it did. -/
def fnExactSetNodeSpec : ChangeSpec := { name := "fnExactSetNode", fn := fun _ => fun
  | [d1, d2] => { results := [.lit (.bool true)], args := [d1, d2] }
  | _ => none }
def fnExactSetNodeRow : OpenClaim := { program := "ytapchldnmkfkoab", sum := "f6e70722e4f3b14d2e41c48ec2c10296ad2d506d13633377e2a03bb2717de9b2", func := "loop.example/g00190/laws.FnExactSetNode", spec := "fnExactSetNode", unfollowed := true, recurses := true, apart := false }
def FnExactSetNodeSaid : Prop := fnExactSetNodeRow.holds Try.pinned (OpenSpec.ofChange fnExactSetNodeSpec)

/-- ITS FALSE NEIGHBOUR: 'it returns false'. Refute it at one input. -/
def fnExactSetNodeWrong : ChangeSpec := { name := "fnExactSetNode", fn := fun _ => fun
  | [d1, d2] => { results := [.lit (.bool false)], args := [d1, d2] }
  | _ => none }
def FnExactSetNodeWrongFalsely : Prop := fnExactSetNodeRow.holds Try.pinned (OpenSpec.ofChange fnExactSetNodeWrong)

/-- 'laws.FnExactDropNode': WHATEVER THE INPUT: true; the input reads as it did. -/
def fnExactDropNodeSpec : ChangeSpec := { name := "fnExactDropNode", fn := fun _ => fun
  | [d1, d2] => { results := [.lit (.bool true)], args := [d1, d2] }
  | _ => none }
def fnExactDropNodeRow : OpenClaim := { program := "ytapchldnmkfkoab", sum := "f6e70722e4f3b14d2e41c48ec2c10296ad2d506d13633377e2a03bb2717de9b2", func := "loop.example/g00190/laws.FnExactDropNode", spec := "fnExactDropNode", unfollowed := true, recurses := true, apart := false }
def FnExactDropNodeSaid : Prop := fnExactDropNodeRow.holds Try.pinned (OpenSpec.ofChange fnExactDropNodeSpec)

/-- ITS FALSE NEIGHBOUR: 'it returns false'. Refute it at one input. -/
def fnExactDropNodeWrong : ChangeSpec := { name := "fnExactDropNode", fn := fun _ => fun
  | [d1, d2] => { results := [.lit (.bool false)], args := [d1, d2] }
  | _ => none }
def FnExactDropNodeWrongFalsely : Prop := fnExactDropNodeRow.holds Try.pinned (OpenSpec.ofChange fnExactDropNodeWrong)

/-- 'laws.FnExactPlaceNode': WHATEVER THE INPUT: true; the input reads as it did. -/
def fnExactPlaceNodeSpec : ChangeSpec := { name := "fnExactPlaceNode", fn := fun _ => fun
  | [d1, d2, d3, d4] => { results := [.lit (.bool true)], args := [d1, d2, d3, d4] }
  | _ => none }
def fnExactPlaceNodeRow : OpenClaim := { program := "ytapchldnmkfkoab", sum := "f6e70722e4f3b14d2e41c48ec2c10296ad2d506d13633377e2a03bb2717de9b2", func := "loop.example/g00190/laws.FnExactPlaceNode", spec := "fnExactPlaceNode", inPlace := ["slices.overlaps[loop.example/g00190/impl.Node]"], unfollowed := true, recurses := true, apart := false }
def FnExactPlaceNodeSaid : Prop := fnExactPlaceNodeRow.holds Try.pinned (OpenSpec.ofChange fnExactPlaceNodeSpec)

/-- ITS FALSE NEIGHBOUR: 'it returns false'. Refute it at one input. -/
def fnExactPlaceNodeWrong : ChangeSpec := { name := "fnExactPlaceNode", fn := fun _ => fun
  | [d1, d2, d3, d4] => { results := [.lit (.bool false)], args := [d1, d2, d3, d4] }
  | _ => none }
def FnExactPlaceNodeWrongFalsely : Prop := fnExactPlaceNodeRow.holds Try.pinned (OpenSpec.ofChange fnExactPlaceNodeWrong)

/- THE SECOND FORM. 'bulk': how many values and letters a reading holds, each counted each time it is reached (what is shared counts as often as it is met; a slice's spare places count too). A statement '..UptoSaid' is the law's where the arguments, and the package variables that the reading takes, are together of bulk at most 1048576: NARROWER than '..Said'. Prove '..Said' where nothing that the law and all that it calls make is longer than what came in: it says more and counts as full. Else prove '..UptoSaid'. A law counts once. -/
mutual
def uptoBulk {H : Type} : DataW H → Nat
  | .lit (.string bytes) => bytes.length + 1
  | .lit _ => 1
  | .nil => 1
  | .ptr d => uptoBulk d + 1
  | .slice elems spare => uptoBulkAll elems + uptoBulkAll spare + 1
  | .agg parts => uptoBulkAll parts + 1
  | .iface _ d => uptoBulk d + 1
  | .map entries => uptoBulkEntries entries + 1
  | .held _ => 1
def uptoBulkAll {H : Type} : List (DataW H) → Nat
  | [] => 0
  | d :: r => uptoBulk d + uptoBulkAll r
def uptoBulkEntries {H : Type} : List (Lit × DataW H) → Nat
  | [] => 0
  | x :: r => uptoBulkEntry x + uptoBulkEntries r
def uptoBulkEntry {H : Type} : Lit × DataW H → Nat
  | (.string bytes, d) => bytes.length + uptoBulk d + 1
  | (_, d) => uptoBulk d + 1
 end
def uptoSmall : (H : Type) → List (DataW H) → Bool := fun _ ds => decide (uptoBulkAll ds ≤ 1048576)
def OpenSpec.upto (s : _root_.Go.ChangeSpec) : _root_.Go.OpenSpec := { _root_.Go.OpenSpec.ofChange s with cond := some uptoSmall }

/-- 'laws.FnPlaces', WHERE WHAT IT READS IS OF BULK AT MOST 1048576: true; the input reads as it did. -/
def fnPlacesUptoRow : OpenClaim := { program := "ytapchldnmkfkoab", sum := "f6e70722e4f3b14d2e41c48ec2c10296ad2d506d13633377e2a03bb2717de9b2", func := "loop.example/g00190/laws.FnPlaces", spec := "fnPlaces", inPlace := ["slices.overlaps[loop.example/g00190/impl.Node]"], unfollowed := true, recurses := true, apart := false, narrowed := true }
def FnPlacesUptoSaid : Prop := fnPlacesUptoRow.holds Try.pinned (OpenSpec.upto fnPlacesSpec)

/-- 'laws.FnExactCreateNode', WHERE WHAT IT READS IS OF BULK AT MOST 1048576: true; the input reads as it did. -/
def fnExactCreateNodeUptoRow : OpenClaim := { program := "ytapchldnmkfkoab", sum := "f6e70722e4f3b14d2e41c48ec2c10296ad2d506d13633377e2a03bb2717de9b2", func := "loop.example/g00190/laws.FnExactCreateNode", spec := "fnExactCreateNode", unfollowed := true, recurses := true, apart := false, narrowed := true }
def FnExactCreateNodeUptoSaid : Prop := fnExactCreateNodeUptoRow.holds Try.pinned (OpenSpec.upto fnExactCreateNodeSpec)

/-- 'laws.FnExactSetNode', WHERE WHAT IT READS IS OF BULK AT MOST 1048576: true; the input reads as it did. -/
def fnExactSetNodeUptoRow : OpenClaim := { program := "ytapchldnmkfkoab", sum := "f6e70722e4f3b14d2e41c48ec2c10296ad2d506d13633377e2a03bb2717de9b2", func := "loop.example/g00190/laws.FnExactSetNode", spec := "fnExactSetNode", unfollowed := true, recurses := true, apart := false, narrowed := true }
def FnExactSetNodeUptoSaid : Prop := fnExactSetNodeUptoRow.holds Try.pinned (OpenSpec.upto fnExactSetNodeSpec)

/-- 'laws.FnExactDropNode', WHERE WHAT IT READS IS OF BULK AT MOST 1048576: true; the input reads as it did. -/
def fnExactDropNodeUptoRow : OpenClaim := { program := "ytapchldnmkfkoab", sum := "f6e70722e4f3b14d2e41c48ec2c10296ad2d506d13633377e2a03bb2717de9b2", func := "loop.example/g00190/laws.FnExactDropNode", spec := "fnExactDropNode", unfollowed := true, recurses := true, apart := false, narrowed := true }
def FnExactDropNodeUptoSaid : Prop := fnExactDropNodeUptoRow.holds Try.pinned (OpenSpec.upto fnExactDropNodeSpec)

/-- 'laws.FnExactPlaceNode', WHERE WHAT IT READS IS OF BULK AT MOST 1048576: true; the input reads as it did. -/
def fnExactPlaceNodeUptoRow : OpenClaim := { program := "ytapchldnmkfkoab", sum := "f6e70722e4f3b14d2e41c48ec2c10296ad2d506d13633377e2a03bb2717de9b2", func := "loop.example/g00190/laws.FnExactPlaceNode", spec := "fnExactPlaceNode", inPlace := ["slices.overlaps[loop.example/g00190/impl.Node]"], unfollowed := true, recurses := true, apart := false, narrowed := true }
def FnExactPlaceNodeUptoSaid : Prop := fnExactPlaceNodeUptoRow.holds Try.pinned (OpenSpec.upto fnExactPlaceNodeSpec)

end Rows
end Go.Proofs.Ytapchldnmkfkoab
