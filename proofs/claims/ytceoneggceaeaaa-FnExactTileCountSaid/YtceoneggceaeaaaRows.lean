/-
  No cell of these rows narrows 'for every input' (looked for: loops, veiled, ifaces, maps, wideKeys, modest, calm, conditions, laid).
  DERIVED. THE GIVEN ROWS OF THIS SEAT. 6 by the template 'for every input the law returns true; each argument reads behind the call as it read before'; 0 by the template 'total and deterministic' (their statements: YtceoneggceaeaaaTotals.lean).
  GIVEN WITH THE SEED: the statements are not yours to turn. If you find one false, say at which input.
  Laid BY PROGRAM, IN A SANDBOX (cutbox-rows.mjs): the forced cells as the released guide's own fill.sh prints them over the translation 333205e72749c24c… (all of the seat's roots in one cut). By AI agents, Wed Nov 11 2026. No macro, syntax, notation, axiom, sorry.
-/
import Derived.Test.YtceoneggceaeaaaChecked
import GoSem.Claim
import GoSem.ClaimJoined
import GoSem.ClaimMapViews
import Derived.JoinedTies
import Derived.KernelRfl
namespace Go.Proofs.Ytceoneggceaeaaa
/- THE CELL 'sum', in the pinned program and in every row, IS THE sha256 OF THE DUMP (.gsa) THAT YtceoneggceaeaaaProg.lean LOADS. Nothing in Lean hashes anything: it is a label: what it is worth is what the hold of that sum in a sandbox is worth. -/
noncomputable def Try.pinned : Pinned := { name := "ytceoneggceaeaaa", sum := "333205e72749c24ca68671e6008516d5d237057796e16a78edbc2a84c1494f61", checked := Try.checked }
namespace Rows
def none {H : Type} : Left H := { results := [], args := [] }

/-- 'laws.FnExactTileCount': WHATEVER THE INPUT: true; the input reads as it did. -/
def fnExactTileCountSpec : ChangeSpec := { name := "fnExactTileCount", fn := fun _ => fun
  | [d1, d2] => { results := [.lit (.bool true)], args := [d1, d2] }
  | _ => none }
def fnExactTileCountRow : OpenClaim := { program := "ytceoneggceaeaaa", sum := "333205e72749c24ca68671e6008516d5d237057796e16a78edbc2a84c1494f61", func := "loop.example/g00190/laws.FnExactTileCount", spec := "fnExactTileCount", apart := false }
def FnExactTileCountSaid : Prop := fnExactTileCountRow.holds Try.pinned (OpenSpec.ofChange fnExactTileCountSpec)

/-- ITS FALSE NEIGHBOUR: 'it returns false'. Refute it at one input. -/
def fnExactTileCountWrong : ChangeSpec := { name := "fnExactTileCount", fn := fun _ => fun
  | [d1, d2] => { results := [.lit (.bool false)], args := [d1, d2] }
  | _ => none }
def FnExactTileCountWrongFalsely : Prop := fnExactTileCountRow.holds Try.pinned (OpenSpec.ofChange fnExactTileCountWrong)

/-- 'laws.FnExactTileBox': WHATEVER THE INPUT: true; the input reads as it did. -/
def fnExactTileBoxSpec : ChangeSpec := { name := "fnExactTileBox", fn := fun _ => fun
  | [d1, d2, d3] => { results := [.lit (.bool true)], args := [d1, d2, d3] }
  | _ => none }
def fnExactTileBoxRow : OpenClaim := { program := "ytceoneggceaeaaa", sum := "333205e72749c24ca68671e6008516d5d237057796e16a78edbc2a84c1494f61", func := "loop.example/g00190/laws.FnExactTileBox", spec := "fnExactTileBox", apart := false }
def FnExactTileBoxSaid : Prop := fnExactTileBoxRow.holds Try.pinned (OpenSpec.ofChange fnExactTileBoxSpec)

/-- ITS FALSE NEIGHBOUR: 'it returns false'. Refute it at one input. -/
def fnExactTileBoxWrong : ChangeSpec := { name := "fnExactTileBox", fn := fun _ => fun
  | [d1, d2, d3] => { results := [.lit (.bool false)], args := [d1, d2, d3] }
  | _ => none }
def FnExactTileBoxWrongFalsely : Prop := fnExactTileBoxRow.holds Try.pinned (OpenSpec.ofChange fnExactTileBoxWrong)

/-- 'laws.FnTiles': WHATEVER THE INPUT: true; the input reads as it did. -/
def fnTilesSpec : ChangeSpec := { name := "fnTiles", fn := fun _ => fun
  | [d] => { results := [.lit (.bool true)], args := [d] }
  | _ => none }
def fnTilesRow : OpenClaim := { program := "ytceoneggceaeaaa", sum := "333205e72749c24ca68671e6008516d5d237057796e16a78edbc2a84c1494f61", func := "loop.example/g00190/laws.FnTiles", spec := "fnTiles", apart := false }
def FnTilesSaid : Prop := fnTilesRow.holds Try.pinned (OpenSpec.ofChange fnTilesSpec)

/-- ITS FALSE NEIGHBOUR: 'it returns false'. Refute it at one input. -/
def fnTilesWrong : ChangeSpec := { name := "fnTiles", fn := fun _ => fun
  | [d] => { results := [.lit (.bool false)], args := [d] }
  | _ => none }
def FnTilesWrongFalsely : Prop := fnTilesRow.holds Try.pinned (OpenSpec.ofChange fnTilesWrong)

/-- 'laws.FnExactTilesOf': WHATEVER THE INPUT: true; the input reads as it did. -/
def fnExactTilesOfSpec : ChangeSpec := { name := "fnExactTilesOf", fn := fun _ => fun
  | [d1, d2, d3] => { results := [.lit (.bool true)], args := [d1, d2, d3] }
  | _ => none }
def fnExactTilesOfRow : OpenClaim := { program := "ytceoneggceaeaaa", sum := "333205e72749c24ca68671e6008516d5d237057796e16a78edbc2a84c1494f61", func := "loop.example/g00190/laws.FnExactTilesOf", spec := "fnExactTilesOf", apart := false }
def FnExactTilesOfSaid : Prop := fnExactTilesOfRow.holds Try.pinned (OpenSpec.ofChange fnExactTilesOfSpec)

/-- ITS FALSE NEIGHBOUR: 'it returns false'. Refute it at one input. -/
def fnExactTilesOfWrong : ChangeSpec := { name := "fnExactTilesOf", fn := fun _ => fun
  | [d1, d2, d3] => { results := [.lit (.bool false)], args := [d1, d2, d3] }
  | _ => none }
def FnExactTilesOfWrongFalsely : Prop := fnExactTilesOfRow.holds Try.pinned (OpenSpec.ofChange fnExactTilesOfWrong)

/-- 'laws.FnExactShowFrame': WHATEVER THE INPUT: true; the input reads as it did. -/
def fnExactShowFrameSpec : ChangeSpec := { name := "fnExactShowFrame", fn := fun _ => fun
  | [d] => { results := [.lit (.bool true)], args := [d] }
  | _ => none }
def fnExactShowFrameRow : OpenClaim := { program := "ytceoneggceaeaaa", sum := "333205e72749c24ca68671e6008516d5d237057796e16a78edbc2a84c1494f61", func := "loop.example/g00190/laws.FnExactShowFrame", spec := "fnExactShowFrame", inPlace := ["internal/abi.NoEscape"], apart := false }
def FnExactShowFrameSaid : Prop := fnExactShowFrameRow.holds Try.pinned (OpenSpec.ofChange fnExactShowFrameSpec)

/-- ITS FALSE NEIGHBOUR: 'it returns false'. Refute it at one input. -/
def fnExactShowFrameWrong : ChangeSpec := { name := "fnExactShowFrame", fn := fun _ => fun
  | [d] => { results := [.lit (.bool false)], args := [d] }
  | _ => none }
def FnExactShowFrameWrongFalsely : Prop := fnExactShowFrameRow.holds Try.pinned (OpenSpec.ofChange fnExactShowFrameWrong)

/-- 'laws.FnExactCacheOk': WHATEVER THE INPUT: true; the input reads as it did. -/
def fnExactCacheOkSpec : ChangeSpec := { name := "fnExactCacheOk", fn := fun _ => fun
  | [d] => { results := [.lit (.bool true)], args := [d] }
  | _ => none }
def fnExactCacheOkRow : OpenClaim := { program := "ytceoneggceaeaaa", sum := "333205e72749c24ca68671e6008516d5d237057796e16a78edbc2a84c1494f61", func := "loop.example/g00190/laws.FnExactCacheOk", spec := "fnExactCacheOk", unfollowed := true, recurses := true, apart := false }
def FnExactCacheOkSaid : Prop := fnExactCacheOkRow.holds Try.pinned (OpenSpec.ofChange fnExactCacheOkSpec)

/-- ITS FALSE NEIGHBOUR: 'it returns false'. Refute it at one input. -/
def fnExactCacheOkWrong : ChangeSpec := { name := "fnExactCacheOk", fn := fun _ => fun
  | [d] => { results := [.lit (.bool false)], args := [d] }
  | _ => none }
def FnExactCacheOkWrongFalsely : Prop := fnExactCacheOkRow.holds Try.pinned (OpenSpec.ofChange fnExactCacheOkWrong)

/- THE SECOND FORM. 'bulk': how many values and letters a reading holds, each counted each time it is reached (what is shared counts as often as it is met; a slice's spare places count too). A statement '..UptoSaid' is the law's where the arguments, and the package variables that the reading takes, are together of bulk at most 1048576: NARROWER than '..Said'. Prove '..Said' where nothing that the law and all that it calls make is longer than what came in: it says more and counts as full. Else prove '..UptoSaid'. A law counts once. -/
mutual
def uptoBulk {H : Type} : DataW H → Nat
  | .lit (.string bytes) => bytes.length + 1
  | .lit _ => 1
  | .nil => 1
  | .ptr d => uptoBulk d + 1
  | .slice elems spare => uptoBulkAll elems + uptoBulkAll spare + 1
  | .agg parts => uptoBulkAll parts + 1
  | .iface _ d => uptoBulk d + 1
  | .map entries => uptoBulkEntries entries + 1
  | .held _ => 1
def uptoBulkAll {H : Type} : List (DataW H) → Nat
  | [] => 0
  | d :: r => uptoBulk d + uptoBulkAll r
def uptoBulkEntries {H : Type} : List (Lit × DataW H) → Nat
  | [] => 0
  | x :: r => uptoBulkEntry x + uptoBulkEntries r
def uptoBulkEntry {H : Type} : Lit × DataW H → Nat
  | (.string bytes, d) => bytes.length + uptoBulk d + 1
  | (_, d) => uptoBulk d + 1
 end
def uptoSmall : (H : Type) → List (DataW H) → Bool := fun _ ds => decide (uptoBulkAll ds ≤ 1048576)
def OpenSpec.upto (s : _root_.Go.ChangeSpec) : _root_.Go.OpenSpec := { _root_.Go.OpenSpec.ofChange s with cond := some uptoSmall }

/-- 'laws.FnExactTileCount', WHERE WHAT IT READS IS OF BULK AT MOST 1048576: true; the input reads as it did. -/
def fnExactTileCountUptoRow : OpenClaim := { program := "ytceoneggceaeaaa", sum := "333205e72749c24ca68671e6008516d5d237057796e16a78edbc2a84c1494f61", func := "loop.example/g00190/laws.FnExactTileCount", spec := "fnExactTileCount", apart := false, narrowed := true }
def FnExactTileCountUptoSaid : Prop := fnExactTileCountUptoRow.holds Try.pinned (OpenSpec.upto fnExactTileCountSpec)

/-- 'laws.FnExactTileBox', WHERE WHAT IT READS IS OF BULK AT MOST 1048576: true; the input reads as it did. -/
def fnExactTileBoxUptoRow : OpenClaim := { program := "ytceoneggceaeaaa", sum := "333205e72749c24ca68671e6008516d5d237057796e16a78edbc2a84c1494f61", func := "loop.example/g00190/laws.FnExactTileBox", spec := "fnExactTileBox", apart := false, narrowed := true }
def FnExactTileBoxUptoSaid : Prop := fnExactTileBoxUptoRow.holds Try.pinned (OpenSpec.upto fnExactTileBoxSpec)

/-- 'laws.FnTiles', WHERE WHAT IT READS IS OF BULK AT MOST 1048576: true; the input reads as it did. -/
def fnTilesUptoRow : OpenClaim := { program := "ytceoneggceaeaaa", sum := "333205e72749c24ca68671e6008516d5d237057796e16a78edbc2a84c1494f61", func := "loop.example/g00190/laws.FnTiles", spec := "fnTiles", apart := false, narrowed := true }
def FnTilesUptoSaid : Prop := fnTilesUptoRow.holds Try.pinned (OpenSpec.upto fnTilesSpec)

/-- 'laws.FnExactTilesOf', WHERE WHAT IT READS IS OF BULK AT MOST 1048576: true; the input reads as it did. -/
def fnExactTilesOfUptoRow : OpenClaim := { program := "ytceoneggceaeaaa", sum := "333205e72749c24ca68671e6008516d5d237057796e16a78edbc2a84c1494f61", func := "loop.example/g00190/laws.FnExactTilesOf", spec := "fnExactTilesOf", apart := false, narrowed := true }
def FnExactTilesOfUptoSaid : Prop := fnExactTilesOfUptoRow.holds Try.pinned (OpenSpec.upto fnExactTilesOfSpec)

/-- 'laws.FnExactShowFrame', WHERE WHAT IT READS IS OF BULK AT MOST 1048576: true; the input reads as it did. -/
def fnExactShowFrameUptoRow : OpenClaim := { program := "ytceoneggceaeaaa", sum := "333205e72749c24ca68671e6008516d5d237057796e16a78edbc2a84c1494f61", func := "loop.example/g00190/laws.FnExactShowFrame", spec := "fnExactShowFrame", inPlace := ["internal/abi.NoEscape"], apart := false, narrowed := true }
def FnExactShowFrameUptoSaid : Prop := fnExactShowFrameUptoRow.holds Try.pinned (OpenSpec.upto fnExactShowFrameSpec)

/-- 'laws.FnExactCacheOk', WHERE WHAT IT READS IS OF BULK AT MOST 1048576: true; the input reads as it did. -/
def fnExactCacheOkUptoRow : OpenClaim := { program := "ytceoneggceaeaaa", sum := "333205e72749c24ca68671e6008516d5d237057796e16a78edbc2a84c1494f61", func := "loop.example/g00190/laws.FnExactCacheOk", spec := "fnExactCacheOk", unfollowed := true, recurses := true, apart := false, narrowed := true }
def FnExactCacheOkUptoSaid : Prop := fnExactCacheOkUptoRow.holds Try.pinned (OpenSpec.upto fnExactCacheOkSpec)

end Rows
end Go.Proofs.Ytceoneggceaeaaa
