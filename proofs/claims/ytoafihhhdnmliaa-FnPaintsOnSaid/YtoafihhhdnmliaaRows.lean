/-
  No cell of these rows narrows 'for every input' (looked for: loops, veiled, ifaces, maps, wideKeys, modest, calm, conditions, laid).
  DERIVED. THE GIVEN ROWS OF THIS SEAT. 9 by the template 'for every input the law returns true; each argument reads behind the call as it read before'; 0 by the template 'total and deterministic' (their statements: YtoafihhhdnmliaaTotals.lean).
  GIVEN WITH THE SEED: the statements are not yours to turn. If you find one false, say at which input.
  Laid BY PROGRAM, IN A SANDBOX (cutbox-rows.mjs): the forced cells as the released guide's own fill.sh prints them over the translation a7e293d019d3f9d2… (all of the seat's roots in one cut). By AI agents, Wed Nov 11 2026. No macro, syntax, notation, axiom, sorry.
-/
import Derived.Test.YtoafihhhdnmliaaChecked
import GoSem.Claim
import GoSem.ClaimJoined
import GoSem.ClaimMapViews
import Derived.JoinedTies
import Derived.KernelRfl
namespace Go.Proofs.Ytoafihhhdnmliaa
/- THE CELL 'sum', in the pinned program and in every row, IS THE sha256 OF THE DUMP (.gsa) THAT YtoafihhhdnmliaaProg.lean LOADS. Nothing in Lean hashes anything: it is a label: what it is worth is what the hold of that sum in a sandbox is worth. -/
noncomputable def Try.pinned : Pinned := { name := "ytoafihhhdnmliaa", sum := "a7e293d019d3f9d270d3d5cb3cd23aac92765da69e603bce152bbb3d68a55769", checked := Try.checked }
namespace Rows
def none {H : Type} : Left H := { results := [], args := [] }

/-- 'laws.FnExactCacheOk': WHATEVER THE INPUT: true; the input reads as it did. -/
def fnExactCacheOkSpec : ChangeSpec := { name := "fnExactCacheOk", fn := fun _ => fun
  | [d] => { results := [.lit (.bool true)], args := [d] }
  | _ => none }
def fnExactCacheOkRow : OpenClaim := { program := "ytoafihhhdnmliaa", sum := "a7e293d019d3f9d270d3d5cb3cd23aac92765da69e603bce152bbb3d68a55769", func := "loop.example/g00190/laws.FnExactCacheOk", spec := "fnExactCacheOk", unfollowed := true, recurses := true, apart := false }
def FnExactCacheOkSaid : Prop := fnExactCacheOkRow.holds Try.pinned (OpenSpec.ofChange fnExactCacheOkSpec)

/-- ITS FALSE NEIGHBOUR: 'it returns false'. Refute it at one input. -/
def fnExactCacheOkWrong : ChangeSpec := { name := "fnExactCacheOk", fn := fun _ => fun
  | [d] => { results := [.lit (.bool false)], args := [d] }
  | _ => none }
def FnExactCacheOkWrongFalsely : Prop := fnExactCacheOkRow.holds Try.pinned (OpenSpec.ofChange fnExactCacheOkWrong)

/-- 'laws.FnExactSparing': WHATEVER THE INPUT: true; the input reads as it did. -/
def fnExactSparingSpec : ChangeSpec := { name := "fnExactSparing", fn := fun _ => fun
  | [d1, d2] => { results := [.lit (.bool true)], args := [d1, d2] }
  | _ => none }
def fnExactSparingRow : OpenClaim := { program := "ytoafihhhdnmliaa", sum := "a7e293d019d3f9d270d3d5cb3cd23aac92765da69e603bce152bbb3d68a55769", func := "loop.example/g00190/laws.FnExactSparing", spec := "fnExactSparing", apart := false }
def FnExactSparingSaid : Prop := fnExactSparingRow.holds Try.pinned (OpenSpec.ofChange fnExactSparingSpec)

/-- ITS FALSE NEIGHBOUR: 'it returns false'. Refute it at one input. -/
def fnExactSparingWrong : ChangeSpec := { name := "fnExactSparing", fn := fun _ => fun
  | [d1, d2] => { results := [.lit (.bool false)], args := [d1, d2] }
  | _ => none }
def FnExactSparingWrongFalsely : Prop := fnExactSparingRow.holds Try.pinned (OpenSpec.ofChange fnExactSparingWrong)

/-- 'laws.FnExactMatOf': WHATEVER THE INPUT: true; the input reads as it did. -/
def fnExactMatOfSpec : ChangeSpec := { name := "fnExactMatOf", fn := fun _ => fun
  | [d1, d2] => { results := [.lit (.bool true)], args := [d1, d2] }
  | _ => none }
def fnExactMatOfRow : OpenClaim := { program := "ytoafihhhdnmliaa", sum := "a7e293d019d3f9d270d3d5cb3cd23aac92765da69e603bce152bbb3d68a55769", func := "loop.example/g00190/laws.FnExactMatOf", spec := "fnExactMatOf", unfollowed := true, recurses := true, apart := false }
def FnExactMatOfSaid : Prop := fnExactMatOfRow.holds Try.pinned (OpenSpec.ofChange fnExactMatOfSpec)

/-- ITS FALSE NEIGHBOUR: 'it returns false'. Refute it at one input. -/
def fnExactMatOfWrong : ChangeSpec := { name := "fnExactMatOf", fn := fun _ => fun
  | [d1, d2] => { results := [.lit (.bool false)], args := [d1, d2] }
  | _ => none }
def FnExactMatOfWrongFalsely : Prop := fnExactMatOfRow.holds Try.pinned (OpenSpec.ofChange fnExactMatOfWrong)

/-- 'laws.FnLayers': WHATEVER THE INPUT: true; the input reads as it did. -/
def fnLayersSpec : ChangeSpec := { name := "fnLayers", fn := fun _ => fun
  | [d] => { results := [.lit (.bool true)], args := [d] }
  | _ => none }
def fnLayersRow : OpenClaim := { program := "ytoafihhhdnmliaa", sum := "a7e293d019d3f9d270d3d5cb3cd23aac92765da69e603bce152bbb3d68a55769", func := "loop.example/g00190/laws.FnLayers", spec := "fnLayers", unfollowed := true, recurses := true, apart := false }
def FnLayersSaid : Prop := fnLayersRow.holds Try.pinned (OpenSpec.ofChange fnLayersSpec)

/-- ITS FALSE NEIGHBOUR: 'it returns false'. Refute it at one input. -/
def fnLayersWrong : ChangeSpec := { name := "fnLayers", fn := fun _ => fun
  | [d] => { results := [.lit (.bool false)], args := [d] }
  | _ => none }
def FnLayersWrongFalsely : Prop := fnLayersRow.holds Try.pinned (OpenSpec.ofChange fnLayersWrong)

/-- 'laws.FnPaintsOn': WHATEVER THE INPUT: true; the input reads as it did. -/
def fnPaintsOnSpec : ChangeSpec := { name := "fnPaintsOn", fn := fun _ => fun
  | [d] => { results := [.lit (.bool true)], args := [d] }
  | _ => none }
def fnPaintsOnRow : OpenClaim := { program := "ytoafihhhdnmliaa", sum := "a7e293d019d3f9d270d3d5cb3cd23aac92765da69e603bce152bbb3d68a55769", func := "loop.example/g00190/laws.FnPaintsOn", spec := "fnPaintsOn", unfollowed := true, recurses := true, apart := false }
def FnPaintsOnSaid : Prop := fnPaintsOnRow.holds Try.pinned (OpenSpec.ofChange fnPaintsOnSpec)

/-- ITS FALSE NEIGHBOUR: 'it returns false'. Refute it at one input. -/
def fnPaintsOnWrong : ChangeSpec := { name := "fnPaintsOn", fn := fun _ => fun
  | [d] => { results := [.lit (.bool false)], args := [d] }
  | _ => none }
def FnPaintsOnWrongFalsely : Prop := fnPaintsOnRow.holds Try.pinned (OpenSpec.ofChange fnPaintsOnWrong)

/-- 'laws.FnCaches': WHATEVER THE INPUT: true; the input reads as it did. -/
def fnCachesSpec : ChangeSpec := { name := "fnCaches", fn := fun _ => fun
  | [d] => { results := [.lit (.bool true)], args := [d] }
  | _ => none }
def fnCachesRow : OpenClaim := { program := "ytoafihhhdnmliaa", sum := "a7e293d019d3f9d270d3d5cb3cd23aac92765da69e603bce152bbb3d68a55769", func := "loop.example/g00190/laws.FnCaches", spec := "fnCaches", inPlace := ["slices.overlaps[loop.example/g00190/impl.Kept]"], unfollowed := true, recurses := true, apart := false }
def FnCachesSaid : Prop := fnCachesRow.holds Try.pinned (OpenSpec.ofChange fnCachesSpec)

/-- ITS FALSE NEIGHBOUR: 'it returns false'. Refute it at one input. -/
def fnCachesWrong : ChangeSpec := { name := "fnCaches", fn := fun _ => fun
  | [d] => { results := [.lit (.bool false)], args := [d] }
  | _ => none }
def FnCachesWrongFalsely : Prop := fnCachesRow.holds Try.pinned (OpenSpec.ofChange fnCachesWrong)

/-- 'laws.FnExactTilesOf': WHATEVER THE INPUT: true; the input reads as it did. -/
def fnExactTilesOfSpec : ChangeSpec := { name := "fnExactTilesOf", fn := fun _ => fun
  | [d1, d2, d3] => { results := [.lit (.bool true)], args := [d1, d2, d3] }
  | _ => none }
def fnExactTilesOfRow : OpenClaim := { program := "ytoafihhhdnmliaa", sum := "a7e293d019d3f9d270d3d5cb3cd23aac92765da69e603bce152bbb3d68a55769", func := "loop.example/g00190/laws.FnExactTilesOf", spec := "fnExactTilesOf", apart := false }
def FnExactTilesOfSaid : Prop := fnExactTilesOfRow.holds Try.pinned (OpenSpec.ofChange fnExactTilesOfSpec)

/-- ITS FALSE NEIGHBOUR: 'it returns false'. Refute it at one input. -/
def fnExactTilesOfWrong : ChangeSpec := { name := "fnExactTilesOf", fn := fun _ => fun
  | [d1, d2, d3] => { results := [.lit (.bool false)], args := [d1, d2, d3] }
  | _ => none }
def FnExactTilesOfWrongFalsely : Prop := fnExactTilesOfRow.holds Try.pinned (OpenSpec.ofChange fnExactTilesOfWrong)

/-- 'laws.FnExactLayOver': WHATEVER THE INPUT: true; the input reads as it did. -/
def fnExactLayOverSpec : ChangeSpec := { name := "fnExactLayOver", fn := fun _ => fun
  | [d1, d2, d3, d4] => { results := [.lit (.bool true)], args := [d1, d2, d3, d4] }
  | _ => none }
def fnExactLayOverRow : OpenClaim := { program := "ytoafihhhdnmliaa", sum := "a7e293d019d3f9d270d3d5cb3cd23aac92765da69e603bce152bbb3d68a55769", func := "loop.example/g00190/laws.FnExactLayOver", spec := "fnExactLayOver", unfollowed := true, recurses := true, apart := false }
def FnExactLayOverSaid : Prop := fnExactLayOverRow.holds Try.pinned (OpenSpec.ofChange fnExactLayOverSpec)

/-- ITS FALSE NEIGHBOUR: 'it returns false'. Refute it at one input. -/
def fnExactLayOverWrong : ChangeSpec := { name := "fnExactLayOver", fn := fun _ => fun
  | [d1, d2, d3, d4] => { results := [.lit (.bool false)], args := [d1, d2, d3, d4] }
  | _ => none }
def FnExactLayOverWrongFalsely : Prop := fnExactLayOverRow.holds Try.pinned (OpenSpec.ofChange fnExactLayOverWrong)

/-- 'laws.FnExactPaintMask': WHATEVER THE INPUT: true; the input reads as it did. -/
def fnExactPaintMaskSpec : ChangeSpec := { name := "fnExactPaintMask", fn := fun _ => fun
  | [d1, d2, d3, d4, d5] => { results := [.lit (.bool true)], args := [d1, d2, d3, d4, d5] }
  | _ => none }
def fnExactPaintMaskRow : OpenClaim := { program := "ytoafihhhdnmliaa", sum := "a7e293d019d3f9d270d3d5cb3cd23aac92765da69e603bce152bbb3d68a55769", func := "loop.example/g00190/laws.FnExactPaintMask", spec := "fnExactPaintMask", unfollowed := true, recurses := true, apart := false }
def FnExactPaintMaskSaid : Prop := fnExactPaintMaskRow.holds Try.pinned (OpenSpec.ofChange fnExactPaintMaskSpec)

/-- ITS FALSE NEIGHBOUR: 'it returns false'. Refute it at one input. -/
def fnExactPaintMaskWrong : ChangeSpec := { name := "fnExactPaintMask", fn := fun _ => fun
  | [d1, d2, d3, d4, d5] => { results := [.lit (.bool false)], args := [d1, d2, d3, d4, d5] }
  | _ => none }
def FnExactPaintMaskWrongFalsely : Prop := fnExactPaintMaskRow.holds Try.pinned (OpenSpec.ofChange fnExactPaintMaskWrong)

/- THE SECOND FORM. 'bulk': how many values and letters a reading holds, each counted each time it is reached (what is shared counts as often as it is met; a slice's spare places count too). A statement '..UptoSaid' is the law's where the arguments, and the package variables that the reading takes, are together of bulk at most 1048576: NARROWER than '..Said'. Prove '..Said' where nothing that the law and all that it calls make is longer than what came in: it says more and counts as full. Else prove '..UptoSaid'. A law counts once. -/
mutual
def uptoBulk {H : Type} : DataW H → Nat
  | .lit (.string bytes) => bytes.length + 1
  | .lit _ => 1
  | .nil => 1
  | .ptr d => uptoBulk d + 1
  | .slice elems spare => uptoBulkAll elems + uptoBulkAll spare + 1
  | .agg parts => uptoBulkAll parts + 1
  | .iface _ d => uptoBulk d + 1
  | .map entries => uptoBulkEntries entries + 1
  | .held _ => 1
def uptoBulkAll {H : Type} : List (DataW H) → Nat
  | [] => 0
  | d :: r => uptoBulk d + uptoBulkAll r
def uptoBulkEntries {H : Type} : List (Lit × DataW H) → Nat
  | [] => 0
  | x :: r => uptoBulkEntry x + uptoBulkEntries r
def uptoBulkEntry {H : Type} : Lit × DataW H → Nat
  | (.string bytes, d) => bytes.length + uptoBulk d + 1
  | (_, d) => uptoBulk d + 1
 end
def uptoSmall : (H : Type) → List (DataW H) → Bool := fun _ ds => decide (uptoBulkAll ds ≤ 1048576)
def OpenSpec.upto (s : _root_.Go.ChangeSpec) : _root_.Go.OpenSpec := { _root_.Go.OpenSpec.ofChange s with cond := some uptoSmall }

/-- 'laws.FnExactCacheOk', WHERE WHAT IT READS IS OF BULK AT MOST 1048576: true; the input reads as it did. -/
def fnExactCacheOkUptoRow : OpenClaim := { program := "ytoafihhhdnmliaa", sum := "a7e293d019d3f9d270d3d5cb3cd23aac92765da69e603bce152bbb3d68a55769", func := "loop.example/g00190/laws.FnExactCacheOk", spec := "fnExactCacheOk", unfollowed := true, recurses := true, apart := false, narrowed := true }
def FnExactCacheOkUptoSaid : Prop := fnExactCacheOkUptoRow.holds Try.pinned (OpenSpec.upto fnExactCacheOkSpec)

/-- 'laws.FnExactSparing', WHERE WHAT IT READS IS OF BULK AT MOST 1048576: true; the input reads as it did. -/
def fnExactSparingUptoRow : OpenClaim := { program := "ytoafihhhdnmliaa", sum := "a7e293d019d3f9d270d3d5cb3cd23aac92765da69e603bce152bbb3d68a55769", func := "loop.example/g00190/laws.FnExactSparing", spec := "fnExactSparing", apart := false, narrowed := true }
def FnExactSparingUptoSaid : Prop := fnExactSparingUptoRow.holds Try.pinned (OpenSpec.upto fnExactSparingSpec)

/-- 'laws.FnExactMatOf', WHERE WHAT IT READS IS OF BULK AT MOST 1048576: true; the input reads as it did. -/
def fnExactMatOfUptoRow : OpenClaim := { program := "ytoafihhhdnmliaa", sum := "a7e293d019d3f9d270d3d5cb3cd23aac92765da69e603bce152bbb3d68a55769", func := "loop.example/g00190/laws.FnExactMatOf", spec := "fnExactMatOf", unfollowed := true, recurses := true, apart := false, narrowed := true }
def FnExactMatOfUptoSaid : Prop := fnExactMatOfUptoRow.holds Try.pinned (OpenSpec.upto fnExactMatOfSpec)

/-- 'laws.FnLayers', WHERE WHAT IT READS IS OF BULK AT MOST 1048576: true; the input reads as it did. -/
def fnLayersUptoRow : OpenClaim := { program := "ytoafihhhdnmliaa", sum := "a7e293d019d3f9d270d3d5cb3cd23aac92765da69e603bce152bbb3d68a55769", func := "loop.example/g00190/laws.FnLayers", spec := "fnLayers", unfollowed := true, recurses := true, apart := false, narrowed := true }
def FnLayersUptoSaid : Prop := fnLayersUptoRow.holds Try.pinned (OpenSpec.upto fnLayersSpec)

/-- 'laws.FnPaintsOn', WHERE WHAT IT READS IS OF BULK AT MOST 1048576: true; the input reads as it did. -/
def fnPaintsOnUptoRow : OpenClaim := { program := "ytoafihhhdnmliaa", sum := "a7e293d019d3f9d270d3d5cb3cd23aac92765da69e603bce152bbb3d68a55769", func := "loop.example/g00190/laws.FnPaintsOn", spec := "fnPaintsOn", unfollowed := true, recurses := true, apart := false, narrowed := true }
def FnPaintsOnUptoSaid : Prop := fnPaintsOnUptoRow.holds Try.pinned (OpenSpec.upto fnPaintsOnSpec)

/-- 'laws.FnCaches', WHERE WHAT IT READS IS OF BULK AT MOST 1048576: true; the input reads as it did. -/
def fnCachesUptoRow : OpenClaim := { program := "ytoafihhhdnmliaa", sum := "a7e293d019d3f9d270d3d5cb3cd23aac92765da69e603bce152bbb3d68a55769", func := "loop.example/g00190/laws.FnCaches", spec := "fnCaches", inPlace := ["slices.overlaps[loop.example/g00190/impl.Kept]"], unfollowed := true, recurses := true, apart := false, narrowed := true }
def FnCachesUptoSaid : Prop := fnCachesUptoRow.holds Try.pinned (OpenSpec.upto fnCachesSpec)

/-- 'laws.FnExactTilesOf', WHERE WHAT IT READS IS OF BULK AT MOST 1048576: true; the input reads as it did. -/
def fnExactTilesOfUptoRow : OpenClaim := { program := "ytoafihhhdnmliaa", sum := "a7e293d019d3f9d270d3d5cb3cd23aac92765da69e603bce152bbb3d68a55769", func := "loop.example/g00190/laws.FnExactTilesOf", spec := "fnExactTilesOf", apart := false, narrowed := true }
def FnExactTilesOfUptoSaid : Prop := fnExactTilesOfUptoRow.holds Try.pinned (OpenSpec.upto fnExactTilesOfSpec)

/-- 'laws.FnExactLayOver', WHERE WHAT IT READS IS OF BULK AT MOST 1048576: true; the input reads as it did. -/
def fnExactLayOverUptoRow : OpenClaim := { program := "ytoafihhhdnmliaa", sum := "a7e293d019d3f9d270d3d5cb3cd23aac92765da69e603bce152bbb3d68a55769", func := "loop.example/g00190/laws.FnExactLayOver", spec := "fnExactLayOver", unfollowed := true, recurses := true, apart := false, narrowed := true }
def FnExactLayOverUptoSaid : Prop := fnExactLayOverUptoRow.holds Try.pinned (OpenSpec.upto fnExactLayOverSpec)

/-- 'laws.FnExactPaintMask', WHERE WHAT IT READS IS OF BULK AT MOST 1048576: true; the input reads as it did. -/
def fnExactPaintMaskUptoRow : OpenClaim := { program := "ytoafihhhdnmliaa", sum := "a7e293d019d3f9d270d3d5cb3cd23aac92765da69e603bce152bbb3d68a55769", func := "loop.example/g00190/laws.FnExactPaintMask", spec := "fnExactPaintMask", unfollowed := true, recurses := true, apart := false, narrowed := true }
def FnExactPaintMaskUptoSaid : Prop := fnExactPaintMaskUptoRow.holds Try.pinned (OpenSpec.upto fnExactPaintMaskSpec)

end Rows
end Go.Proofs.Ytoafihhhdnmliaa
