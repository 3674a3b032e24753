/-
  No cell of these rows narrows 'for every input' (looked for: loops, veiled, ifaces, maps, wideKeys, modest, calm, conditions, laid).
  DERIVED. THE GIVEN ROWS OF THIS SEAT. 13 by the template 'for every input the law returns true; each argument reads behind the call as it read before'; 0 by the template 'total and deterministic' (their statements: YtfhglldoejeedaaTotals.lean).
  GIVEN WITH THE SEED: the statements are not yours to turn. If you find one false, say at which input.
  Laid BY PROGRAM, IN A SANDBOX (cutbox-rows.mjs): the forced cells as the released guide's own fill.sh prints them over the translation 766697f282a40dba… (all of the seat's roots in one cut). By AI agents, Wed Nov 11 2026. No macro, syntax, notation, axiom, sorry.
-/
import Derived.Test.YtfhglldoejeedaaChecked
import GoSem.Claim
import GoSem.ClaimJoined
import GoSem.ClaimMapViews
import Derived.JoinedTies
import Derived.KernelRfl
namespace Go.Proofs.Ytfhglldoejeedaa
/- THE CELL 'sum', in the pinned program and in every row, IS THE sha256 OF THE DUMP (.gsa) THAT YtfhglldoejeedaaProg.lean LOADS. Nothing in Lean hashes anything: it is a label: what it is worth is what the hold of that sum in a sandbox is worth. -/
noncomputable def Try.pinned : Pinned := { name := "ytfhglldoejeedaa", sum := "766697f282a40dbadec0debcd8631ae8f966bd67a0c6274f9c26722a68b3544e", checked := Try.checked }
namespace Rows
def none {H : Type} : Left H := { results := [], args := [] }

/-- 'laws.FnExactTileCount': WHATEVER THE INPUT: true; the input reads as it did. -/
def fnExactTileCountSpec : ChangeSpec := { name := "fnExactTileCount", fn := fun _ => fun
  | [d1, d2] => { results := [.lit (.bool true)], args := [d1, d2] }
  | _ => none }
def fnExactTileCountRow : OpenClaim := { program := "ytfhglldoejeedaa", sum := "766697f282a40dbadec0debcd8631ae8f966bd67a0c6274f9c26722a68b3544e", func := "loop.example/g00190/laws.FnExactTileCount", spec := "fnExactTileCount", apart := false }
def FnExactTileCountSaid : Prop := fnExactTileCountRow.holds Try.pinned (OpenSpec.ofChange fnExactTileCountSpec)

/-- ITS FALSE NEIGHBOUR: 'it returns false'. Refute it at one input. -/
def fnExactTileCountWrong : ChangeSpec := { name := "fnExactTileCount", fn := fun _ => fun
  | [d1, d2] => { results := [.lit (.bool false)], args := [d1, d2] }
  | _ => none }
def FnExactTileCountWrongFalsely : Prop := fnExactTileCountRow.holds Try.pinned (OpenSpec.ofChange fnExactTileCountWrong)

/-- 'laws.FnExactTileBox': WHATEVER THE INPUT: true; the input reads as it did. -/
def fnExactTileBoxSpec : ChangeSpec := { name := "fnExactTileBox", fn := fun _ => fun
  | [d1, d2, d3] => { results := [.lit (.bool true)], args := [d1, d2, d3] }
  | _ => none }
def fnExactTileBoxRow : OpenClaim := { program := "ytfhglldoejeedaa", sum := "766697f282a40dbadec0debcd8631ae8f966bd67a0c6274f9c26722a68b3544e", func := "loop.example/g00190/laws.FnExactTileBox", spec := "fnExactTileBox", apart := false }
def FnExactTileBoxSaid : Prop := fnExactTileBoxRow.holds Try.pinned (OpenSpec.ofChange fnExactTileBoxSpec)

/-- ITS FALSE NEIGHBOUR: 'it returns false'. Refute it at one input. -/
def fnExactTileBoxWrong : ChangeSpec := { name := "fnExactTileBox", fn := fun _ => fun
  | [d1, d2, d3] => { results := [.lit (.bool false)], args := [d1, d2, d3] }
  | _ => none }
def FnExactTileBoxWrongFalsely : Prop := fnExactTileBoxRow.holds Try.pinned (OpenSpec.ofChange fnExactTileBoxWrong)

/-- 'laws.FnTiles': WHATEVER THE INPUT: true; the input reads as it did. -/
def fnTilesSpec : ChangeSpec := { name := "fnTiles", fn := fun _ => fun
  | [d] => { results := [.lit (.bool true)], args := [d] }
  | _ => none }
def fnTilesRow : OpenClaim := { program := "ytfhglldoejeedaa", sum := "766697f282a40dbadec0debcd8631ae8f966bd67a0c6274f9c26722a68b3544e", func := "loop.example/g00190/laws.FnTiles", spec := "fnTiles", apart := false }
def FnTilesSaid : Prop := fnTilesRow.holds Try.pinned (OpenSpec.ofChange fnTilesSpec)

/-- ITS FALSE NEIGHBOUR: 'it returns false'. Refute it at one input. -/
def fnTilesWrong : ChangeSpec := { name := "fnTiles", fn := fun _ => fun
  | [d] => { results := [.lit (.bool false)], args := [d] }
  | _ => none }
def FnTilesWrongFalsely : Prop := fnTilesRow.holds Try.pinned (OpenSpec.ofChange fnTilesWrong)

/-- 'laws.FnExactShowFrame': WHATEVER THE INPUT: true; the input reads as it did. -/
def fnExactShowFrameSpec : ChangeSpec := { name := "fnExactShowFrame", fn := fun _ => fun
  | [d] => { results := [.lit (.bool true)], args := [d] }
  | _ => none }
def fnExactShowFrameRow : OpenClaim := { program := "ytfhglldoejeedaa", sum := "766697f282a40dbadec0debcd8631ae8f966bd67a0c6274f9c26722a68b3544e", func := "loop.example/g00190/laws.FnExactShowFrame", spec := "fnExactShowFrame", inPlace := ["internal/abi.NoEscape"], apart := false }
def FnExactShowFrameSaid : Prop := fnExactShowFrameRow.holds Try.pinned (OpenSpec.ofChange fnExactShowFrameSpec)

/-- ITS FALSE NEIGHBOUR: 'it returns false'. Refute it at one input. -/
def fnExactShowFrameWrong : ChangeSpec := { name := "fnExactShowFrame", fn := fun _ => fun
  | [d] => { results := [.lit (.bool false)], args := [d] }
  | _ => none }
def FnExactShowFrameWrongFalsely : Prop := fnExactShowFrameRow.holds Try.pinned (OpenSpec.ofChange fnExactShowFrameWrong)

/-- 'laws.FnExactCacheOk': WHATEVER THE INPUT: true; the input reads as it did. -/
def fnExactCacheOkSpec : ChangeSpec := { name := "fnExactCacheOk", fn := fun _ => fun
  | [d] => { results := [.lit (.bool true)], args := [d] }
  | _ => none }
def fnExactCacheOkRow : OpenClaim := { program := "ytfhglldoejeedaa", sum := "766697f282a40dbadec0debcd8631ae8f966bd67a0c6274f9c26722a68b3544e", func := "loop.example/g00190/laws.FnExactCacheOk", spec := "fnExactCacheOk", unfollowed := true, recurses := true, apart := false }
def FnExactCacheOkSaid : Prop := fnExactCacheOkRow.holds Try.pinned (OpenSpec.ofChange fnExactCacheOkSpec)

/-- ITS FALSE NEIGHBOUR: 'it returns false'. Refute it at one input. -/
def fnExactCacheOkWrong : ChangeSpec := { name := "fnExactCacheOk", fn := fun _ => fun
  | [d] => { results := [.lit (.bool false)], args := [d] }
  | _ => none }
def FnExactCacheOkWrongFalsely : Prop := fnExactCacheOkRow.holds Try.pinned (OpenSpec.ofChange fnExactCacheOkWrong)

/-- 'laws.FnCaches': WHATEVER THE INPUT: true; the input reads as it did. -/
def fnCachesSpec : ChangeSpec := { name := "fnCaches", fn := fun _ => fun
  | [d] => { results := [.lit (.bool true)], args := [d] }
  | _ => none }
def fnCachesRow : OpenClaim := { program := "ytfhglldoejeedaa", sum := "766697f282a40dbadec0debcd8631ae8f966bd67a0c6274f9c26722a68b3544e", func := "loop.example/g00190/laws.FnCaches", spec := "fnCaches", inPlace := ["slices.overlaps[loop.example/g00190/impl.Kept]"], unfollowed := true, recurses := true, apart := false }
def FnCachesSaid : Prop := fnCachesRow.holds Try.pinned (OpenSpec.ofChange fnCachesSpec)

/-- ITS FALSE NEIGHBOUR: 'it returns false'. Refute it at one input. -/
def fnCachesWrong : ChangeSpec := { name := "fnCaches", fn := fun _ => fun
  | [d] => { results := [.lit (.bool false)], args := [d] }
  | _ => none }
def FnCachesWrongFalsely : Prop := fnCachesRow.holds Try.pinned (OpenSpec.ofChange fnCachesWrong)

/-- 'laws.FnCreates': WHATEVER THE INPUT: true; the input reads as it did. -/
def fnCreatesSpec : ChangeSpec := { name := "fnCreates", fn := fun _ => fun
  | [d] => { results := [.lit (.bool true)], args := [d] }
  | _ => none }
def fnCreatesRow : OpenClaim := { program := "ytfhglldoejeedaa", sum := "766697f282a40dbadec0debcd8631ae8f966bd67a0c6274f9c26722a68b3544e", func := "loop.example/g00190/laws.FnCreates", spec := "fnCreates", unfollowed := true, recurses := true, apart := false }
def FnCreatesSaid : Prop := fnCreatesRow.holds Try.pinned (OpenSpec.ofChange fnCreatesSpec)

/-- ITS FALSE NEIGHBOUR: 'it returns false'. Refute it at one input. -/
def fnCreatesWrong : ChangeSpec := { name := "fnCreates", fn := fun _ => fun
  | [d] => { results := [.lit (.bool false)], args := [d] }
  | _ => none }
def FnCreatesWrongFalsely : Prop := fnCreatesRow.holds Try.pinned (OpenSpec.ofChange fnCreatesWrong)

/-- 'laws.FnSets': WHATEVER THE INPUT: true; the input reads as it did. -/
def fnSetsSpec : ChangeSpec := { name := "fnSets", fn := fun _ => fun
  | [d] => { results := [.lit (.bool true)], args := [d] }
  | _ => none }
def fnSetsRow : OpenClaim := { program := "ytfhglldoejeedaa", sum := "766697f282a40dbadec0debcd8631ae8f966bd67a0c6274f9c26722a68b3544e", func := "loop.example/g00190/laws.FnSets", spec := "fnSets", unfollowed := true, recurses := true, apart := false }
def FnSetsSaid : Prop := fnSetsRow.holds Try.pinned (OpenSpec.ofChange fnSetsSpec)

/-- ITS FALSE NEIGHBOUR: 'it returns false'. Refute it at one input. -/
def fnSetsWrong : ChangeSpec := { name := "fnSets", fn := fun _ => fun
  | [d] => { results := [.lit (.bool false)], args := [d] }
  | _ => none }
def FnSetsWrongFalsely : Prop := fnSetsRow.holds Try.pinned (OpenSpec.ofChange fnSetsWrong)

/-- 'laws.FnLayers': WHATEVER THE INPUT: true; the input reads as it did. -/
def fnLayersSpec : ChangeSpec := { name := "fnLayers", fn := fun _ => fun
  | [d] => { results := [.lit (.bool true)], args := [d] }
  | _ => none }
def fnLayersRow : OpenClaim := { program := "ytfhglldoejeedaa", sum := "766697f282a40dbadec0debcd8631ae8f966bd67a0c6274f9c26722a68b3544e", func := "loop.example/g00190/laws.FnLayers", spec := "fnLayers", unfollowed := true, recurses := true, apart := false }
def FnLayersSaid : Prop := fnLayersRow.holds Try.pinned (OpenSpec.ofChange fnLayersSpec)

/-- ITS FALSE NEIGHBOUR: 'it returns false'. Refute it at one input. -/
def fnLayersWrong : ChangeSpec := { name := "fnLayers", fn := fun _ => fun
  | [d] => { results := [.lit (.bool false)], args := [d] }
  | _ => none }
def FnLayersWrongFalsely : Prop := fnLayersRow.holds Try.pinned (OpenSpec.ofChange fnLayersWrong)

/-- 'laws.FnExactMatOf': WHATEVER THE INPUT: true; the input reads as it did. -/
def fnExactMatOfSpec : ChangeSpec := { name := "fnExactMatOf", fn := fun _ => fun
  | [d1, d2] => { results := [.lit (.bool true)], args := [d1, d2] }
  | _ => none }
def fnExactMatOfRow : OpenClaim := { program := "ytfhglldoejeedaa", sum := "766697f282a40dbadec0debcd8631ae8f966bd67a0c6274f9c26722a68b3544e", func := "loop.example/g00190/laws.FnExactMatOf", spec := "fnExactMatOf", unfollowed := true, recurses := true, apart := false }
def FnExactMatOfSaid : Prop := fnExactMatOfRow.holds Try.pinned (OpenSpec.ofChange fnExactMatOfSpec)

/-- ITS FALSE NEIGHBOUR: 'it returns false'. Refute it at one input. -/
def fnExactMatOfWrong : ChangeSpec := { name := "fnExactMatOf", fn := fun _ => fun
  | [d1, d2] => { results := [.lit (.bool false)], args := [d1, d2] }
  | _ => none }
def FnExactMatOfWrongFalsely : Prop := fnExactMatOfRow.holds Try.pinned (OpenSpec.ofChange fnExactMatOfWrong)

/-- 'laws.FnPaintsOn': WHATEVER THE INPUT: true; the input reads as it did. -/
def fnPaintsOnSpec : ChangeSpec := { name := "fnPaintsOn", fn := fun _ => fun
  | [d] => { results := [.lit (.bool true)], args := [d] }
  | _ => none }
def fnPaintsOnRow : OpenClaim := { program := "ytfhglldoejeedaa", sum := "766697f282a40dbadec0debcd8631ae8f966bd67a0c6274f9c26722a68b3544e", func := "loop.example/g00190/laws.FnPaintsOn", spec := "fnPaintsOn", unfollowed := true, recurses := true, apart := false }
def FnPaintsOnSaid : Prop := fnPaintsOnRow.holds Try.pinned (OpenSpec.ofChange fnPaintsOnSpec)

/-- ITS FALSE NEIGHBOUR: 'it returns false'. Refute it at one input. -/
def fnPaintsOnWrong : ChangeSpec := { name := "fnPaintsOn", fn := fun _ => fun
  | [d] => { results := [.lit (.bool false)], args := [d] }
  | _ => none }
def FnPaintsOnWrongFalsely : Prop := fnPaintsOnRow.holds Try.pinned (OpenSpec.ofChange fnPaintsOnWrong)

/-- 'laws.FnExactSparing': WHATEVER THE INPUT: true; the input reads as it did. -/
def fnExactSparingSpec : ChangeSpec := { name := "fnExactSparing", fn := fun _ => fun
  | [d1, d2] => { results := [.lit (.bool true)], args := [d1, d2] }
  | _ => none }
def fnExactSparingRow : OpenClaim := { program := "ytfhglldoejeedaa", sum := "766697f282a40dbadec0debcd8631ae8f966bd67a0c6274f9c26722a68b3544e", func := "loop.example/g00190/laws.FnExactSparing", spec := "fnExactSparing", apart := false }
def FnExactSparingSaid : Prop := fnExactSparingRow.holds Try.pinned (OpenSpec.ofChange fnExactSparingSpec)

/-- ITS FALSE NEIGHBOUR: 'it returns false'. Refute it at one input. -/
def fnExactSparingWrong : ChangeSpec := { name := "fnExactSparing", fn := fun _ => fun
  | [d1, d2] => { results := [.lit (.bool false)], args := [d1, d2] }
  | _ => none }
def FnExactSparingWrongFalsely : Prop := fnExactSparingRow.holds Try.pinned (OpenSpec.ofChange fnExactSparingWrong)

/-- 'laws.FnPlaces': WHATEVER THE INPUT: true; the input reads as it did. -/
def fnPlacesSpec : ChangeSpec := { name := "fnPlaces", fn := fun _ => fun
  | [d] => { results := [.lit (.bool true)], args := [d] }
  | _ => none }
def fnPlacesRow : OpenClaim := { program := "ytfhglldoejeedaa", sum := "766697f282a40dbadec0debcd8631ae8f966bd67a0c6274f9c26722a68b3544e", func := "loop.example/g00190/laws.FnPlaces", spec := "fnPlaces", inPlace := ["slices.overlaps[loop.example/g00190/impl.Node]"], unfollowed := true, recurses := true, apart := false }
def FnPlacesSaid : Prop := fnPlacesRow.holds Try.pinned (OpenSpec.ofChange fnPlacesSpec)

/-- ITS FALSE NEIGHBOUR: 'it returns false'. Refute it at one input. -/
def fnPlacesWrong : ChangeSpec := { name := "fnPlaces", fn := fun _ => fun
  | [d] => { results := [.lit (.bool false)], args := [d] }
  | _ => none }
def FnPlacesWrongFalsely : Prop := fnPlacesRow.holds Try.pinned (OpenSpec.ofChange fnPlacesWrong)

/- THE SECOND FORM. 'bulk': how many values and letters a reading holds, each counted each time it is reached (what is shared counts as often as it is met; a slice's spare places count too). A statement '..UptoSaid' is the law's where the arguments, and the package variables that the reading takes, are together of bulk at most 1048576: NARROWER than '..Said'. Prove '..Said' where nothing that the law and all that it calls make is longer than what came in: it says more and counts as full. Else prove '..UptoSaid'. A law counts once. -/
mutual
def uptoBulk {H : Type} : DataW H → Nat
  | .lit (.string bytes) => bytes.length + 1
  | .lit _ => 1
  | .nil => 1
  | .ptr d => uptoBulk d + 1
  | .slice elems spare => uptoBulkAll elems + uptoBulkAll spare + 1
  | .agg parts => uptoBulkAll parts + 1
  | .iface _ d => uptoBulk d + 1
  | .map entries => uptoBulkEntries entries + 1
  | .held _ => 1
def uptoBulkAll {H : Type} : List (DataW H) → Nat
  | [] => 0
  | d :: r => uptoBulk d + uptoBulkAll r
def uptoBulkEntries {H : Type} : List (Lit × DataW H) → Nat
  | [] => 0
  | x :: r => uptoBulkEntry x + uptoBulkEntries r
def uptoBulkEntry {H : Type} : Lit × DataW H → Nat
  | (.string bytes, d) => bytes.length + uptoBulk d + 1
  | (_, d) => uptoBulk d + 1
 end
def uptoSmall : (H : Type) → List (DataW H) → Bool := fun _ ds => decide (uptoBulkAll ds ≤ 1048576)
def OpenSpec.upto (s : _root_.Go.ChangeSpec) : _root_.Go.OpenSpec := { _root_.Go.OpenSpec.ofChange s with cond := some uptoSmall }

/-- 'laws.FnExactTileCount', WHERE WHAT IT READS IS OF BULK AT MOST 1048576: true; the input reads as it did. -/
def fnExactTileCountUptoRow : OpenClaim := { program := "ytfhglldoejeedaa", sum := "766697f282a40dbadec0debcd8631ae8f966bd67a0c6274f9c26722a68b3544e", func := "loop.example/g00190/laws.FnExactTileCount", spec := "fnExactTileCount", apart := false, narrowed := true }
def FnExactTileCountUptoSaid : Prop := fnExactTileCountUptoRow.holds Try.pinned (OpenSpec.upto fnExactTileCountSpec)

/-- 'laws.FnExactTileBox', WHERE WHAT IT READS IS OF BULK AT MOST 1048576: true; the input reads as it did. -/
def fnExactTileBoxUptoRow : OpenClaim := { program := "ytfhglldoejeedaa", sum := "766697f282a40dbadec0debcd8631ae8f966bd67a0c6274f9c26722a68b3544e", func := "loop.example/g00190/laws.FnExactTileBox", spec := "fnExactTileBox", apart := false, narrowed := true }
def FnExactTileBoxUptoSaid : Prop := fnExactTileBoxUptoRow.holds Try.pinned (OpenSpec.upto fnExactTileBoxSpec)

/-- 'laws.FnTiles', WHERE WHAT IT READS IS OF BULK AT MOST 1048576: true; the input reads as it did. -/
def fnTilesUptoRow : OpenClaim := { program := "ytfhglldoejeedaa", sum := "766697f282a40dbadec0debcd8631ae8f966bd67a0c6274f9c26722a68b3544e", func := "loop.example/g00190/laws.FnTiles", spec := "fnTiles", apart := false, narrowed := true }
def FnTilesUptoSaid : Prop := fnTilesUptoRow.holds Try.pinned (OpenSpec.upto fnTilesSpec)

/-- 'laws.FnExactShowFrame', WHERE WHAT IT READS IS OF BULK AT MOST 1048576: true; the input reads as it did. -/
def fnExactShowFrameUptoRow : OpenClaim := { program := "ytfhglldoejeedaa", sum := "766697f282a40dbadec0debcd8631ae8f966bd67a0c6274f9c26722a68b3544e", func := "loop.example/g00190/laws.FnExactShowFrame", spec := "fnExactShowFrame", inPlace := ["internal/abi.NoEscape"], apart := false, narrowed := true }
def FnExactShowFrameUptoSaid : Prop := fnExactShowFrameUptoRow.holds Try.pinned (OpenSpec.upto fnExactShowFrameSpec)

/-- 'laws.FnExactCacheOk', WHERE WHAT IT READS IS OF BULK AT MOST 1048576: true; the input reads as it did. -/
def fnExactCacheOkUptoRow : OpenClaim := { program := "ytfhglldoejeedaa", sum := "766697f282a40dbadec0debcd8631ae8f966bd67a0c6274f9c26722a68b3544e", func := "loop.example/g00190/laws.FnExactCacheOk", spec := "fnExactCacheOk", unfollowed := true, recurses := true, apart := false, narrowed := true }
def FnExactCacheOkUptoSaid : Prop := fnExactCacheOkUptoRow.holds Try.pinned (OpenSpec.upto fnExactCacheOkSpec)

/-- 'laws.FnCaches', WHERE WHAT IT READS IS OF BULK AT MOST 1048576: true; the input reads as it did. -/
def fnCachesUptoRow : OpenClaim := { program := "ytfhglldoejeedaa", sum := "766697f282a40dbadec0debcd8631ae8f966bd67a0c6274f9c26722a68b3544e", func := "loop.example/g00190/laws.FnCaches", spec := "fnCaches", inPlace := ["slices.overlaps[loop.example/g00190/impl.Kept]"], unfollowed := true, recurses := true, apart := false, narrowed := true }
def FnCachesUptoSaid : Prop := fnCachesUptoRow.holds Try.pinned (OpenSpec.upto fnCachesSpec)

/-- 'laws.FnCreates', WHERE WHAT IT READS IS OF BULK AT MOST 1048576: true; the input reads as it did. -/
def fnCreatesUptoRow : OpenClaim := { program := "ytfhglldoejeedaa", sum := "766697f282a40dbadec0debcd8631ae8f966bd67a0c6274f9c26722a68b3544e", func := "loop.example/g00190/laws.FnCreates", spec := "fnCreates", unfollowed := true, recurses := true, apart := false, narrowed := true }
def FnCreatesUptoSaid : Prop := fnCreatesUptoRow.holds Try.pinned (OpenSpec.upto fnCreatesSpec)

/-- 'laws.FnSets', WHERE WHAT IT READS IS OF BULK AT MOST 1048576: true; the input reads as it did. -/
def fnSetsUptoRow : OpenClaim := { program := "ytfhglldoejeedaa", sum := "766697f282a40dbadec0debcd8631ae8f966bd67a0c6274f9c26722a68b3544e", func := "loop.example/g00190/laws.FnSets", spec := "fnSets", unfollowed := true, recurses := true, apart := false, narrowed := true }
def FnSetsUptoSaid : Prop := fnSetsUptoRow.holds Try.pinned (OpenSpec.upto fnSetsSpec)

/-- 'laws.FnLayers', WHERE WHAT IT READS IS OF BULK AT MOST 1048576: true; the input reads as it did. -/
def fnLayersUptoRow : OpenClaim := { program := "ytfhglldoejeedaa", sum := "766697f282a40dbadec0debcd8631ae8f966bd67a0c6274f9c26722a68b3544e", func := "loop.example/g00190/laws.FnLayers", spec := "fnLayers", unfollowed := true, recurses := true, apart := false, narrowed := true }
def FnLayersUptoSaid : Prop := fnLayersUptoRow.holds Try.pinned (OpenSpec.upto fnLayersSpec)

/-- 'laws.FnExactMatOf', WHERE WHAT IT READS IS OF BULK AT MOST 1048576: true; the input reads as it did. -/
def fnExactMatOfUptoRow : OpenClaim := { program := "ytfhglldoejeedaa", sum := "766697f282a40dbadec0debcd8631ae8f966bd67a0c6274f9c26722a68b3544e", func := "loop.example/g00190/laws.FnExactMatOf", spec := "fnExactMatOf", unfollowed := true, recurses := true, apart := false, narrowed := true }
def FnExactMatOfUptoSaid : Prop := fnExactMatOfUptoRow.holds Try.pinned (OpenSpec.upto fnExactMatOfSpec)

/-- 'laws.FnPaintsOn', WHERE WHAT IT READS IS OF BULK AT MOST 1048576: true; the input reads as it did. -/
def fnPaintsOnUptoRow : OpenClaim := { program := "ytfhglldoejeedaa", sum := "766697f282a40dbadec0debcd8631ae8f966bd67a0c6274f9c26722a68b3544e", func := "loop.example/g00190/laws.FnPaintsOn", spec := "fnPaintsOn", unfollowed := true, recurses := true, apart := false, narrowed := true }
def FnPaintsOnUptoSaid : Prop := fnPaintsOnUptoRow.holds Try.pinned (OpenSpec.upto fnPaintsOnSpec)

/-- 'laws.FnExactSparing', WHERE WHAT IT READS IS OF BULK AT MOST 1048576: true; the input reads as it did. -/
def fnExactSparingUptoRow : OpenClaim := { program := "ytfhglldoejeedaa", sum := "766697f282a40dbadec0debcd8631ae8f966bd67a0c6274f9c26722a68b3544e", func := "loop.example/g00190/laws.FnExactSparing", spec := "fnExactSparing", apart := false, narrowed := true }
def FnExactSparingUptoSaid : Prop := fnExactSparingUptoRow.holds Try.pinned (OpenSpec.upto fnExactSparingSpec)

/-- 'laws.FnPlaces', WHERE WHAT IT READS IS OF BULK AT MOST 1048576: true; the input reads as it did. -/
def fnPlacesUptoRow : OpenClaim := { program := "ytfhglldoejeedaa", sum := "766697f282a40dbadec0debcd8631ae8f966bd67a0c6274f9c26722a68b3544e", func := "loop.example/g00190/laws.FnPlaces", spec := "fnPlaces", inPlace := ["slices.overlaps[loop.example/g00190/impl.Node]"], unfollowed := true, recurses := true, apart := false, narrowed := true }
def FnPlacesUptoSaid : Prop := fnPlacesUptoRow.holds Try.pinned (OpenSpec.upto fnPlacesSpec)

end Rows
end Go.Proofs.Ytfhglldoejeedaa
