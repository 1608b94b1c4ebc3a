/-
  No cell of these rows narrows 'for every input' (looked for: loops, veiled, ifaces, maps, wideKeys, modest, calm, conditions, laid).
  DERIVED. THE GIVEN ROWS OF THIS SEAT. 12 by the template 'for every input the law returns true; each argument reads behind the call as it read before'; 0 by the template 'total and deterministic' (their statements: YtiaohbbafaaibaaTotals.lean).
  GIVEN WITH THE SEED: the statements are not yours to turn. If you find one false, say at which input.
  Laid BY PROGRAM, IN A SANDBOX (cutbox-rows.mjs): the forced cells as the released guide's own fill.sh prints them over the translation 98d28d51bcccbf23… (all of the seat's roots in one cut). By AI agents, Wed Nov 11 2026. No macro, syntax, notation, axiom, sorry.
-/
import Derived.Test.YtiaohbbafaaibaaChecked
import GoSem.Claim
import GoSem.ClaimJoined
import GoSem.ClaimMapViews
import Derived.JoinedTies
import Derived.KernelRfl
namespace Go.Proofs.Ytiaohbbafaaibaa
/- THE CELL 'sum', in the pinned program and in every row, IS THE sha256 OF THE DUMP (.gsa) THAT YtiaohbbafaaibaaProg.lean LOADS. Nothing in Lean hashes anything: it is a label: what it is worth is what the hold of that sum in a sandbox is worth. -/
noncomputable def Try.pinned : Pinned := { name := "ytiaohbbafaaibaa", sum := "98d28d51bcccbf232caab007dfda7dd675105c70d5e34d2518e5ec103b799c14", checked := Try.checked }
namespace Rows
def none {H : Type} : Left H := { results := [], args := [] }

/-- 'pleatlaw21.GainSums': WHATEVER THE INPUT: true; the input reads as it did. -/
def gainSumsSpec : ChangeSpec := { name := "gainSums", fn := fun _ => fun
  | [d1, d2, d3] => { results := [.lit (.bool true)], args := [d1, d2, d3] }
  | _ => none }
def gainSumsRow : OpenClaim := { program := "ytiaohbbafaaibaa", sum := "98d28d51bcccbf232caab007dfda7dd675105c70d5e34d2518e5ec103b799c14", func := "pleat/pleatlaw21.GainSums", spec := "gainSums", apart := false }
def GainSumsSaid : Prop := gainSumsRow.holds Try.pinned (OpenSpec.ofChange gainSumsSpec)

/-- ITS FALSE NEIGHBOUR: 'it returns false'. Refute it at one input. -/
def gainSumsWrong : ChangeSpec := { name := "gainSums", fn := fun _ => fun
  | [d1, d2, d3] => { results := [.lit (.bool false)], args := [d1, d2, d3] }
  | _ => none }
def GainSumsWrongFalsely : Prop := gainSumsRow.holds Try.pinned (OpenSpec.ofChange gainSumsWrong)

/-- 'pleatlaw21.GainParts': WHATEVER THE INPUT: true; the input reads as it did. -/
def gainPartsSpec : ChangeSpec := { name := "gainParts", fn := fun _ => fun
  | [d1, d2, d3] => { results := [.lit (.bool true)], args := [d1, d2, d3] }
  | _ => none }
def gainPartsRow : OpenClaim := { program := "ytiaohbbafaaibaa", sum := "98d28d51bcccbf232caab007dfda7dd675105c70d5e34d2518e5ec103b799c14", func := "pleat/pleatlaw21.GainParts", spec := "gainParts", apart := false }
def GainPartsSaid : Prop := gainPartsRow.holds Try.pinned (OpenSpec.ofChange gainPartsSpec)

/-- ITS FALSE NEIGHBOUR: 'it returns false'. Refute it at one input. -/
def gainPartsWrong : ChangeSpec := { name := "gainParts", fn := fun _ => fun
  | [d1, d2, d3] => { results := [.lit (.bool false)], args := [d1, d2, d3] }
  | _ => none }
def GainPartsWrongFalsely : Prop := gainPartsRow.holds Try.pinned (OpenSpec.ofChange gainPartsWrong)

/-- 'pleatlaw02.IsaWords': WHATEVER THE INPUT: true; the input reads as it did. -/
def isaWordsSpec : ChangeSpec := { name := "isaWords", fn := fun _ => fun
  | [d] => { results := [.lit (.bool true)], args := [d] }
  | _ => none }
def isaWordsRow : OpenClaim := { program := "ytiaohbbafaaibaa", sum := "98d28d51bcccbf232caab007dfda7dd675105c70d5e34d2518e5ec103b799c14", func := "pleat/pleatlaw02.IsaWords", spec := "isaWords", apart := false }
def IsaWordsSaid : Prop := isaWordsRow.holds Try.pinned (OpenSpec.ofChange isaWordsSpec)

/-- ITS FALSE NEIGHBOUR: 'it returns false'. Refute it at one input. -/
def isaWordsWrong : ChangeSpec := { name := "isaWords", fn := fun _ => fun
  | [d] => { results := [.lit (.bool false)], args := [d] }
  | _ => none }
def IsaWordsWrongFalsely : Prop := isaWordsRow.holds Try.pinned (OpenSpec.ofChange isaWordsWrong)

/-- 'pleatlaw02.IsaEncodes': WHATEVER THE INPUT: true; the input reads as it did. -/
def isaEncodesSpec : ChangeSpec := { name := "isaEncodes", fn := fun _ => fun
  | [d1, d2] => { results := [.lit (.bool true)], args := [d1, d2] }
  | _ => none }
def isaEncodesRow : OpenClaim := { program := "ytiaohbbafaaibaa", sum := "98d28d51bcccbf232caab007dfda7dd675105c70d5e34d2518e5ec103b799c14", func := "pleat/pleatlaw02.IsaEncodes", spec := "isaEncodes", apart := false }
def IsaEncodesSaid : Prop := isaEncodesRow.holds Try.pinned (OpenSpec.ofChange isaEncodesSpec)

/-- ITS FALSE NEIGHBOUR: 'it returns false'. Refute it at one input. -/
def isaEncodesWrong : ChangeSpec := { name := "isaEncodes", fn := fun _ => fun
  | [d1, d2] => { results := [.lit (.bool false)], args := [d1, d2] }
  | _ => none }
def IsaEncodesWrongFalsely : Prop := isaEncodesRow.holds Try.pinned (OpenSpec.ofChange isaEncodesWrong)

/-- 'pleatlaw02.IsaNames': WHATEVER THE INPUT: true; the input reads as it did. -/
def isaNamesSpec : ChangeSpec := { name := "isaNames", fn := fun _ => fun
  | [d1, d2] => { results := [.lit (.bool true)], args := [d1, d2] }
  | _ => none }
def isaNamesRow : OpenClaim := { program := "ytiaohbbafaaibaa", sum := "98d28d51bcccbf232caab007dfda7dd675105c70d5e34d2518e5ec103b799c14", func := "pleat/pleatlaw02.IsaNames", spec := "isaNames", apart := false }
def IsaNamesSaid : Prop := isaNamesRow.holds Try.pinned (OpenSpec.ofChange isaNamesSpec)

/-- ITS FALSE NEIGHBOUR: 'it returns false'. Refute it at one input. -/
def isaNamesWrong : ChangeSpec := { name := "isaNames", fn := fun _ => fun
  | [d1, d2] => { results := [.lit (.bool false)], args := [d1, d2] }
  | _ => none }
def IsaNamesWrongFalsely : Prop := isaNamesRow.holds Try.pinned (OpenSpec.ofChange isaNamesWrong)

/-- 'pleatlaw13.TouchWords': WHATEVER THE INPUT: true; the input reads as it did. -/
def touchWordsSpec : ChangeSpec := { name := "touchWords", fn := fun _ => fun
  | [d] => { results := [.lit (.bool true)], args := [d] }
  | _ => none }
def touchWordsRow : OpenClaim := { program := "ytiaohbbafaaibaa", sum := "98d28d51bcccbf232caab007dfda7dd675105c70d5e34d2518e5ec103b799c14", func := "pleat/pleatlaw13.TouchWords", spec := "touchWords", unfollowed := true, recurses := true, apart := false }
def TouchWordsSaid : Prop := touchWordsRow.holds Try.pinned (OpenSpec.ofChange touchWordsSpec)

/-- ITS FALSE NEIGHBOUR: 'it returns false'. Refute it at one input. -/
def touchWordsWrong : ChangeSpec := { name := "touchWords", fn := fun _ => fun
  | [d] => { results := [.lit (.bool false)], args := [d] }
  | _ => none }
def TouchWordsWrongFalsely : Prop := touchWordsRow.holds Try.pinned (OpenSpec.ofChange touchWordsWrong)

/-- 'pleatlaw13.TouchAll': WHATEVER THE INPUT: true; the input reads as it did. -/
def touchAllSpec : ChangeSpec := { name := "touchAll", fn := fun _ => fun
  | [d1, d2] => { results := [.lit (.bool true)], args := [d1, d2] }
  | _ => none }
def touchAllRow : OpenClaim := { program := "ytiaohbbafaaibaa", sum := "98d28d51bcccbf232caab007dfda7dd675105c70d5e34d2518e5ec103b799c14", func := "pleat/pleatlaw13.TouchAll", spec := "touchAll", unfollowed := true, recurses := true, apart := false }
def TouchAllSaid : Prop := touchAllRow.holds Try.pinned (OpenSpec.ofChange touchAllSpec)

/-- ITS FALSE NEIGHBOUR: 'it returns false'. Refute it at one input. -/
def touchAllWrong : ChangeSpec := { name := "touchAll", fn := fun _ => fun
  | [d1, d2] => { results := [.lit (.bool false)], args := [d1, d2] }
  | _ => none }
def TouchAllWrongFalsely : Prop := touchAllRow.holds Try.pinned (OpenSpec.ofChange touchAllWrong)

/-- 'pleatlaw11.BlockOf': WHATEVER THE INPUT: true; the input reads as it did. -/
def blockOfSpec : ChangeSpec := { name := "blockOf", fn := fun _ => fun
  | [d1, d2] => { results := [.lit (.bool true)], args := [d1, d2] }
  | _ => none }
def blockOfRow : OpenClaim := { program := "ytiaohbbafaaibaa", sum := "98d28d51bcccbf232caab007dfda7dd675105c70d5e34d2518e5ec103b799c14", func := "pleat/pleatlaw11.BlockOf", spec := "blockOf", unfollowed := true, recurses := true, apart := false }
def BlockOfSaid : Prop := blockOfRow.holds Try.pinned (OpenSpec.ofChange blockOfSpec)

/-- ITS FALSE NEIGHBOUR: 'it returns false'. Refute it at one input. -/
def blockOfWrong : ChangeSpec := { name := "blockOf", fn := fun _ => fun
  | [d1, d2] => { results := [.lit (.bool false)], args := [d1, d2] }
  | _ => none }
def BlockOfWrongFalsely : Prop := blockOfRow.holds Try.pinned (OpenSpec.ofChange blockOfWrong)

/-- 'pleatlaw11.BlockPlaces': WHATEVER THE INPUT: true; the input reads as it did. -/
def blockPlacesSpec : ChangeSpec := { name := "blockPlaces", fn := fun _ => fun
  | [d] => { results := [.lit (.bool true)], args := [d] }
  | _ => none }
def blockPlacesRow : OpenClaim := { program := "ytiaohbbafaaibaa", sum := "98d28d51bcccbf232caab007dfda7dd675105c70d5e34d2518e5ec103b799c14", func := "pleat/pleatlaw11.BlockPlaces", spec := "blockPlaces", unfollowed := true, recurses := true, apart := false }
def BlockPlacesSaid : Prop := blockPlacesRow.holds Try.pinned (OpenSpec.ofChange blockPlacesSpec)

/-- ITS FALSE NEIGHBOUR: 'it returns false'. Refute it at one input. -/
def blockPlacesWrong : ChangeSpec := { name := "blockPlaces", fn := fun _ => fun
  | [d] => { results := [.lit (.bool false)], args := [d] }
  | _ => none }
def BlockPlacesWrongFalsely : Prop := blockPlacesRow.holds Try.pinned (OpenSpec.ofChange blockPlacesWrong)

/-- 'pleatlaw11.BlockCovers': WHATEVER THE INPUT: true; the input reads as it did. -/
def blockCoversSpec : ChangeSpec := { name := "blockCovers", fn := fun _ => fun
  | [d] => { results := [.lit (.bool true)], args := [d] }
  | _ => none }
def blockCoversRow : OpenClaim := { program := "ytiaohbbafaaibaa", sum := "98d28d51bcccbf232caab007dfda7dd675105c70d5e34d2518e5ec103b799c14", func := "pleat/pleatlaw11.BlockCovers", spec := "blockCovers", unfollowed := true, recurses := true, apart := false }
def BlockCoversSaid : Prop := blockCoversRow.holds Try.pinned (OpenSpec.ofChange blockCoversSpec)

/-- ITS FALSE NEIGHBOUR: 'it returns false'. Refute it at one input. -/
def blockCoversWrong : ChangeSpec := { name := "blockCovers", fn := fun _ => fun
  | [d] => { results := [.lit (.bool false)], args := [d] }
  | _ => none }
def BlockCoversWrongFalsely : Prop := blockCoversRow.holds Try.pinned (OpenSpec.ofChange blockCoversWrong)

/-- 'pleatlaw03.ObjectTells': WHATEVER THE INPUT: true; the input reads as it did. -/
def objectTellsSpec : ChangeSpec := { name := "objectTells", fn := fun _ => fun
  | [d1, d2, d3] => { results := [.lit (.bool true)], args := [d1, d2, d3] }
  | _ => none }
def objectTellsRow : OpenClaim := { program := "ytiaohbbafaaibaa", sum := "98d28d51bcccbf232caab007dfda7dd675105c70d5e34d2518e5ec103b799c14", func := "pleat/pleatlaw03.ObjectTells", spec := "objectTells", unfollowed := true, recurses := true, apart := false }
def ObjectTellsSaid : Prop := objectTellsRow.holds Try.pinned (OpenSpec.ofChange objectTellsSpec)

/-- ITS FALSE NEIGHBOUR: 'it returns false'. Refute it at one input. -/
def objectTellsWrong : ChangeSpec := { name := "objectTells", fn := fun _ => fun
  | [d1, d2, d3] => { results := [.lit (.bool false)], args := [d1, d2, d3] }
  | _ => none }
def ObjectTellsWrongFalsely : Prop := objectTellsRow.holds Try.pinned (OpenSpec.ofChange objectTellsWrong)

/-- 'pleatlaw03.ObjectNames': WHATEVER THE INPUT: true; the input reads as it did. -/
def objectNamesSpec : ChangeSpec := { name := "objectNames", fn := fun _ => fun
  | [d] => { results := [.lit (.bool true)], args := [d] }
  | _ => none }
def objectNamesRow : OpenClaim := { program := "ytiaohbbafaaibaa", sum := "98d28d51bcccbf232caab007dfda7dd675105c70d5e34d2518e5ec103b799c14", func := "pleat/pleatlaw03.ObjectNames", spec := "objectNames", unfollowed := true, recurses := true, apart := false }
def ObjectNamesSaid : Prop := objectNamesRow.holds Try.pinned (OpenSpec.ofChange objectNamesSpec)

/-- ITS FALSE NEIGHBOUR: 'it returns false'. Refute it at one input. -/
def objectNamesWrong : ChangeSpec := { name := "objectNames", fn := fun _ => fun
  | [d] => { results := [.lit (.bool false)], args := [d] }
  | _ => none }
def ObjectNamesWrongFalsely : Prop := objectNamesRow.holds Try.pinned (OpenSpec.ofChange objectNamesWrong)

/- THE SECOND FORM. 'bulk': how many values and letters a reading holds, each counted each time it is reached (what is shared counts as often as it is met; a slice's spare places count too). A statement '..UptoSaid' is the law's where the arguments, and the package variables that the reading takes, are together of bulk at most 1048576: NARROWER than '..Said'. Prove '..Said' where nothing that the law and all that it calls make is longer than what came in: it says more and counts as full. Else prove '..UptoSaid'. A law counts once. -/
mutual
def uptoBulk {H : Type} : DataW H → Nat
  | .lit (.string bytes) => bytes.length + 1
  | .lit _ => 1
  | .nil => 1
  | .ptr d => uptoBulk d + 1
  | .slice elems spare => uptoBulkAll elems + uptoBulkAll spare + 1
  | .agg parts => uptoBulkAll parts + 1
  | .iface _ d => uptoBulk d + 1
  | .map entries => uptoBulkEntries entries + 1
  | .held _ => 1
def uptoBulkAll {H : Type} : List (DataW H) → Nat
  | [] => 0
  | d :: r => uptoBulk d + uptoBulkAll r
def uptoBulkEntries {H : Type} : List (Lit × DataW H) → Nat
  | [] => 0
  | x :: r => uptoBulkEntry x + uptoBulkEntries r
def uptoBulkEntry {H : Type} : Lit × DataW H → Nat
  | (.string bytes, d) => bytes.length + uptoBulk d + 1
  | (_, d) => uptoBulk d + 1
 end
def uptoSmall : (H : Type) → List (DataW H) → Bool := fun _ ds => decide (uptoBulkAll ds ≤ 1048576)
def OpenSpec.upto (s : _root_.Go.ChangeSpec) : _root_.Go.OpenSpec := { _root_.Go.OpenSpec.ofChange s with cond := some uptoSmall }

/-- 'pleatlaw21.GainSums', WHERE WHAT IT READS IS OF BULK AT MOST 1048576: true; the input reads as it did. -/
def gainSumsUptoRow : OpenClaim := { program := "ytiaohbbafaaibaa", sum := "98d28d51bcccbf232caab007dfda7dd675105c70d5e34d2518e5ec103b799c14", func := "pleat/pleatlaw21.GainSums", spec := "gainSums", apart := false, narrowed := true }
def GainSumsUptoSaid : Prop := gainSumsUptoRow.holds Try.pinned (OpenSpec.upto gainSumsSpec)

/-- 'pleatlaw21.GainParts', WHERE WHAT IT READS IS OF BULK AT MOST 1048576: true; the input reads as it did. -/
def gainPartsUptoRow : OpenClaim := { program := "ytiaohbbafaaibaa", sum := "98d28d51bcccbf232caab007dfda7dd675105c70d5e34d2518e5ec103b799c14", func := "pleat/pleatlaw21.GainParts", spec := "gainParts", apart := false, narrowed := true }
def GainPartsUptoSaid : Prop := gainPartsUptoRow.holds Try.pinned (OpenSpec.upto gainPartsSpec)

/-- 'pleatlaw02.IsaWords', WHERE WHAT IT READS IS OF BULK AT MOST 1048576: true; the input reads as it did. -/
def isaWordsUptoRow : OpenClaim := { program := "ytiaohbbafaaibaa", sum := "98d28d51bcccbf232caab007dfda7dd675105c70d5e34d2518e5ec103b799c14", func := "pleat/pleatlaw02.IsaWords", spec := "isaWords", apart := false, narrowed := true }
def IsaWordsUptoSaid : Prop := isaWordsUptoRow.holds Try.pinned (OpenSpec.upto isaWordsSpec)

/-- 'pleatlaw02.IsaEncodes', WHERE WHAT IT READS IS OF BULK AT MOST 1048576: true; the input reads as it did. -/
def isaEncodesUptoRow : OpenClaim := { program := "ytiaohbbafaaibaa", sum := "98d28d51bcccbf232caab007dfda7dd675105c70d5e34d2518e5ec103b799c14", func := "pleat/pleatlaw02.IsaEncodes", spec := "isaEncodes", apart := false, narrowed := true }
def IsaEncodesUptoSaid : Prop := isaEncodesUptoRow.holds Try.pinned (OpenSpec.upto isaEncodesSpec)

/-- 'pleatlaw02.IsaNames', WHERE WHAT IT READS IS OF BULK AT MOST 1048576: true; the input reads as it did. -/
def isaNamesUptoRow : OpenClaim := { program := "ytiaohbbafaaibaa", sum := "98d28d51bcccbf232caab007dfda7dd675105c70d5e34d2518e5ec103b799c14", func := "pleat/pleatlaw02.IsaNames", spec := "isaNames", apart := false, narrowed := true }
def IsaNamesUptoSaid : Prop := isaNamesUptoRow.holds Try.pinned (OpenSpec.upto isaNamesSpec)

/-- 'pleatlaw13.TouchWords', WHERE WHAT IT READS IS OF BULK AT MOST 1048576: true; the input reads as it did. -/
def touchWordsUptoRow : OpenClaim := { program := "ytiaohbbafaaibaa", sum := "98d28d51bcccbf232caab007dfda7dd675105c70d5e34d2518e5ec103b799c14", func := "pleat/pleatlaw13.TouchWords", spec := "touchWords", unfollowed := true, recurses := true, apart := false, narrowed := true }
def TouchWordsUptoSaid : Prop := touchWordsUptoRow.holds Try.pinned (OpenSpec.upto touchWordsSpec)

/-- 'pleatlaw13.TouchAll', WHERE WHAT IT READS IS OF BULK AT MOST 1048576: true; the input reads as it did. -/
def touchAllUptoRow : OpenClaim := { program := "ytiaohbbafaaibaa", sum := "98d28d51bcccbf232caab007dfda7dd675105c70d5e34d2518e5ec103b799c14", func := "pleat/pleatlaw13.TouchAll", spec := "touchAll", unfollowed := true, recurses := true, apart := false, narrowed := true }
def TouchAllUptoSaid : Prop := touchAllUptoRow.holds Try.pinned (OpenSpec.upto touchAllSpec)

/-- 'pleatlaw11.BlockOf', WHERE WHAT IT READS IS OF BULK AT MOST 1048576: true; the input reads as it did. -/
def blockOfUptoRow : OpenClaim := { program := "ytiaohbbafaaibaa", sum := "98d28d51bcccbf232caab007dfda7dd675105c70d5e34d2518e5ec103b799c14", func := "pleat/pleatlaw11.BlockOf", spec := "blockOf", unfollowed := true, recurses := true, apart := false, narrowed := true }
def BlockOfUptoSaid : Prop := blockOfUptoRow.holds Try.pinned (OpenSpec.upto blockOfSpec)

/-- 'pleatlaw11.BlockPlaces', WHERE WHAT IT READS IS OF BULK AT MOST 1048576: true; the input reads as it did. -/
def blockPlacesUptoRow : OpenClaim := { program := "ytiaohbbafaaibaa", sum := "98d28d51bcccbf232caab007dfda7dd675105c70d5e34d2518e5ec103b799c14", func := "pleat/pleatlaw11.BlockPlaces", spec := "blockPlaces", unfollowed := true, recurses := true, apart := false, narrowed := true }
def BlockPlacesUptoSaid : Prop := blockPlacesUptoRow.holds Try.pinned (OpenSpec.upto blockPlacesSpec)

/-- 'pleatlaw11.BlockCovers', WHERE WHAT IT READS IS OF BULK AT MOST 1048576: true; the input reads as it did. -/
def blockCoversUptoRow : OpenClaim := { program := "ytiaohbbafaaibaa", sum := "98d28d51bcccbf232caab007dfda7dd675105c70d5e34d2518e5ec103b799c14", func := "pleat/pleatlaw11.BlockCovers", spec := "blockCovers", unfollowed := true, recurses := true, apart := false, narrowed := true }
def BlockCoversUptoSaid : Prop := blockCoversUptoRow.holds Try.pinned (OpenSpec.upto blockCoversSpec)

/-- 'pleatlaw03.ObjectTells', WHERE WHAT IT READS IS OF BULK AT MOST 1048576: true; the input reads as it did. -/
def objectTellsUptoRow : OpenClaim := { program := "ytiaohbbafaaibaa", sum := "98d28d51bcccbf232caab007dfda7dd675105c70d5e34d2518e5ec103b799c14", func := "pleat/pleatlaw03.ObjectTells", spec := "objectTells", unfollowed := true, recurses := true, apart := false, narrowed := true }
def ObjectTellsUptoSaid : Prop := objectTellsUptoRow.holds Try.pinned (OpenSpec.upto objectTellsSpec)

/-- 'pleatlaw03.ObjectNames', WHERE WHAT IT READS IS OF BULK AT MOST 1048576: true; the input reads as it did. -/
def objectNamesUptoRow : OpenClaim := { program := "ytiaohbbafaaibaa", sum := "98d28d51bcccbf232caab007dfda7dd675105c70d5e34d2518e5ec103b799c14", func := "pleat/pleatlaw03.ObjectNames", spec := "objectNames", unfollowed := true, recurses := true, apart := false, narrowed := true }
def ObjectNamesUptoSaid : Prop := objectNamesUptoRow.holds Try.pinned (OpenSpec.upto objectNamesSpec)

end Rows
end Go.Proofs.Ytiaohbbafaaibaa
