/-
  No cell of these rows narrows 'for every input' (looked for: loops, veiled, ifaces, maps, wideKeys, modest, calm, conditions, laid).
  DERIVED. THE GIVEN ROWS OF THIS SEAT. 12 by the template 'for every input the law returns true; each argument reads behind the call as it read before'; 0 by the template 'total and deterministic' (their statements: YtngffembdhcijaaTotals.lean).
  GIVEN WITH THE SEED: the statements are not yours to turn. If you find one false, say at which input.
  Laid BY PROGRAM, IN A SANDBOX (cutbox-rows.mjs): the forced cells as the released guide's own fill.sh prints them over the translation 8fc3f15a3af42090… (all of the seat's roots in one cut). By AI agents, Wed Nov 11 2026. No macro, syntax, notation, axiom, sorry.
-/
import Derived.Test.YtngffembdhcijaaChecked
import GoSem.Claim
import GoSem.ClaimJoined
import GoSem.ClaimMapViews
import Derived.JoinedTies
import Derived.KernelRfl
namespace Go.Proofs.Ytngffembdhcijaa
/- THE CELL 'sum', in the pinned program and in every row, IS THE sha256 OF THE DUMP (.gsa) THAT YtngffembdhcijaaProg.lean LOADS. Nothing in Lean hashes anything: it is a label: what it is worth is what the hold of that sum in a sandbox is worth. -/
noncomputable def Try.pinned : Pinned := { name := "ytngffembdhcijaa", sum := "8fc3f15a3af420900c9af7d8287df9e6991f5819575192c67732797aa699bfe7", checked := Try.checked }
namespace Rows
def none {H : Type} : Left H := { results := [], args := [] }

/-- 'polyglotlaw08.RecNames': WHATEVER THE INPUT: true; the input reads as it did. -/
def recNamesSpec : ChangeSpec := { name := "recNames", fn := fun _ => fun
  | [d1, d2] => { results := [.lit (.bool true)], args := [d1, d2] }
  | _ => none }
def recNamesRow : OpenClaim := { program := "ytngffembdhcijaa", sum := "8fc3f15a3af420900c9af7d8287df9e6991f5819575192c67732797aa699bfe7", func := "polyglot/polyglotlaw08.RecNames", spec := "recNames", unfollowed := true, recurses := true, apart := false }
def RecNamesSaid : Prop := recNamesRow.holds Try.pinned (OpenSpec.ofChange recNamesSpec)

/-- ITS FALSE NEIGHBOUR: 'it returns false'. Refute it at one input. -/
def recNamesWrong : ChangeSpec := { name := "recNames", fn := fun _ => fun
  | [d1, d2] => { results := [.lit (.bool false)], args := [d1, d2] }
  | _ => none }
def RecNamesWrongFalsely : Prop := recNamesRow.holds Try.pinned (OpenSpec.ofChange recNamesWrong)

/-- 'polyglotlaw09.LatticeLaws': WHATEVER THE INPUT: true; the input reads as it did. -/
def latticeLawsSpec : ChangeSpec := { name := "latticeLaws", fn := fun _ => fun
  | [d1, d2, d3] => { results := [.lit (.bool true)], args := [d1, d2, d3] }
  | _ => none }
def latticeLawsRow : OpenClaim := { program := "ytngffembdhcijaa", sum := "8fc3f15a3af420900c9af7d8287df9e6991f5819575192c67732797aa699bfe7", func := "polyglot/polyglotlaw09.LatticeLaws", spec := "latticeLaws", apart := false }
def LatticeLawsSaid : Prop := latticeLawsRow.holds Try.pinned (OpenSpec.ofChange latticeLawsSpec)

/-- ITS FALSE NEIGHBOUR: 'it returns false'. Refute it at one input. -/
def latticeLawsWrong : ChangeSpec := { name := "latticeLaws", fn := fun _ => fun
  | [d1, d2, d3] => { results := [.lit (.bool false)], args := [d1, d2, d3] }
  | _ => none }
def LatticeLawsWrongFalsely : Prop := latticeLawsRow.holds Try.pinned (OpenSpec.ofChange latticeLawsWrong)

/-- 'polyglotlaw08.RecWeighs': WHATEVER THE INPUT: true; the input reads as it did. -/
def recWeighsSpec : ChangeSpec := { name := "recWeighs", fn := fun _ => fun
  | [d1, d2] => { results := [.lit (.bool true)], args := [d1, d2] }
  | _ => none }
def recWeighsRow : OpenClaim := { program := "ytngffembdhcijaa", sum := "8fc3f15a3af420900c9af7d8287df9e6991f5819575192c67732797aa699bfe7", func := "polyglot/polyglotlaw08.RecWeighs", spec := "recWeighs", unfollowed := true, recurses := true, apart := false }
def RecWeighsSaid : Prop := recWeighsRow.holds Try.pinned (OpenSpec.ofChange recWeighsSpec)

/-- ITS FALSE NEIGHBOUR: 'it returns false'. Refute it at one input. -/
def recWeighsWrong : ChangeSpec := { name := "recWeighs", fn := fun _ => fun
  | [d1, d2] => { results := [.lit (.bool false)], args := [d1, d2] }
  | _ => none }
def RecWeighsWrongFalsely : Prop := recWeighsRow.holds Try.pinned (OpenSpec.ofChange recWeighsWrong)

/-- 'polyglotlaw08.RecParts': WHATEVER THE INPUT: true; the input reads as it did. -/
def recPartsSpec : ChangeSpec := { name := "recParts", fn := fun _ => fun
  | [d1, d2] => { results := [.lit (.bool true)], args := [d1, d2] }
  | _ => none }
def recPartsRow : OpenClaim := { program := "ytngffembdhcijaa", sum := "8fc3f15a3af420900c9af7d8287df9e6991f5819575192c67732797aa699bfe7", func := "polyglot/polyglotlaw08.RecParts", spec := "recParts", unfollowed := true, recurses := true, apart := false }
def RecPartsSaid : Prop := recPartsRow.holds Try.pinned (OpenSpec.ofChange recPartsSpec)

/-- ITS FALSE NEIGHBOUR: 'it returns false'. Refute it at one input. -/
def recPartsWrong : ChangeSpec := { name := "recParts", fn := fun _ => fun
  | [d1, d2] => { results := [.lit (.bool false)], args := [d1, d2] }
  | _ => none }
def RecPartsWrongFalsely : Prop := recPartsRow.holds Try.pinned (OpenSpec.ofChange recPartsWrong)

/-- 'polyglotlaw09.LatticeUnders': WHATEVER THE INPUT: true; the input reads as it did. -/
def latticeUndersSpec : ChangeSpec := { name := "latticeUnders", fn := fun _ => fun
  | [d1, d2] => { results := [.lit (.bool true)], args := [d1, d2] }
  | _ => none }
def latticeUndersRow : OpenClaim := { program := "ytngffembdhcijaa", sum := "8fc3f15a3af420900c9af7d8287df9e6991f5819575192c67732797aa699bfe7", func := "polyglot/polyglotlaw09.LatticeUnders", spec := "latticeUnders", unfollowed := true, recurses := true, apart := false }
def LatticeUndersSaid : Prop := latticeUndersRow.holds Try.pinned (OpenSpec.ofChange latticeUndersSpec)

/-- ITS FALSE NEIGHBOUR: 'it returns false'. Refute it at one input. -/
def latticeUndersWrong : ChangeSpec := { name := "latticeUnders", fn := fun _ => fun
  | [d1, d2] => { results := [.lit (.bool false)], args := [d1, d2] }
  | _ => none }
def LatticeUndersWrongFalsely : Prop := latticeUndersRow.holds Try.pinned (OpenSpec.ofChange latticeUndersWrong)

/-- 'polyglotlaw08.RecLists': WHATEVER THE INPUT: true; the input reads as it did. -/
def recListsSpec : ChangeSpec := { name := "recLists", fn := fun _ => fun
  | [d1, d2, d3] => { results := [.lit (.bool true)], args := [d1, d2, d3] }
  | _ => none }
def recListsRow : OpenClaim := { program := "ytngffembdhcijaa", sum := "8fc3f15a3af420900c9af7d8287df9e6991f5819575192c67732797aa699bfe7", func := "polyglot/polyglotlaw08.RecLists", spec := "recLists", unfollowed := true, recurses := true, apart := false }
def RecListsSaid : Prop := recListsRow.holds Try.pinned (OpenSpec.ofChange recListsSpec)

/-- ITS FALSE NEIGHBOUR: 'it returns false'. Refute it at one input. -/
def recListsWrong : ChangeSpec := { name := "recLists", fn := fun _ => fun
  | [d1, d2, d3] => { results := [.lit (.bool false)], args := [d1, d2, d3] }
  | _ => none }
def RecListsWrongFalsely : Prop := recListsRow.holds Try.pinned (OpenSpec.ofChange recListsWrong)

/-- 'polyglotlaw06.BagPuts': WHATEVER THE INPUT: true; the input reads as it did. -/
def bagPutsSpec : ChangeSpec := { name := "bagPuts", fn := fun _ => fun
  | [d1, d2] => { results := [.lit (.bool true)], args := [d1, d2] }
  | _ => none }
def bagPutsRow : OpenClaim := { program := "ytngffembdhcijaa", sum := "8fc3f15a3af420900c9af7d8287df9e6991f5819575192c67732797aa699bfe7", func := "polyglot/polyglotlaw06.BagPuts", spec := "bagPuts", inPlace := ["slices.overlaps[polyglot/api.Field]"], unfollowed := true, recurses := true, apart := false }
def BagPutsSaid : Prop := bagPutsRow.holds Try.pinned (OpenSpec.ofChange bagPutsSpec)

/-- ITS FALSE NEIGHBOUR: 'it returns false'. Refute it at one input. -/
def bagPutsWrong : ChangeSpec := { name := "bagPuts", fn := fun _ => fun
  | [d1, d2] => { results := [.lit (.bool false)], args := [d1, d2] }
  | _ => none }
def BagPutsWrongFalsely : Prop := bagPutsRow.holds Try.pinned (OpenSpec.ofChange bagPutsWrong)

/-- 'polyglotlaw06.BagChains': WHATEVER THE INPUT: true; the input reads as it did. -/
def bagChainsSpec : ChangeSpec := { name := "bagChains", fn := fun _ => fun
  | [d1, d2, d3] => { results := [.lit (.bool true)], args := [d1, d2, d3] }
  | _ => none }
def bagChainsRow : OpenClaim := { program := "ytngffembdhcijaa", sum := "8fc3f15a3af420900c9af7d8287df9e6991f5819575192c67732797aa699bfe7", func := "polyglot/polyglotlaw06.BagChains", spec := "bagChains", inPlace := ["slices.overlaps[polyglot/api.Field]"], apart := false }
def BagChainsSaid : Prop := bagChainsRow.holds Try.pinned (OpenSpec.ofChange bagChainsSpec)

/-- ITS FALSE NEIGHBOUR: 'it returns false'. Refute it at one input. -/
def bagChainsWrong : ChangeSpec := { name := "bagChains", fn := fun _ => fun
  | [d1, d2, d3] => { results := [.lit (.bool false)], args := [d1, d2, d3] }
  | _ => none }
def BagChainsWrongFalsely : Prop := bagChainsRow.holds Try.pinned (OpenSpec.ofChange bagChainsWrong)

/-- 'polyglotlaw06.BagOrders': WHATEVER THE INPUT: true; the input reads as it did. -/
def bagOrdersSpec : ChangeSpec := { name := "bagOrders", fn := fun _ => fun
  | [d1, d2] => { results := [.lit (.bool true)], args := [d1, d2] }
  | _ => none }
def bagOrdersRow : OpenClaim := { program := "ytngffembdhcijaa", sum := "8fc3f15a3af420900c9af7d8287df9e6991f5819575192c67732797aa699bfe7", func := "polyglot/polyglotlaw06.BagOrders", spec := "bagOrders", inPlace := ["slices.overlaps[polyglot/api.Field]"], apart := false }
def BagOrdersSaid : Prop := bagOrdersRow.holds Try.pinned (OpenSpec.ofChange bagOrdersSpec)

/-- ITS FALSE NEIGHBOUR: 'it returns false'. Refute it at one input. -/
def bagOrdersWrong : ChangeSpec := { name := "bagOrders", fn := fun _ => fun
  | [d1, d2] => { results := [.lit (.bool false)], args := [d1, d2] }
  | _ => none }
def BagOrdersWrongFalsely : Prop := bagOrdersRow.holds Try.pinned (OpenSpec.ofChange bagOrdersWrong)

/-- 'polyglotlaw06.BagMay': WHATEVER THE INPUT: true; the input reads as it did. -/
def bagMaySpec : ChangeSpec := { name := "bagMay", fn := fun _ => fun
  | [d] => { results := [.lit (.bool true)], args := [d] }
  | _ => none }
def bagMayRow : OpenClaim := { program := "ytngffembdhcijaa", sum := "8fc3f15a3af420900c9af7d8287df9e6991f5819575192c67732797aa699bfe7", func := "polyglot/polyglotlaw06.BagMay", spec := "bagMay", inPlace := ["slices.overlaps[polyglot/api.Field]"], apart := false }
def BagMaySaid : Prop := bagMayRow.holds Try.pinned (OpenSpec.ofChange bagMaySpec)

/-- ITS FALSE NEIGHBOUR: 'it returns false'. Refute it at one input. -/
def bagMayWrong : ChangeSpec := { name := "bagMay", fn := fun _ => fun
  | [d] => { results := [.lit (.bool false)], args := [d] }
  | _ => none }
def BagMayWrongFalsely : Prop := bagMayRow.holds Try.pinned (OpenSpec.ofChange bagMayWrong)

/-- 'polyglotlaw09.LatticeMerges': WHATEVER THE INPUT: true; the input reads as it did. -/
def latticeMergesSpec : ChangeSpec := { name := "latticeMerges", fn := fun _ => fun
  | [d1, d2] => { results := [.lit (.bool true)], args := [d1, d2] }
  | _ => none }
def latticeMergesRow : OpenClaim := { program := "ytngffembdhcijaa", sum := "8fc3f15a3af420900c9af7d8287df9e6991f5819575192c67732797aa699bfe7", func := "polyglot/polyglotlaw09.LatticeMerges", spec := "latticeMerges", unfollowed := true, recurses := true, apart := false }
def LatticeMergesSaid : Prop := latticeMergesRow.holds Try.pinned (OpenSpec.ofChange latticeMergesSpec)

/-- ITS FALSE NEIGHBOUR: 'it returns false'. Refute it at one input. -/
def latticeMergesWrong : ChangeSpec := { name := "latticeMerges", fn := fun _ => fun
  | [d1, d2] => { results := [.lit (.bool false)], args := [d1, d2] }
  | _ => none }
def LatticeMergesWrongFalsely : Prop := latticeMergesRow.holds Try.pinned (OpenSpec.ofChange latticeMergesWrong)

/-- 'polyglotlaw09.LatticeOrders': WHATEVER THE INPUT: true; the input reads as it did. -/
def latticeOrdersSpec : ChangeSpec := { name := "latticeOrders", fn := fun _ => fun
  | [d1, d2, d3] => { results := [.lit (.bool true)], args := [d1, d2, d3] }
  | _ => none }
def latticeOrdersRow : OpenClaim := { program := "ytngffembdhcijaa", sum := "8fc3f15a3af420900c9af7d8287df9e6991f5819575192c67732797aa699bfe7", func := "polyglot/polyglotlaw09.LatticeOrders", spec := "latticeOrders", unfollowed := true, recurses := true, apart := false }
def LatticeOrdersSaid : Prop := latticeOrdersRow.holds Try.pinned (OpenSpec.ofChange latticeOrdersSpec)

/-- ITS FALSE NEIGHBOUR: 'it returns false'. Refute it at one input. -/
def latticeOrdersWrong : ChangeSpec := { name := "latticeOrders", fn := fun _ => fun
  | [d1, d2, d3] => { results := [.lit (.bool false)], args := [d1, d2, d3] }
  | _ => none }
def LatticeOrdersWrongFalsely : Prop := latticeOrdersRow.holds Try.pinned (OpenSpec.ofChange latticeOrdersWrong)

/- THE SECOND FORM. 'bulk': how many values and letters a reading holds, each counted each time it is reached (what is shared counts as often as it is met; a slice's spare places count too). A statement '..UptoSaid' is the law's where the arguments, and the package variables that the reading takes, are together of bulk at most 1048576: NARROWER than '..Said'. Prove '..Said' where nothing that the law and all that it calls make is longer than what came in: it says more and counts as full. Else prove '..UptoSaid'. A law counts once. -/
mutual
def uptoBulk {H : Type} : DataW H → Nat
  | .lit (.string bytes) => bytes.length + 1
  | .lit _ => 1
  | .nil => 1
  | .ptr d => uptoBulk d + 1
  | .slice elems spare => uptoBulkAll elems + uptoBulkAll spare + 1
  | .agg parts => uptoBulkAll parts + 1
  | .iface _ d => uptoBulk d + 1
  | .map entries => uptoBulkEntries entries + 1
  | .held _ => 1
def uptoBulkAll {H : Type} : List (DataW H) → Nat
  | [] => 0
  | d :: r => uptoBulk d + uptoBulkAll r
def uptoBulkEntries {H : Type} : List (Lit × DataW H) → Nat
  | [] => 0
  | x :: r => uptoBulkEntry x + uptoBulkEntries r
def uptoBulkEntry {H : Type} : Lit × DataW H → Nat
  | (.string bytes, d) => bytes.length + uptoBulk d + 1
  | (_, d) => uptoBulk d + 1
 end
def uptoSmall : (H : Type) → List (DataW H) → Bool := fun _ ds => decide (uptoBulkAll ds ≤ 1048576)
def OpenSpec.upto (s : _root_.Go.ChangeSpec) : _root_.Go.OpenSpec := { _root_.Go.OpenSpec.ofChange s with cond := some uptoSmall }

/-- 'polyglotlaw08.RecNames', WHERE WHAT IT READS IS OF BULK AT MOST 1048576: true; the input reads as it did. -/
def recNamesUptoRow : OpenClaim := { program := "ytngffembdhcijaa", sum := "8fc3f15a3af420900c9af7d8287df9e6991f5819575192c67732797aa699bfe7", func := "polyglot/polyglotlaw08.RecNames", spec := "recNames", unfollowed := true, recurses := true, apart := false, narrowed := true }
def RecNamesUptoSaid : Prop := recNamesUptoRow.holds Try.pinned (OpenSpec.upto recNamesSpec)

/-- 'polyglotlaw09.LatticeLaws', WHERE WHAT IT READS IS OF BULK AT MOST 1048576: true; the input reads as it did. -/
def latticeLawsUptoRow : OpenClaim := { program := "ytngffembdhcijaa", sum := "8fc3f15a3af420900c9af7d8287df9e6991f5819575192c67732797aa699bfe7", func := "polyglot/polyglotlaw09.LatticeLaws", spec := "latticeLaws", apart := false, narrowed := true }
def LatticeLawsUptoSaid : Prop := latticeLawsUptoRow.holds Try.pinned (OpenSpec.upto latticeLawsSpec)

/-- 'polyglotlaw08.RecWeighs', WHERE WHAT IT READS IS OF BULK AT MOST 1048576: true; the input reads as it did. -/
def recWeighsUptoRow : OpenClaim := { program := "ytngffembdhcijaa", sum := "8fc3f15a3af420900c9af7d8287df9e6991f5819575192c67732797aa699bfe7", func := "polyglot/polyglotlaw08.RecWeighs", spec := "recWeighs", unfollowed := true, recurses := true, apart := false, narrowed := true }
def RecWeighsUptoSaid : Prop := recWeighsUptoRow.holds Try.pinned (OpenSpec.upto recWeighsSpec)

/-- 'polyglotlaw08.RecParts', WHERE WHAT IT READS IS OF BULK AT MOST 1048576: true; the input reads as it did. -/
def recPartsUptoRow : OpenClaim := { program := "ytngffembdhcijaa", sum := "8fc3f15a3af420900c9af7d8287df9e6991f5819575192c67732797aa699bfe7", func := "polyglot/polyglotlaw08.RecParts", spec := "recParts", unfollowed := true, recurses := true, apart := false, narrowed := true }
def RecPartsUptoSaid : Prop := recPartsUptoRow.holds Try.pinned (OpenSpec.upto recPartsSpec)

/-- 'polyglotlaw09.LatticeUnders', WHERE WHAT IT READS IS OF BULK AT MOST 1048576: true; the input reads as it did. -/
def latticeUndersUptoRow : OpenClaim := { program := "ytngffembdhcijaa", sum := "8fc3f15a3af420900c9af7d8287df9e6991f5819575192c67732797aa699bfe7", func := "polyglot/polyglotlaw09.LatticeUnders", spec := "latticeUnders", unfollowed := true, recurses := true, apart := false, narrowed := true }
def LatticeUndersUptoSaid : Prop := latticeUndersUptoRow.holds Try.pinned (OpenSpec.upto latticeUndersSpec)

/-- 'polyglotlaw08.RecLists', WHERE WHAT IT READS IS OF BULK AT MOST 1048576: true; the input reads as it did. -/
def recListsUptoRow : OpenClaim := { program := "ytngffembdhcijaa", sum := "8fc3f15a3af420900c9af7d8287df9e6991f5819575192c67732797aa699bfe7", func := "polyglot/polyglotlaw08.RecLists", spec := "recLists", unfollowed := true, recurses := true, apart := false, narrowed := true }
def RecListsUptoSaid : Prop := recListsUptoRow.holds Try.pinned (OpenSpec.upto recListsSpec)

/-- 'polyglotlaw06.BagPuts', WHERE WHAT IT READS IS OF BULK AT MOST 1048576: true; the input reads as it did. -/
def bagPutsUptoRow : OpenClaim := { program := "ytngffembdhcijaa", sum := "8fc3f15a3af420900c9af7d8287df9e6991f5819575192c67732797aa699bfe7", func := "polyglot/polyglotlaw06.BagPuts", spec := "bagPuts", inPlace := ["slices.overlaps[polyglot/api.Field]"], unfollowed := true, recurses := true, apart := false, narrowed := true }
def BagPutsUptoSaid : Prop := bagPutsUptoRow.holds Try.pinned (OpenSpec.upto bagPutsSpec)

/-- 'polyglotlaw06.BagChains', WHERE WHAT IT READS IS OF BULK AT MOST 1048576: true; the input reads as it did. -/
def bagChainsUptoRow : OpenClaim := { program := "ytngffembdhcijaa", sum := "8fc3f15a3af420900c9af7d8287df9e6991f5819575192c67732797aa699bfe7", func := "polyglot/polyglotlaw06.BagChains", spec := "bagChains", inPlace := ["slices.overlaps[polyglot/api.Field]"], apart := false, narrowed := true }
def BagChainsUptoSaid : Prop := bagChainsUptoRow.holds Try.pinned (OpenSpec.upto bagChainsSpec)

/-- 'polyglotlaw06.BagOrders', WHERE WHAT IT READS IS OF BULK AT MOST 1048576: true; the input reads as it did. -/
def bagOrdersUptoRow : OpenClaim := { program := "ytngffembdhcijaa", sum := "8fc3f15a3af420900c9af7d8287df9e6991f5819575192c67732797aa699bfe7", func := "polyglot/polyglotlaw06.BagOrders", spec := "bagOrders", inPlace := ["slices.overlaps[polyglot/api.Field]"], apart := false, narrowed := true }
def BagOrdersUptoSaid : Prop := bagOrdersUptoRow.holds Try.pinned (OpenSpec.upto bagOrdersSpec)

/-- 'polyglotlaw06.BagMay', WHERE WHAT IT READS IS OF BULK AT MOST 1048576: true; the input reads as it did. -/
def bagMayUptoRow : OpenClaim := { program := "ytngffembdhcijaa", sum := "8fc3f15a3af420900c9af7d8287df9e6991f5819575192c67732797aa699bfe7", func := "polyglot/polyglotlaw06.BagMay", spec := "bagMay", inPlace := ["slices.overlaps[polyglot/api.Field]"], apart := false, narrowed := true }
def BagMayUptoSaid : Prop := bagMayUptoRow.holds Try.pinned (OpenSpec.upto bagMaySpec)

/-- 'polyglotlaw09.LatticeMerges', WHERE WHAT IT READS IS OF BULK AT MOST 1048576: true; the input reads as it did. -/
def latticeMergesUptoRow : OpenClaim := { program := "ytngffembdhcijaa", sum := "8fc3f15a3af420900c9af7d8287df9e6991f5819575192c67732797aa699bfe7", func := "polyglot/polyglotlaw09.LatticeMerges", spec := "latticeMerges", unfollowed := true, recurses := true, apart := false, narrowed := true }
def LatticeMergesUptoSaid : Prop := latticeMergesUptoRow.holds Try.pinned (OpenSpec.upto latticeMergesSpec)

/-- 'polyglotlaw09.LatticeOrders', WHERE WHAT IT READS IS OF BULK AT MOST 1048576: true; the input reads as it did. -/
def latticeOrdersUptoRow : OpenClaim := { program := "ytngffembdhcijaa", sum := "8fc3f15a3af420900c9af7d8287df9e6991f5819575192c67732797aa699bfe7", func := "polyglot/polyglotlaw09.LatticeOrders", spec := "latticeOrders", unfollowed := true, recurses := true, apart := false, narrowed := true }
def LatticeOrdersUptoSaid : Prop := latticeOrdersUptoRow.holds Try.pinned (OpenSpec.upto latticeOrdersSpec)

end Rows
end Go.Proofs.Ytngffembdhcijaa
