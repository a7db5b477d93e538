/-
  No cell of these rows narrows 'for every input' (looked for: loops, veiled, ifaces, maps, wideKeys, modest, calm, conditions, laid).
  DERIVED. THE GIVEN ROWS OF THIS SEAT. 11 by the template 'for every input the law returns true; each argument reads behind the call as it read before'; 0 by the template 'total and deterministic' (their statements: YtnkcofpkmnohkaaTotals.lean).
  GIVEN WITH THE SEED: the statements are not yours to turn. If you find one false, say at which input.
  Laid BY PROGRAM, IN A SANDBOX (cutbox-rows.mjs): the forced cells as the released guide's own fill.sh prints them over the translation e340817c8b28b6ab… (all of the seat's roots in one cut). By AI agents, Wed Nov 11 2026. No macro, syntax, notation, axiom, sorry.
-/
import Derived.Test.YtnkcofpkmnohkaaChecked
import GoSem.Claim
import GoSem.ClaimJoined
import GoSem.ClaimMapViews
import Derived.JoinedTies
import Derived.KernelRfl
namespace Go.Proofs.Ytnkcofpkmnohkaa
/- THE CELL 'sum', in the pinned program and in every row, IS THE sha256 OF THE DUMP (.gsa) THAT YtnkcofpkmnohkaaProg.lean LOADS. Nothing in Lean hashes anything: it is a label: what it is worth is what the hold of that sum in a sandbox is worth. -/
noncomputable def Try.pinned : Pinned := { name := "ytnkcofpkmnohkaa", sum := "e340817c8b28b6ab880d8546e50dadb5a9afe0c4f0f205233cf68baba83ecd1a", checked := Try.checked }
namespace Rows
def none {H : Type} : Left H := { results := [], args := [] }

/-- 'polyglotlaw10.MsgMany': WHATEVER THE INPUT: true; the input reads as it did. -/
def msgManySpec : ChangeSpec := { name := "msgMany", fn := fun _ => fun
  | [d1, d2] => { results := [.lit (.bool true)], args := [d1, d2] }
  | _ => none }
def msgManyRow : OpenClaim := { program := "ytnkcofpkmnohkaa", sum := "e340817c8b28b6ab880d8546e50dadb5a9afe0c4f0f205233cf68baba83ecd1a", func := "polyglot/polyglotlaw10.MsgMany", spec := "msgMany", unfollowed := true, recurses := true, apart := false }
def MsgManySaid : Prop := msgManyRow.holds Try.pinned (OpenSpec.ofChange msgManySpec)

/-- ITS FALSE NEIGHBOUR: 'it returns false'. Refute it at one input. -/
def msgManyWrong : ChangeSpec := { name := "msgMany", fn := fun _ => fun
  | [d1, d2] => { results := [.lit (.bool false)], args := [d1, d2] }
  | _ => none }
def MsgManyWrongFalsely : Prop := msgManyRow.holds Try.pinned (OpenSpec.ofChange msgManyWrong)

/-- 'polyglotlaw10.MsgParts': WHATEVER THE INPUT: true; the input reads as it did. -/
def msgPartsSpec : ChangeSpec := { name := "msgParts", fn := fun _ => fun
  | [d1, d2, d3] => { results := [.lit (.bool true)], args := [d1, d2, d3] }
  | _ => none }
def msgPartsRow : OpenClaim := { program := "ytnkcofpkmnohkaa", sum := "e340817c8b28b6ab880d8546e50dadb5a9afe0c4f0f205233cf68baba83ecd1a", func := "polyglot/polyglotlaw10.MsgParts", spec := "msgParts", unfollowed := true, recurses := true, apart := false }
def MsgPartsSaid : Prop := msgPartsRow.holds Try.pinned (OpenSpec.ofChange msgPartsSpec)

/-- ITS FALSE NEIGHBOUR: 'it returns false'. Refute it at one input. -/
def msgPartsWrong : ChangeSpec := { name := "msgParts", fn := fun _ => fun
  | [d1, d2, d3] => { results := [.lit (.bool false)], args := [d1, d2, d3] }
  | _ => none }
def MsgPartsWrongFalsely : Prop := msgPartsRow.holds Try.pinned (OpenSpec.ofChange msgPartsWrong)

/-- 'polyglotlaw18.CarryPaths': WHATEVER THE INPUT: true; the input reads as it did. -/
def carryPathsSpec : ChangeSpec := { name := "carryPaths", fn := fun _ => fun
  | [d1, d2] => { results := [.lit (.bool true)], args := [d1, d2] }
  | _ => none }
def carryPathsRow : OpenClaim := { program := "ytnkcofpkmnohkaa", sum := "e340817c8b28b6ab880d8546e50dadb5a9afe0c4f0f205233cf68baba83ecd1a", func := "polyglot/polyglotlaw18.CarryPaths", spec := "carryPaths", apart := false }
def CarryPathsSaid : Prop := carryPathsRow.holds Try.pinned (OpenSpec.ofChange carryPathsSpec)

/-- ITS FALSE NEIGHBOUR: 'it returns false'. Refute it at one input. -/
def carryPathsWrong : ChangeSpec := { name := "carryPaths", fn := fun _ => fun
  | [d1, d2] => { results := [.lit (.bool false)], args := [d1, d2] }
  | _ => none }
def CarryPathsWrongFalsely : Prop := carryPathsRow.holds Try.pinned (OpenSpec.ofChange carryPathsWrong)

/-- 'polyglotlaw18.CarryOrders': WHATEVER THE INPUT: true; the input reads as it did. -/
def carryOrdersSpec : ChangeSpec := { name := "carryOrders", fn := fun _ => fun
  | [d1, d2, d3] => { results := [.lit (.bool true)], args := [d1, d2, d3] }
  | _ => none }
def carryOrdersRow : OpenClaim := { program := "ytnkcofpkmnohkaa", sum := "e340817c8b28b6ab880d8546e50dadb5a9afe0c4f0f205233cf68baba83ecd1a", func := "polyglot/polyglotlaw18.CarryOrders", spec := "carryOrders", apart := false }
def CarryOrdersSaid : Prop := carryOrdersRow.holds Try.pinned (OpenSpec.ofChange carryOrdersSpec)

/-- ITS FALSE NEIGHBOUR: 'it returns false'. Refute it at one input. -/
def carryOrdersWrong : ChangeSpec := { name := "carryOrders", fn := fun _ => fun
  | [d1, d2, d3] => { results := [.lit (.bool false)], args := [d1, d2, d3] }
  | _ => none }
def CarryOrdersWrongFalsely : Prop := carryOrdersRow.holds Try.pinned (OpenSpec.ofChange carryOrdersWrong)

/-- 'polyglotlaw18.CarryTakes': WHATEVER THE INPUT: true; the input reads as it did. -/
def carryTakesSpec : ChangeSpec := { name := "carryTakes", fn := fun _ => fun
  | [d1, d2] => { results := [.lit (.bool true)], args := [d1, d2] }
  | _ => none }
def carryTakesRow : OpenClaim := { program := "ytnkcofpkmnohkaa", sum := "e340817c8b28b6ab880d8546e50dadb5a9afe0c4f0f205233cf68baba83ecd1a", func := "polyglot/polyglotlaw18.CarryTakes", spec := "carryTakes", apart := false }
def CarryTakesSaid : Prop := carryTakesRow.holds Try.pinned (OpenSpec.ofChange carryTakesSpec)

/-- ITS FALSE NEIGHBOUR: 'it returns false'. Refute it at one input. -/
def carryTakesWrong : ChangeSpec := { name := "carryTakes", fn := fun _ => fun
  | [d1, d2] => { results := [.lit (.bool false)], args := [d1, d2] }
  | _ => none }
def CarryTakesWrongFalsely : Prop := carryTakesRow.holds Try.pinned (OpenSpec.ofChange carryTakesWrong)

/-- 'polyglotlaw18.CarryKeeps': WHATEVER THE INPUT: true; the input reads as it did. -/
def carryKeepsSpec : ChangeSpec := { name := "carryKeeps", fn := fun _ => fun
  | [d1, d2] => { results := [.lit (.bool true)], args := [d1, d2] }
  | _ => none }
def carryKeepsRow : OpenClaim := { program := "ytnkcofpkmnohkaa", sum := "e340817c8b28b6ab880d8546e50dadb5a9afe0c4f0f205233cf68baba83ecd1a", func := "polyglot/polyglotlaw18.CarryKeeps", spec := "carryKeeps", apart := false }
def CarryKeepsSaid : Prop := carryKeepsRow.holds Try.pinned (OpenSpec.ofChange carryKeepsSpec)

/-- ITS FALSE NEIGHBOUR: 'it returns false'. Refute it at one input. -/
def carryKeepsWrong : ChangeSpec := { name := "carryKeeps", fn := fun _ => fun
  | [d1, d2] => { results := [.lit (.bool false)], args := [d1, d2] }
  | _ => none }
def CarryKeepsWrongFalsely : Prop := carryKeepsRow.holds Try.pinned (OpenSpec.ofChange carryKeepsWrong)

/-- 'polyglotlaw10.MsgMay': WHATEVER THE INPUT: true; the input reads as it did. -/
def msgMaySpec : ChangeSpec := { name := "msgMay", fn := fun _ => fun
  | [d] => { results := [.lit (.bool true)], args := [d] }
  | _ => none }
def msgMayRow : OpenClaim := { program := "ytnkcofpkmnohkaa", sum := "e340817c8b28b6ab880d8546e50dadb5a9afe0c4f0f205233cf68baba83ecd1a", func := "polyglot/polyglotlaw10.MsgMay", spec := "msgMay", unfollowed := true, recurses := true, apart := false }
def MsgMaySaid : Prop := msgMayRow.holds Try.pinned (OpenSpec.ofChange msgMaySpec)

/-- ITS FALSE NEIGHBOUR: 'it returns false'. Refute it at one input. -/
def msgMayWrong : ChangeSpec := { name := "msgMay", fn := fun _ => fun
  | [d] => { results := [.lit (.bool false)], args := [d] }
  | _ => none }
def MsgMayWrongFalsely : Prop := msgMayRow.holds Try.pinned (OpenSpec.ofChange msgMayWrong)

/-- 'polyglotlaw10.MsgSames': WHATEVER THE INPUT: true; the input reads as it did. -/
def msgSamesSpec : ChangeSpec := { name := "msgSames", fn := fun _ => fun
  | [d1, d2] => { results := [.lit (.bool true)], args := [d1, d2] }
  | _ => none }
def msgSamesRow : OpenClaim := { program := "ytnkcofpkmnohkaa", sum := "e340817c8b28b6ab880d8546e50dadb5a9afe0c4f0f205233cf68baba83ecd1a", func := "polyglot/polyglotlaw10.MsgSames", spec := "msgSames", unfollowed := true, recurses := true, apart := false }
def MsgSamesSaid : Prop := msgSamesRow.holds Try.pinned (OpenSpec.ofChange msgSamesSpec)

/-- ITS FALSE NEIGHBOUR: 'it returns false'. Refute it at one input. -/
def msgSamesWrong : ChangeSpec := { name := "msgSames", fn := fun _ => fun
  | [d1, d2] => { results := [.lit (.bool false)], args := [d1, d2] }
  | _ => none }
def MsgSamesWrongFalsely : Prop := msgSamesRow.holds Try.pinned (OpenSpec.ofChange msgSamesWrong)

/-- 'polyglotlaw14.DeltaDiffs': WHATEVER THE INPUT: true; the input reads as it did. -/
def deltaDiffsSpec : ChangeSpec := { name := "deltaDiffs", fn := fun _ => fun
  | [d1, d2] => { results := [.lit (.bool true)], args := [d1, d2] }
  | _ => none }
def deltaDiffsRow : OpenClaim := { program := "ytnkcofpkmnohkaa", sum := "e340817c8b28b6ab880d8546e50dadb5a9afe0c4f0f205233cf68baba83ecd1a", func := "polyglot/polyglotlaw14.DeltaDiffs", spec := "deltaDiffs", unfollowed := true, recurses := true, apart := false }
def DeltaDiffsSaid : Prop := deltaDiffsRow.holds Try.pinned (OpenSpec.ofChange deltaDiffsSpec)

/-- ITS FALSE NEIGHBOUR: 'it returns false'. Refute it at one input. -/
def deltaDiffsWrong : ChangeSpec := { name := "deltaDiffs", fn := fun _ => fun
  | [d1, d2] => { results := [.lit (.bool false)], args := [d1, d2] }
  | _ => none }
def DeltaDiffsWrongFalsely : Prop := deltaDiffsRow.holds Try.pinned (OpenSpec.ofChange deltaDiffsWrong)

/-- 'polyglotlaw14.DeltaBack': WHATEVER THE INPUT: true; the input reads as it did. -/
def deltaBackSpec : ChangeSpec := { name := "deltaBack", fn := fun _ => fun
  | [d1, d2, d3] => { results := [.lit (.bool true)], args := [d1, d2, d3] }
  | _ => none }
def deltaBackRow : OpenClaim := { program := "ytnkcofpkmnohkaa", sum := "e340817c8b28b6ab880d8546e50dadb5a9afe0c4f0f205233cf68baba83ecd1a", func := "polyglot/polyglotlaw14.DeltaBack", spec := "deltaBack", unfollowed := true, recurses := true, apart := false }
def DeltaBackSaid : Prop := deltaBackRow.holds Try.pinned (OpenSpec.ofChange deltaBackSpec)

/-- ITS FALSE NEIGHBOUR: 'it returns false'. Refute it at one input. -/
def deltaBackWrong : ChangeSpec := { name := "deltaBack", fn := fun _ => fun
  | [d1, d2, d3] => { results := [.lit (.bool false)], args := [d1, d2, d3] }
  | _ => none }
def DeltaBackWrongFalsely : Prop := deltaBackRow.holds Try.pinned (OpenSpec.ofChange deltaBackWrong)

/-- 'polyglotlaw14.DeltaLays': WHATEVER THE INPUT: true; the input reads as it did. -/
def deltaLaysSpec : ChangeSpec := { name := "deltaLays", fn := fun _ => fun
  | [d1, d2] => { results := [.lit (.bool true)], args := [d1, d2] }
  | _ => none }
def deltaLaysRow : OpenClaim := { program := "ytnkcofpkmnohkaa", sum := "e340817c8b28b6ab880d8546e50dadb5a9afe0c4f0f205233cf68baba83ecd1a", func := "polyglot/polyglotlaw14.DeltaLays", spec := "deltaLays", unfollowed := true, recurses := true, apart := false }
def DeltaLaysSaid : Prop := deltaLaysRow.holds Try.pinned (OpenSpec.ofChange deltaLaysSpec)

/-- ITS FALSE NEIGHBOUR: 'it returns false'. Refute it at one input. -/
def deltaLaysWrong : ChangeSpec := { name := "deltaLays", fn := fun _ => fun
  | [d1, d2] => { results := [.lit (.bool false)], args := [d1, d2] }
  | _ => none }
def DeltaLaysWrongFalsely : Prop := deltaLaysRow.holds Try.pinned (OpenSpec.ofChange deltaLaysWrong)

/- THE SECOND FORM. 'bulk': how many values and letters a reading holds, each counted each time it is reached (what is shared counts as often as it is met; a slice's spare places count too). A statement '..UptoSaid' is the law's where the arguments, and the package variables that the reading takes, are together of bulk at most 1048576: NARROWER than '..Said'. Prove '..Said' where nothing that the law and all that it calls make is longer than what came in: it says more and counts as full. Else prove '..UptoSaid'. A law counts once. -/
mutual
def uptoBulk {H : Type} : DataW H → Nat
  | .lit (.string bytes) => bytes.length + 1
  | .lit _ => 1
  | .nil => 1
  | .ptr d => uptoBulk d + 1
  | .slice elems spare => uptoBulkAll elems + uptoBulkAll spare + 1
  | .agg parts => uptoBulkAll parts + 1
  | .iface _ d => uptoBulk d + 1
  | .map entries => uptoBulkEntries entries + 1
  | .held _ => 1
def uptoBulkAll {H : Type} : List (DataW H) → Nat
  | [] => 0
  | d :: r => uptoBulk d + uptoBulkAll r
def uptoBulkEntries {H : Type} : List (Lit × DataW H) → Nat
  | [] => 0
  | x :: r => uptoBulkEntry x + uptoBulkEntries r
def uptoBulkEntry {H : Type} : Lit × DataW H → Nat
  | (.string bytes, d) => bytes.length + uptoBulk d + 1
  | (_, d) => uptoBulk d + 1
 end
def uptoSmall : (H : Type) → List (DataW H) → Bool := fun _ ds => decide (uptoBulkAll ds ≤ 1048576)
def OpenSpec.upto (s : _root_.Go.ChangeSpec) : _root_.Go.OpenSpec := { _root_.Go.OpenSpec.ofChange s with cond := some uptoSmall }

/-- 'polyglotlaw10.MsgMany', WHERE WHAT IT READS IS OF BULK AT MOST 1048576: true; the input reads as it did. -/
def msgManyUptoRow : OpenClaim := { program := "ytnkcofpkmnohkaa", sum := "e340817c8b28b6ab880d8546e50dadb5a9afe0c4f0f205233cf68baba83ecd1a", func := "polyglot/polyglotlaw10.MsgMany", spec := "msgMany", unfollowed := true, recurses := true, apart := false, narrowed := true }
def MsgManyUptoSaid : Prop := msgManyUptoRow.holds Try.pinned (OpenSpec.upto msgManySpec)

/-- 'polyglotlaw10.MsgParts', WHERE WHAT IT READS IS OF BULK AT MOST 1048576: true; the input reads as it did. -/
def msgPartsUptoRow : OpenClaim := { program := "ytnkcofpkmnohkaa", sum := "e340817c8b28b6ab880d8546e50dadb5a9afe0c4f0f205233cf68baba83ecd1a", func := "polyglot/polyglotlaw10.MsgParts", spec := "msgParts", unfollowed := true, recurses := true, apart := false, narrowed := true }
def MsgPartsUptoSaid : Prop := msgPartsUptoRow.holds Try.pinned (OpenSpec.upto msgPartsSpec)

/-- 'polyglotlaw18.CarryPaths', WHERE WHAT IT READS IS OF BULK AT MOST 1048576: true; the input reads as it did. -/
def carryPathsUptoRow : OpenClaim := { program := "ytnkcofpkmnohkaa", sum := "e340817c8b28b6ab880d8546e50dadb5a9afe0c4f0f205233cf68baba83ecd1a", func := "polyglot/polyglotlaw18.CarryPaths", spec := "carryPaths", apart := false, narrowed := true }
def CarryPathsUptoSaid : Prop := carryPathsUptoRow.holds Try.pinned (OpenSpec.upto carryPathsSpec)

/-- 'polyglotlaw18.CarryOrders', WHERE WHAT IT READS IS OF BULK AT MOST 1048576: true; the input reads as it did. -/
def carryOrdersUptoRow : OpenClaim := { program := "ytnkcofpkmnohkaa", sum := "e340817c8b28b6ab880d8546e50dadb5a9afe0c4f0f205233cf68baba83ecd1a", func := "polyglot/polyglotlaw18.CarryOrders", spec := "carryOrders", apart := false, narrowed := true }
def CarryOrdersUptoSaid : Prop := carryOrdersUptoRow.holds Try.pinned (OpenSpec.upto carryOrdersSpec)

/-- 'polyglotlaw18.CarryTakes', WHERE WHAT IT READS IS OF BULK AT MOST 1048576: true; the input reads as it did. -/
def carryTakesUptoRow : OpenClaim := { program := "ytnkcofpkmnohkaa", sum := "e340817c8b28b6ab880d8546e50dadb5a9afe0c4f0f205233cf68baba83ecd1a", func := "polyglot/polyglotlaw18.CarryTakes", spec := "carryTakes", apart := false, narrowed := true }
def CarryTakesUptoSaid : Prop := carryTakesUptoRow.holds Try.pinned (OpenSpec.upto carryTakesSpec)

/-- 'polyglotlaw18.CarryKeeps', WHERE WHAT IT READS IS OF BULK AT MOST 1048576: true; the input reads as it did. -/
def carryKeepsUptoRow : OpenClaim := { program := "ytnkcofpkmnohkaa", sum := "e340817c8b28b6ab880d8546e50dadb5a9afe0c4f0f205233cf68baba83ecd1a", func := "polyglot/polyglotlaw18.CarryKeeps", spec := "carryKeeps", apart := false, narrowed := true }
def CarryKeepsUptoSaid : Prop := carryKeepsUptoRow.holds Try.pinned (OpenSpec.upto carryKeepsSpec)

/-- 'polyglotlaw10.MsgMay', WHERE WHAT IT READS IS OF BULK AT MOST 1048576: true; the input reads as it did. -/
def msgMayUptoRow : OpenClaim := { program := "ytnkcofpkmnohkaa", sum := "e340817c8b28b6ab880d8546e50dadb5a9afe0c4f0f205233cf68baba83ecd1a", func := "polyglot/polyglotlaw10.MsgMay", spec := "msgMay", unfollowed := true, recurses := true, apart := false, narrowed := true }
def MsgMayUptoSaid : Prop := msgMayUptoRow.holds Try.pinned (OpenSpec.upto msgMaySpec)

/-- 'polyglotlaw10.MsgSames', WHERE WHAT IT READS IS OF BULK AT MOST 1048576: true; the input reads as it did. -/
def msgSamesUptoRow : OpenClaim := { program := "ytnkcofpkmnohkaa", sum := "e340817c8b28b6ab880d8546e50dadb5a9afe0c4f0f205233cf68baba83ecd1a", func := "polyglot/polyglotlaw10.MsgSames", spec := "msgSames", unfollowed := true, recurses := true, apart := false, narrowed := true }
def MsgSamesUptoSaid : Prop := msgSamesUptoRow.holds Try.pinned (OpenSpec.upto msgSamesSpec)

/-- 'polyglotlaw14.DeltaDiffs', WHERE WHAT IT READS IS OF BULK AT MOST 1048576: true; the input reads as it did. -/
def deltaDiffsUptoRow : OpenClaim := { program := "ytnkcofpkmnohkaa", sum := "e340817c8b28b6ab880d8546e50dadb5a9afe0c4f0f205233cf68baba83ecd1a", func := "polyglot/polyglotlaw14.DeltaDiffs", spec := "deltaDiffs", unfollowed := true, recurses := true, apart := false, narrowed := true }
def DeltaDiffsUptoSaid : Prop := deltaDiffsUptoRow.holds Try.pinned (OpenSpec.upto deltaDiffsSpec)

/-- 'polyglotlaw14.DeltaBack', WHERE WHAT IT READS IS OF BULK AT MOST 1048576: true; the input reads as it did. -/
def deltaBackUptoRow : OpenClaim := { program := "ytnkcofpkmnohkaa", sum := "e340817c8b28b6ab880d8546e50dadb5a9afe0c4f0f205233cf68baba83ecd1a", func := "polyglot/polyglotlaw14.DeltaBack", spec := "deltaBack", unfollowed := true, recurses := true, apart := false, narrowed := true }
def DeltaBackUptoSaid : Prop := deltaBackUptoRow.holds Try.pinned (OpenSpec.upto deltaBackSpec)

/-- 'polyglotlaw14.DeltaLays', WHERE WHAT IT READS IS OF BULK AT MOST 1048576: true; the input reads as it did. -/
def deltaLaysUptoRow : OpenClaim := { program := "ytnkcofpkmnohkaa", sum := "e340817c8b28b6ab880d8546e50dadb5a9afe0c4f0f205233cf68baba83ecd1a", func := "polyglot/polyglotlaw14.DeltaLays", spec := "deltaLays", unfollowed := true, recurses := true, apart := false, narrowed := true }
def DeltaLaysUptoSaid : Prop := deltaLaysUptoRow.holds Try.pinned (OpenSpec.upto deltaLaysSpec)

end Rows
end Go.Proofs.Ytnkcofpkmnohkaa
