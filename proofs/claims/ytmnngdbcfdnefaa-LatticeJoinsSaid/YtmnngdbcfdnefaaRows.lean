/-
  No cell of these rows narrows 'for every input' (looked for: loops, veiled, ifaces, maps, wideKeys, modest, calm, conditions, laid).
  DERIVED. THE GIVEN ROWS OF THIS SEAT. 12 by the template 'for every input the law returns true; each argument reads behind the call as it read before'; 0 by the template 'total and deterministic' (their statements: YtmnngdbcfdnefaaTotals.lean).
  GIVEN WITH THE SEED: the statements are not yours to turn. If you find one false, say at which input.
  Laid BY PROGRAM, IN A SANDBOX (cutbox-rows.mjs): the forced cells as the released guide's own fill.sh prints them over the translation cae1e9cc13424609… (all of the seat's roots in one cut). By AI agents, Wed Nov 11 2026. No macro, syntax, notation, axiom, sorry.
-/
import Derived.Test.YtmnngdbcfdnefaaChecked
import GoSem.Claim
import GoSem.ClaimJoined
import GoSem.ClaimMapViews
import Derived.JoinedTies
import Derived.KernelRfl
namespace Go.Proofs.Ytmnngdbcfdnefaa
/- THE CELL 'sum', in the pinned program and in every row, IS THE sha256 OF THE DUMP (.gsa) THAT YtmnngdbcfdnefaaProg.lean LOADS. Nothing in Lean hashes anything: it is a label: what it is worth is what the hold of that sum in a sandbox is worth. -/
noncomputable def Try.pinned : Pinned := { name := "ytmnngdbcfdnefaa", sum := "cae1e9cc1342460909f6d0cb9ddb8b0a7837160dbd5bf1e4ef2fa21b32413f86", checked := Try.checked }
namespace Rows
def none {H : Type} : Left H := { results := [], args := [] }

/-- 'polyglotlaw19.DiceKeeps': WHATEVER THE INPUT: true; the input reads as it did. -/
def diceKeepsSpec : ChangeSpec := { name := "diceKeeps", fn := fun _ => fun
  | [d1, d2] => { results := [.lit (.bool true)], args := [d1, d2] }
  | _ => none }
def diceKeepsRow : OpenClaim := { program := "ytmnngdbcfdnefaa", sum := "cae1e9cc1342460909f6d0cb9ddb8b0a7837160dbd5bf1e4ef2fa21b32413f86", func := "polyglot/polyglotlaw19.DiceKeeps", spec := "diceKeeps", apart := false }
def DiceKeepsSaid : Prop := diceKeepsRow.holds Try.pinned (OpenSpec.ofChange diceKeepsSpec)

/-- ITS FALSE NEIGHBOUR: 'it returns false'. Refute it at one input. -/
def diceKeepsWrong : ChangeSpec := { name := "diceKeeps", fn := fun _ => fun
  | [d1, d2] => { results := [.lit (.bool false)], args := [d1, d2] }
  | _ => none }
def DiceKeepsWrongFalsely : Prop := diceKeepsRow.holds Try.pinned (OpenSpec.ofChange diceKeepsWrong)

/-- 'polyglotlaw19.DiceDraws': WHATEVER THE INPUT: true; the input reads as it did. -/
def diceDrawsSpec : ChangeSpec := { name := "diceDraws", fn := fun _ => fun
  | [d1, d2] => { results := [.lit (.bool true)], args := [d1, d2] }
  | _ => none }
def diceDrawsRow : OpenClaim := { program := "ytmnngdbcfdnefaa", sum := "cae1e9cc1342460909f6d0cb9ddb8b0a7837160dbd5bf1e4ef2fa21b32413f86", func := "polyglot/polyglotlaw19.DiceDraws", spec := "diceDraws", apart := false }
def DiceDrawsSaid : Prop := diceDrawsRow.holds Try.pinned (OpenSpec.ofChange diceDrawsSpec)

/-- ITS FALSE NEIGHBOUR: 'it returns false'. Refute it at one input. -/
def diceDrawsWrong : ChangeSpec := { name := "diceDraws", fn := fun _ => fun
  | [d1, d2] => { results := [.lit (.bool false)], args := [d1, d2] }
  | _ => none }
def DiceDrawsWrongFalsely : Prop := diceDrawsRow.holds Try.pinned (OpenSpec.ofChange diceDrawsWrong)

/-- 'polyglotlaw19.DiceShuffles': WHATEVER THE INPUT: true; the input reads as it did. -/
def diceShufflesSpec : ChangeSpec := { name := "diceShuffles", fn := fun _ => fun
  | [d1, d2, d3] => { results := [.lit (.bool true)], args := [d1, d2, d3] }
  | _ => none }
def diceShufflesRow : OpenClaim := { program := "ytmnngdbcfdnefaa", sum := "cae1e9cc1342460909f6d0cb9ddb8b0a7837160dbd5bf1e4ef2fa21b32413f86", func := "polyglot/polyglotlaw19.DiceShuffles", spec := "diceShuffles", apart := false }
def DiceShufflesSaid : Prop := diceShufflesRow.holds Try.pinned (OpenSpec.ofChange diceShufflesSpec)

/-- ITS FALSE NEIGHBOUR: 'it returns false'. Refute it at one input. -/
def diceShufflesWrong : ChangeSpec := { name := "diceShuffles", fn := fun _ => fun
  | [d1, d2, d3] => { results := [.lit (.bool false)], args := [d1, d2, d3] }
  | _ => none }
def DiceShufflesWrongFalsely : Prop := diceShufflesRow.holds Try.pinned (OpenSpec.ofChange diceShufflesWrong)

/-- 'polyglotlaw23.PeersChoose': WHATEVER THE INPUT: true; the input reads as it did. -/
def peersChooseSpec : ChangeSpec := { name := "peersChoose", fn := fun _ => fun
  | [d1, d2, d3] => { results := [.lit (.bool true)], args := [d1, d2, d3] }
  | _ => none }
def peersChooseRow : OpenClaim := { program := "ytmnngdbcfdnefaa", sum := "cae1e9cc1342460909f6d0cb9ddb8b0a7837160dbd5bf1e4ef2fa21b32413f86", func := "polyglot/polyglotlaw23.PeersChoose", spec := "peersChoose", apart := false }
def PeersChooseSaid : Prop := peersChooseRow.holds Try.pinned (OpenSpec.ofChange peersChooseSpec)

/-- ITS FALSE NEIGHBOUR: 'it returns false'. Refute it at one input. -/
def peersChooseWrong : ChangeSpec := { name := "peersChoose", fn := fun _ => fun
  | [d1, d2, d3] => { results := [.lit (.bool false)], args := [d1, d2, d3] }
  | _ => none }
def PeersChooseWrongFalsely : Prop := peersChooseRow.holds Try.pinned (OpenSpec.ofChange peersChooseWrong)

/-- 'polyglotlaw23.PeersAgree': WHATEVER THE INPUT: true; the input reads as it did. -/
def peersAgreeSpec : ChangeSpec := { name := "peersAgree", fn := fun _ => fun
  | [d1, d2, d3, d4] => { results := [.lit (.bool true)], args := [d1, d2, d3, d4] }
  | _ => none }
def peersAgreeRow : OpenClaim := { program := "ytmnngdbcfdnefaa", sum := "cae1e9cc1342460909f6d0cb9ddb8b0a7837160dbd5bf1e4ef2fa21b32413f86", func := "polyglot/polyglotlaw23.PeersAgree", spec := "peersAgree", apart := false }
def PeersAgreeSaid : Prop := peersAgreeRow.holds Try.pinned (OpenSpec.ofChange peersAgreeSpec)

/-- ITS FALSE NEIGHBOUR: 'it returns false'. Refute it at one input. -/
def peersAgreeWrong : ChangeSpec := { name := "peersAgree", fn := fun _ => fun
  | [d1, d2, d3, d4] => { results := [.lit (.bool false)], args := [d1, d2, d3, d4] }
  | _ => none }
def PeersAgreeWrongFalsely : Prop := peersAgreeRow.holds Try.pinned (OpenSpec.ofChange peersAgreeWrong)

/-- 'polyglotlaw08.RecNames': WHATEVER THE INPUT: true; the input reads as it did. -/
def recNamesSpec : ChangeSpec := { name := "recNames", fn := fun _ => fun
  | [d1, d2] => { results := [.lit (.bool true)], args := [d1, d2] }
  | _ => none }
def recNamesRow : OpenClaim := { program := "ytmnngdbcfdnefaa", sum := "cae1e9cc1342460909f6d0cb9ddb8b0a7837160dbd5bf1e4ef2fa21b32413f86", func := "polyglot/polyglotlaw08.RecNames", spec := "recNames", unfollowed := true, recurses := true, apart := false }
def RecNamesSaid : Prop := recNamesRow.holds Try.pinned (OpenSpec.ofChange recNamesSpec)

/-- ITS FALSE NEIGHBOUR: 'it returns false'. Refute it at one input. -/
def recNamesWrong : ChangeSpec := { name := "recNames", fn := fun _ => fun
  | [d1, d2] => { results := [.lit (.bool false)], args := [d1, d2] }
  | _ => none }
def RecNamesWrongFalsely : Prop := recNamesRow.holds Try.pinned (OpenSpec.ofChange recNamesWrong)

/-- 'polyglotlaw10.MsgMany': WHATEVER THE INPUT: true; the input reads as it did. -/
def msgManySpec : ChangeSpec := { name := "msgMany", fn := fun _ => fun
  | [d1, d2] => { results := [.lit (.bool true)], args := [d1, d2] }
  | _ => none }
def msgManyRow : OpenClaim := { program := "ytmnngdbcfdnefaa", sum := "cae1e9cc1342460909f6d0cb9ddb8b0a7837160dbd5bf1e4ef2fa21b32413f86", func := "polyglot/polyglotlaw10.MsgMany", spec := "msgMany", unfollowed := true, recurses := true, apart := false }
def MsgManySaid : Prop := msgManyRow.holds Try.pinned (OpenSpec.ofChange msgManySpec)

/-- ITS FALSE NEIGHBOUR: 'it returns false'. Refute it at one input. -/
def msgManyWrong : ChangeSpec := { name := "msgMany", fn := fun _ => fun
  | [d1, d2] => { results := [.lit (.bool false)], args := [d1, d2] }
  | _ => none }
def MsgManyWrongFalsely : Prop := msgManyRow.holds Try.pinned (OpenSpec.ofChange msgManyWrong)

/-- 'polyglotlaw10.MsgParts': WHATEVER THE INPUT: true; the input reads as it did. -/
def msgPartsSpec : ChangeSpec := { name := "msgParts", fn := fun _ => fun
  | [d1, d2, d3] => { results := [.lit (.bool true)], args := [d1, d2, d3] }
  | _ => none }
def msgPartsRow : OpenClaim := { program := "ytmnngdbcfdnefaa", sum := "cae1e9cc1342460909f6d0cb9ddb8b0a7837160dbd5bf1e4ef2fa21b32413f86", func := "polyglot/polyglotlaw10.MsgParts", spec := "msgParts", unfollowed := true, recurses := true, apart := false }
def MsgPartsSaid : Prop := msgPartsRow.holds Try.pinned (OpenSpec.ofChange msgPartsSpec)

/-- ITS FALSE NEIGHBOUR: 'it returns false'. Refute it at one input. -/
def msgPartsWrong : ChangeSpec := { name := "msgParts", fn := fun _ => fun
  | [d1, d2, d3] => { results := [.lit (.bool false)], args := [d1, d2, d3] }
  | _ => none }
def MsgPartsWrongFalsely : Prop := msgPartsRow.holds Try.pinned (OpenSpec.ofChange msgPartsWrong)

/-- 'polyglotlaw09.LatticeJoins': WHATEVER THE INPUT: true; the input reads as it did. -/
def latticeJoinsSpec : ChangeSpec := { name := "latticeJoins", fn := fun _ => fun
  | [d1, d2] => { results := [.lit (.bool true)], args := [d1, d2] }
  | _ => none }
def latticeJoinsRow : OpenClaim := { program := "ytmnngdbcfdnefaa", sum := "cae1e9cc1342460909f6d0cb9ddb8b0a7837160dbd5bf1e4ef2fa21b32413f86", func := "polyglot/polyglotlaw09.LatticeJoins", spec := "latticeJoins", apart := false }
def LatticeJoinsSaid : Prop := latticeJoinsRow.holds Try.pinned (OpenSpec.ofChange latticeJoinsSpec)

/-- ITS FALSE NEIGHBOUR: 'it returns false'. Refute it at one input. -/
def latticeJoinsWrong : ChangeSpec := { name := "latticeJoins", fn := fun _ => fun
  | [d1, d2] => { results := [.lit (.bool false)], args := [d1, d2] }
  | _ => none }
def LatticeJoinsWrongFalsely : Prop := latticeJoinsRow.holds Try.pinned (OpenSpec.ofChange latticeJoinsWrong)

/-- 'polyglotlaw09.LatticeLaws': WHATEVER THE INPUT: true; the input reads as it did. -/
def latticeLawsSpec : ChangeSpec := { name := "latticeLaws", fn := fun _ => fun
  | [d1, d2, d3] => { results := [.lit (.bool true)], args := [d1, d2, d3] }
  | _ => none }
def latticeLawsRow : OpenClaim := { program := "ytmnngdbcfdnefaa", sum := "cae1e9cc1342460909f6d0cb9ddb8b0a7837160dbd5bf1e4ef2fa21b32413f86", func := "polyglot/polyglotlaw09.LatticeLaws", spec := "latticeLaws", apart := false }
def LatticeLawsSaid : Prop := latticeLawsRow.holds Try.pinned (OpenSpec.ofChange latticeLawsSpec)

/-- ITS FALSE NEIGHBOUR: 'it returns false'. Refute it at one input. -/
def latticeLawsWrong : ChangeSpec := { name := "latticeLaws", fn := fun _ => fun
  | [d1, d2, d3] => { results := [.lit (.bool false)], args := [d1, d2, d3] }
  | _ => none }
def LatticeLawsWrongFalsely : Prop := latticeLawsRow.holds Try.pinned (OpenSpec.ofChange latticeLawsWrong)

/-- 'polyglotlaw18.CarryPaths': WHATEVER THE INPUT: true; the input reads as it did. -/
def carryPathsSpec : ChangeSpec := { name := "carryPaths", fn := fun _ => fun
  | [d1, d2] => { results := [.lit (.bool true)], args := [d1, d2] }
  | _ => none }
def carryPathsRow : OpenClaim := { program := "ytmnngdbcfdnefaa", sum := "cae1e9cc1342460909f6d0cb9ddb8b0a7837160dbd5bf1e4ef2fa21b32413f86", func := "polyglot/polyglotlaw18.CarryPaths", spec := "carryPaths", apart := false }
def CarryPathsSaid : Prop := carryPathsRow.holds Try.pinned (OpenSpec.ofChange carryPathsSpec)

/-- ITS FALSE NEIGHBOUR: 'it returns false'. Refute it at one input. -/
def carryPathsWrong : ChangeSpec := { name := "carryPaths", fn := fun _ => fun
  | [d1, d2] => { results := [.lit (.bool false)], args := [d1, d2] }
  | _ => none }
def CarryPathsWrongFalsely : Prop := carryPathsRow.holds Try.pinned (OpenSpec.ofChange carryPathsWrong)

/-- 'polyglotlaw18.CarryOrders': WHATEVER THE INPUT: true; the input reads as it did. -/
def carryOrdersSpec : ChangeSpec := { name := "carryOrders", fn := fun _ => fun
  | [d1, d2, d3] => { results := [.lit (.bool true)], args := [d1, d2, d3] }
  | _ => none }
def carryOrdersRow : OpenClaim := { program := "ytmnngdbcfdnefaa", sum := "cae1e9cc1342460909f6d0cb9ddb8b0a7837160dbd5bf1e4ef2fa21b32413f86", func := "polyglot/polyglotlaw18.CarryOrders", spec := "carryOrders", apart := false }
def CarryOrdersSaid : Prop := carryOrdersRow.holds Try.pinned (OpenSpec.ofChange carryOrdersSpec)

/-- ITS FALSE NEIGHBOUR: 'it returns false'. Refute it at one input. -/
def carryOrdersWrong : ChangeSpec := { name := "carryOrders", fn := fun _ => fun
  | [d1, d2, d3] => { results := [.lit (.bool false)], args := [d1, d2, d3] }
  | _ => none }
def CarryOrdersWrongFalsely : Prop := carryOrdersRow.holds Try.pinned (OpenSpec.ofChange carryOrdersWrong)

/- THE SECOND FORM. 'bulk': how many values and letters a reading holds, each counted each time it is reached (what is shared counts as often as it is met; a slice's spare places count too). A statement '..UptoSaid' is the law's where the arguments, and the package variables that the reading takes, are together of bulk at most 1048576: NARROWER than '..Said'. Prove '..Said' where nothing that the law and all that it calls make is longer than what came in: it says more and counts as full. Else prove '..UptoSaid'. A law counts once. -/
mutual
def uptoBulk {H : Type} : DataW H → Nat
  | .lit (.string bytes) => bytes.length + 1
  | .lit _ => 1
  | .nil => 1
  | .ptr d => uptoBulk d + 1
  | .slice elems spare => uptoBulkAll elems + uptoBulkAll spare + 1
  | .agg parts => uptoBulkAll parts + 1
  | .iface _ d => uptoBulk d + 1
  | .map entries => uptoBulkEntries entries + 1
  | .held _ => 1
def uptoBulkAll {H : Type} : List (DataW H) → Nat
  | [] => 0
  | d :: r => uptoBulk d + uptoBulkAll r
def uptoBulkEntries {H : Type} : List (Lit × DataW H) → Nat
  | [] => 0
  | x :: r => uptoBulkEntry x + uptoBulkEntries r
def uptoBulkEntry {H : Type} : Lit × DataW H → Nat
  | (.string bytes, d) => bytes.length + uptoBulk d + 1
  | (_, d) => uptoBulk d + 1
 end
def uptoSmall : (H : Type) → List (DataW H) → Bool := fun _ ds => decide (uptoBulkAll ds ≤ 1048576)
def OpenSpec.upto (s : _root_.Go.ChangeSpec) : _root_.Go.OpenSpec := { _root_.Go.OpenSpec.ofChange s with cond := some uptoSmall }

/-- 'polyglotlaw19.DiceKeeps', WHERE WHAT IT READS IS OF BULK AT MOST 1048576: true; the input reads as it did. -/
def diceKeepsUptoRow : OpenClaim := { program := "ytmnngdbcfdnefaa", sum := "cae1e9cc1342460909f6d0cb9ddb8b0a7837160dbd5bf1e4ef2fa21b32413f86", func := "polyglot/polyglotlaw19.DiceKeeps", spec := "diceKeeps", apart := false, narrowed := true }
def DiceKeepsUptoSaid : Prop := diceKeepsUptoRow.holds Try.pinned (OpenSpec.upto diceKeepsSpec)

/-- 'polyglotlaw19.DiceDraws', WHERE WHAT IT READS IS OF BULK AT MOST 1048576: true; the input reads as it did. -/
def diceDrawsUptoRow : OpenClaim := { program := "ytmnngdbcfdnefaa", sum := "cae1e9cc1342460909f6d0cb9ddb8b0a7837160dbd5bf1e4ef2fa21b32413f86", func := "polyglot/polyglotlaw19.DiceDraws", spec := "diceDraws", apart := false, narrowed := true }
def DiceDrawsUptoSaid : Prop := diceDrawsUptoRow.holds Try.pinned (OpenSpec.upto diceDrawsSpec)

/-- 'polyglotlaw19.DiceShuffles', WHERE WHAT IT READS IS OF BULK AT MOST 1048576: true; the input reads as it did. -/
def diceShufflesUptoRow : OpenClaim := { program := "ytmnngdbcfdnefaa", sum := "cae1e9cc1342460909f6d0cb9ddb8b0a7837160dbd5bf1e4ef2fa21b32413f86", func := "polyglot/polyglotlaw19.DiceShuffles", spec := "diceShuffles", apart := false, narrowed := true }
def DiceShufflesUptoSaid : Prop := diceShufflesUptoRow.holds Try.pinned (OpenSpec.upto diceShufflesSpec)

/-- 'polyglotlaw23.PeersChoose', WHERE WHAT IT READS IS OF BULK AT MOST 1048576: true; the input reads as it did. -/
def peersChooseUptoRow : OpenClaim := { program := "ytmnngdbcfdnefaa", sum := "cae1e9cc1342460909f6d0cb9ddb8b0a7837160dbd5bf1e4ef2fa21b32413f86", func := "polyglot/polyglotlaw23.PeersChoose", spec := "peersChoose", apart := false, narrowed := true }
def PeersChooseUptoSaid : Prop := peersChooseUptoRow.holds Try.pinned (OpenSpec.upto peersChooseSpec)

/-- 'polyglotlaw23.PeersAgree', WHERE WHAT IT READS IS OF BULK AT MOST 1048576: true; the input reads as it did. -/
def peersAgreeUptoRow : OpenClaim := { program := "ytmnngdbcfdnefaa", sum := "cae1e9cc1342460909f6d0cb9ddb8b0a7837160dbd5bf1e4ef2fa21b32413f86", func := "polyglot/polyglotlaw23.PeersAgree", spec := "peersAgree", apart := false, narrowed := true }
def PeersAgreeUptoSaid : Prop := peersAgreeUptoRow.holds Try.pinned (OpenSpec.upto peersAgreeSpec)

/-- 'polyglotlaw08.RecNames', WHERE WHAT IT READS IS OF BULK AT MOST 1048576: true; the input reads as it did. -/
def recNamesUptoRow : OpenClaim := { program := "ytmnngdbcfdnefaa", sum := "cae1e9cc1342460909f6d0cb9ddb8b0a7837160dbd5bf1e4ef2fa21b32413f86", func := "polyglot/polyglotlaw08.RecNames", spec := "recNames", unfollowed := true, recurses := true, apart := false, narrowed := true }
def RecNamesUptoSaid : Prop := recNamesUptoRow.holds Try.pinned (OpenSpec.upto recNamesSpec)

/-- 'polyglotlaw10.MsgMany', WHERE WHAT IT READS IS OF BULK AT MOST 1048576: true; the input reads as it did. -/
def msgManyUptoRow : OpenClaim := { program := "ytmnngdbcfdnefaa", sum := "cae1e9cc1342460909f6d0cb9ddb8b0a7837160dbd5bf1e4ef2fa21b32413f86", func := "polyglot/polyglotlaw10.MsgMany", spec := "msgMany", unfollowed := true, recurses := true, apart := false, narrowed := true }
def MsgManyUptoSaid : Prop := msgManyUptoRow.holds Try.pinned (OpenSpec.upto msgManySpec)

/-- 'polyglotlaw10.MsgParts', WHERE WHAT IT READS IS OF BULK AT MOST 1048576: true; the input reads as it did. -/
def msgPartsUptoRow : OpenClaim := { program := "ytmnngdbcfdnefaa", sum := "cae1e9cc1342460909f6d0cb9ddb8b0a7837160dbd5bf1e4ef2fa21b32413f86", func := "polyglot/polyglotlaw10.MsgParts", spec := "msgParts", unfollowed := true, recurses := true, apart := false, narrowed := true }
def MsgPartsUptoSaid : Prop := msgPartsUptoRow.holds Try.pinned (OpenSpec.upto msgPartsSpec)

/-- 'polyglotlaw09.LatticeJoins', WHERE WHAT IT READS IS OF BULK AT MOST 1048576: true; the input reads as it did. -/
def latticeJoinsUptoRow : OpenClaim := { program := "ytmnngdbcfdnefaa", sum := "cae1e9cc1342460909f6d0cb9ddb8b0a7837160dbd5bf1e4ef2fa21b32413f86", func := "polyglot/polyglotlaw09.LatticeJoins", spec := "latticeJoins", apart := false, narrowed := true }
def LatticeJoinsUptoSaid : Prop := latticeJoinsUptoRow.holds Try.pinned (OpenSpec.upto latticeJoinsSpec)

/-- 'polyglotlaw09.LatticeLaws', WHERE WHAT IT READS IS OF BULK AT MOST 1048576: true; the input reads as it did. -/
def latticeLawsUptoRow : OpenClaim := { program := "ytmnngdbcfdnefaa", sum := "cae1e9cc1342460909f6d0cb9ddb8b0a7837160dbd5bf1e4ef2fa21b32413f86", func := "polyglot/polyglotlaw09.LatticeLaws", spec := "latticeLaws", apart := false, narrowed := true }
def LatticeLawsUptoSaid : Prop := latticeLawsUptoRow.holds Try.pinned (OpenSpec.upto latticeLawsSpec)

/-- 'polyglotlaw18.CarryPaths', WHERE WHAT IT READS IS OF BULK AT MOST 1048576: true; the input reads as it did. -/
def carryPathsUptoRow : OpenClaim := { program := "ytmnngdbcfdnefaa", sum := "cae1e9cc1342460909f6d0cb9ddb8b0a7837160dbd5bf1e4ef2fa21b32413f86", func := "polyglot/polyglotlaw18.CarryPaths", spec := "carryPaths", apart := false, narrowed := true }
def CarryPathsUptoSaid : Prop := carryPathsUptoRow.holds Try.pinned (OpenSpec.upto carryPathsSpec)

/-- 'polyglotlaw18.CarryOrders', WHERE WHAT IT READS IS OF BULK AT MOST 1048576: true; the input reads as it did. -/
def carryOrdersUptoRow : OpenClaim := { program := "ytmnngdbcfdnefaa", sum := "cae1e9cc1342460909f6d0cb9ddb8b0a7837160dbd5bf1e4ef2fa21b32413f86", func := "polyglot/polyglotlaw18.CarryOrders", spec := "carryOrders", apart := false, narrowed := true }
def CarryOrdersUptoSaid : Prop := carryOrdersUptoRow.holds Try.pinned (OpenSpec.upto carryOrdersSpec)

end Rows
end Go.Proofs.Ytmnngdbcfdnefaa
