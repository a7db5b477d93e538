/-
  No cell of these rows narrows 'for every input' (looked for: loops, veiled, ifaces, maps, wideKeys, modest, calm, conditions, laid).
  DERIVED. THE GIVEN ROWS OF THIS SEAT. 8 by the template 'for every input the law returns true; each argument reads behind the call as it read before'; 0 by the template 'total and deterministic' (their statements: YtobigfbgaiglkaaTotals.lean).
  GIVEN WITH THE SEED: the statements are not yours to turn. If you find one false, say at which input.
  Laid BY PROGRAM, IN A SANDBOX (cutbox-rows.mjs): the forced cells as the released guide's own fill.sh prints them over the translation 3b33ccb4fce93b1c… (all of the seat's roots in one cut). By AI agents, Wed Nov 11 2026. No macro, syntax, notation, axiom, sorry.
-/
import Derived.Test.YtobigfbgaiglkaaChecked
import GoSem.Claim
import GoSem.ClaimJoined
import GoSem.ClaimMapViews
import Derived.JoinedTies
import Derived.KernelRfl
namespace Go.Proofs.Ytobigfbgaiglkaa
/- THE CELL 'sum', in the pinned program and in every row, IS THE sha256 OF THE DUMP (.gsa) THAT YtobigfbgaiglkaaProg.lean LOADS. Nothing in Lean hashes anything: it is a label: what it is worth is what the hold of that sum in a sandbox is worth. -/
noncomputable def Try.pinned : Pinned := { name := "ytobigfbgaiglkaa", sum := "3b33ccb4fce93b1c448f2440582a662a33943d01588ddfa47519065bd05eecc0", checked := Try.checked }
namespace Rows
def none {H : Type} : Left H := { results := [], args := [] }

/-- 'polyglotlaw21.TimerPlays': WHATEVER THE INPUT: true; the input reads as it did. -/
def timerPlaysSpec : ChangeSpec := { name := "timerPlays", fn := fun _ => fun
  | [d1, d2] => { results := [.lit (.bool true)], args := [d1, d2] }
  | _ => none }
def timerPlaysRow : OpenClaim := { program := "ytobigfbgaiglkaa", sum := "3b33ccb4fce93b1c448f2440582a662a33943d01588ddfa47519065bd05eecc0", func := "polyglot/polyglotlaw21.TimerPlays", spec := "timerPlays", recurses := true, apart := false }
def TimerPlaysSaid : Prop := timerPlaysRow.holds Try.pinned (OpenSpec.ofChange timerPlaysSpec)

/-- ITS FALSE NEIGHBOUR: 'it returns false'. Refute it at one input. -/
def timerPlaysWrong : ChangeSpec := { name := "timerPlays", fn := fun _ => fun
  | [d1, d2] => { results := [.lit (.bool false)], args := [d1, d2] }
  | _ => none }
def TimerPlaysWrongFalsely : Prop := timerPlaysRow.holds Try.pinned (OpenSpec.ofChange timerPlaysWrong)

/-- 'polyglotlaw21.TimerOnce': WHATEVER THE INPUT: true; the input reads as it did. -/
def timerOnceSpec : ChangeSpec := { name := "timerOnce", fn := fun _ => fun
  | [d1, d2, d3, d4] => { results := [.lit (.bool true)], args := [d1, d2, d3, d4] }
  | _ => none }
def timerOnceRow : OpenClaim := { program := "ytobigfbgaiglkaa", sum := "3b33ccb4fce93b1c448f2440582a662a33943d01588ddfa47519065bd05eecc0", func := "polyglot/polyglotlaw21.TimerOnce", spec := "timerOnce", recurses := true, apart := false }
def TimerOnceSaid : Prop := timerOnceRow.holds Try.pinned (OpenSpec.ofChange timerOnceSpec)

/-- ITS FALSE NEIGHBOUR: 'it returns false'. Refute it at one input. -/
def timerOnceWrong : ChangeSpec := { name := "timerOnce", fn := fun _ => fun
  | [d1, d2, d3, d4] => { results := [.lit (.bool false)], args := [d1, d2, d3, d4] }
  | _ => none }
def TimerOnceWrongFalsely : Prop := timerOnceRow.holds Try.pinned (OpenSpec.ofChange timerOnceWrong)

/-- 'polyglotlaw20.RingFair': WHATEVER THE INPUT: true; the input reads as it did. -/
def ringFairSpec : ChangeSpec := { name := "ringFair", fn := fun _ => fun
  | [d1, d2, d3, d4, d5] => { results := [.lit (.bool true)], args := [d1, d2, d3, d4, d5] }
  | _ => none }
def ringFairRow : OpenClaim := { program := "ytobigfbgaiglkaa", sum := "3b33ccb4fce93b1c448f2440582a662a33943d01588ddfa47519065bd05eecc0", func := "polyglot/polyglotlaw20.RingFair", spec := "ringFair", inPlace := ["slices.overlaps[int]"], unfollowed := true, recurses := true, apart := false }
def RingFairSaid : Prop := ringFairRow.holds Try.pinned (OpenSpec.ofChange ringFairSpec)

/-- ITS FALSE NEIGHBOUR: 'it returns false'. Refute it at one input. -/
def ringFairWrong : ChangeSpec := { name := "ringFair", fn := fun _ => fun
  | [d1, d2, d3, d4, d5] => { results := [.lit (.bool false)], args := [d1, d2, d3, d4, d5] }
  | _ => none }
def RingFairWrongFalsely : Prop := ringFairRow.holds Try.pinned (OpenSpec.ofChange ringFairWrong)

/-- 'polyglotlaw20.RingTurns': WHATEVER THE INPUT: true; the input reads as it did. -/
def ringTurnsSpec : ChangeSpec := { name := "ringTurns", fn := fun _ => fun
  | [d1, d2] => { results := [.lit (.bool true)], args := [d1, d2] }
  | _ => none }
def ringTurnsRow : OpenClaim := { program := "ytobigfbgaiglkaa", sum := "3b33ccb4fce93b1c448f2440582a662a33943d01588ddfa47519065bd05eecc0", func := "polyglot/polyglotlaw20.RingTurns", spec := "ringTurns", inPlace := ["slices.overlaps[int]"], unfollowed := true, recurses := true, apart := false }
def RingTurnsSaid : Prop := ringTurnsRow.holds Try.pinned (OpenSpec.ofChange ringTurnsSpec)

/-- ITS FALSE NEIGHBOUR: 'it returns false'. Refute it at one input. -/
def ringTurnsWrong : ChangeSpec := { name := "ringTurns", fn := fun _ => fun
  | [d1, d2] => { results := [.lit (.bool false)], args := [d1, d2] }
  | _ => none }
def RingTurnsWrongFalsely : Prop := ringTurnsRow.holds Try.pinned (OpenSpec.ofChange ringTurnsWrong)

/-- 'polyglotlaw26.BaseOuts': WHATEVER THE INPUT: true; the input reads as it did. -/
def baseOutsSpec : ChangeSpec := { name := "baseOuts", fn := fun _ => fun
  | [d1, d2] => { results := [.lit (.bool true)], args := [d1, d2] }
  | _ => none }
def baseOutsRow : OpenClaim := { program := "ytobigfbgaiglkaa", sum := "3b33ccb4fce93b1c448f2440582a662a33943d01588ddfa47519065bd05eecc0", func := "polyglot/polyglotlaw26.BaseOuts", spec := "baseOuts", unfollowed := true, recurses := true, apart := false }
def BaseOutsSaid : Prop := baseOutsRow.holds Try.pinned (OpenSpec.ofChange baseOutsSpec)

/-- ITS FALSE NEIGHBOUR: 'it returns false'. Refute it at one input. -/
def baseOutsWrong : ChangeSpec := { name := "baseOuts", fn := fun _ => fun
  | [d1, d2] => { results := [.lit (.bool false)], args := [d1, d2] }
  | _ => none }
def BaseOutsWrongFalsely : Prop := baseOutsRow.holds Try.pinned (OpenSpec.ofChange baseOutsWrong)

/-- 'polyglotlaw26.BaseIns': WHATEVER THE INPUT: true; the input reads as it did. -/
def baseInsSpec : ChangeSpec := { name := "baseIns", fn := fun _ => fun
  | [d1, d2, d3] => { results := [.lit (.bool true)], args := [d1, d2, d3] }
  | _ => none }
def baseInsRow : OpenClaim := { program := "ytobigfbgaiglkaa", sum := "3b33ccb4fce93b1c448f2440582a662a33943d01588ddfa47519065bd05eecc0", func := "polyglot/polyglotlaw26.BaseIns", spec := "baseIns", inPlace := ["slices.overlaps[polyglot/base.row]"], unfollowed := true, recurses := true, apart := false }
def BaseInsSaid : Prop := baseInsRow.holds Try.pinned (OpenSpec.ofChange baseInsSpec)

/-- ITS FALSE NEIGHBOUR: 'it returns false'. Refute it at one input. -/
def baseInsWrong : ChangeSpec := { name := "baseIns", fn := fun _ => fun
  | [d1, d2, d3] => { results := [.lit (.bool false)], args := [d1, d2, d3] }
  | _ => none }
def BaseInsWrongFalsely : Prop := baseInsRow.holds Try.pinned (OpenSpec.ofChange baseInsWrong)

/-- 'polyglotlaw26.BasePair': WHATEVER THE INPUT: true; the input reads as it did. -/
def basePairSpec : ChangeSpec := { name := "basePair", fn := fun _ => fun
  | [d] => { results := [.lit (.bool true)], args := [d] }
  | _ => none }
def basePairRow : OpenClaim := { program := "ytobigfbgaiglkaa", sum := "3b33ccb4fce93b1c448f2440582a662a33943d01588ddfa47519065bd05eecc0", func := "polyglot/polyglotlaw26.BasePair", spec := "basePair", inPlace := ["slices.overlaps[polyglot/base.row]"], unfollowed := true, recurses := true, apart := false }
def BasePairSaid : Prop := basePairRow.holds Try.pinned (OpenSpec.ofChange basePairSpec)

/-- ITS FALSE NEIGHBOUR: 'it returns false'. Refute it at one input. -/
def basePairWrong : ChangeSpec := { name := "basePair", fn := fun _ => fun
  | [d] => { results := [.lit (.bool false)], args := [d] }
  | _ => none }
def BasePairWrongFalsely : Prop := basePairRow.holds Try.pinned (OpenSpec.ofChange basePairWrong)

/-- 'polyglotlaw23.PeersLearn': WHATEVER THE INPUT: true; the input reads as it did. -/
def peersLearnSpec : ChangeSpec := { name := "peersLearn", fn := fun _ => fun
  | [d1, d2] => { results := [.lit (.bool true)], args := [d1, d2] }
  | _ => none }
def peersLearnRow : OpenClaim := { program := "ytobigfbgaiglkaa", sum := "3b33ccb4fce93b1c448f2440582a662a33943d01588ddfa47519065bd05eecc0", func := "polyglot/polyglotlaw23.PeersLearn", spec := "peersLearn", recurses := true, apart := false }
def PeersLearnSaid : Prop := peersLearnRow.holds Try.pinned (OpenSpec.ofChange peersLearnSpec)

/-- ITS FALSE NEIGHBOUR: 'it returns false'. Refute it at one input. -/
def peersLearnWrong : ChangeSpec := { name := "peersLearn", fn := fun _ => fun
  | [d1, d2] => { results := [.lit (.bool false)], args := [d1, d2] }
  | _ => none }
def PeersLearnWrongFalsely : Prop := peersLearnRow.holds Try.pinned (OpenSpec.ofChange peersLearnWrong)

/- THE SECOND FORM. 'bulk': how many values and letters a reading holds, each counted each time it is reached (what is shared counts as often as it is met; a slice's spare places count too). A statement '..UptoSaid' is the law's where the arguments, and the package variables that the reading takes, are together of bulk at most 1048576: NARROWER than '..Said'. Prove '..Said' where nothing that the law and all that it calls make is longer than what came in: it says more and counts as full. Else prove '..UptoSaid'. A law counts once. -/
mutual
def uptoBulk {H : Type} : DataW H → Nat
  | .lit (.string bytes) => bytes.length + 1
  | .lit _ => 1
  | .nil => 1
  | .ptr d => uptoBulk d + 1
  | .slice elems spare => uptoBulkAll elems + uptoBulkAll spare + 1
  | .agg parts => uptoBulkAll parts + 1
  | .iface _ d => uptoBulk d + 1
  | .map entries => uptoBulkEntries entries + 1
  | .held _ => 1
def uptoBulkAll {H : Type} : List (DataW H) → Nat
  | [] => 0
  | d :: r => uptoBulk d + uptoBulkAll r
def uptoBulkEntries {H : Type} : List (Lit × DataW H) → Nat
  | [] => 0
  | x :: r => uptoBulkEntry x + uptoBulkEntries r
def uptoBulkEntry {H : Type} : Lit × DataW H → Nat
  | (.string bytes, d) => bytes.length + uptoBulk d + 1
  | (_, d) => uptoBulk d + 1
 end
def uptoSmall : (H : Type) → List (DataW H) → Bool := fun _ ds => decide (uptoBulkAll ds ≤ 1048576)
def OpenSpec.upto (s : _root_.Go.ChangeSpec) : _root_.Go.OpenSpec := { _root_.Go.OpenSpec.ofChange s with cond := some uptoSmall }

/-- 'polyglotlaw21.TimerPlays', WHERE WHAT IT READS IS OF BULK AT MOST 1048576: true; the input reads as it did. -/
def timerPlaysUptoRow : OpenClaim := { program := "ytobigfbgaiglkaa", sum := "3b33ccb4fce93b1c448f2440582a662a33943d01588ddfa47519065bd05eecc0", func := "polyglot/polyglotlaw21.TimerPlays", spec := "timerPlays", recurses := true, apart := false, narrowed := true }
def TimerPlaysUptoSaid : Prop := timerPlaysUptoRow.holds Try.pinned (OpenSpec.upto timerPlaysSpec)

/-- 'polyglotlaw21.TimerOnce', WHERE WHAT IT READS IS OF BULK AT MOST 1048576: true; the input reads as it did. -/
def timerOnceUptoRow : OpenClaim := { program := "ytobigfbgaiglkaa", sum := "3b33ccb4fce93b1c448f2440582a662a33943d01588ddfa47519065bd05eecc0", func := "polyglot/polyglotlaw21.TimerOnce", spec := "timerOnce", recurses := true, apart := false, narrowed := true }
def TimerOnceUptoSaid : Prop := timerOnceUptoRow.holds Try.pinned (OpenSpec.upto timerOnceSpec)

/-- 'polyglotlaw20.RingFair', WHERE WHAT IT READS IS OF BULK AT MOST 1048576: true; the input reads as it did. -/
def ringFairUptoRow : OpenClaim := { program := "ytobigfbgaiglkaa", sum := "3b33ccb4fce93b1c448f2440582a662a33943d01588ddfa47519065bd05eecc0", func := "polyglot/polyglotlaw20.RingFair", spec := "ringFair", inPlace := ["slices.overlaps[int]"], unfollowed := true, recurses := true, apart := false, narrowed := true }
def RingFairUptoSaid : Prop := ringFairUptoRow.holds Try.pinned (OpenSpec.upto ringFairSpec)

/-- 'polyglotlaw20.RingTurns', WHERE WHAT IT READS IS OF BULK AT MOST 1048576: true; the input reads as it did. -/
def ringTurnsUptoRow : OpenClaim := { program := "ytobigfbgaiglkaa", sum := "3b33ccb4fce93b1c448f2440582a662a33943d01588ddfa47519065bd05eecc0", func := "polyglot/polyglotlaw20.RingTurns", spec := "ringTurns", inPlace := ["slices.overlaps[int]"], unfollowed := true, recurses := true, apart := false, narrowed := true }
def RingTurnsUptoSaid : Prop := ringTurnsUptoRow.holds Try.pinned (OpenSpec.upto ringTurnsSpec)

/-- 'polyglotlaw26.BaseOuts', WHERE WHAT IT READS IS OF BULK AT MOST 1048576: true; the input reads as it did. -/
def baseOutsUptoRow : OpenClaim := { program := "ytobigfbgaiglkaa", sum := "3b33ccb4fce93b1c448f2440582a662a33943d01588ddfa47519065bd05eecc0", func := "polyglot/polyglotlaw26.BaseOuts", spec := "baseOuts", unfollowed := true, recurses := true, apart := false, narrowed := true }
def BaseOutsUptoSaid : Prop := baseOutsUptoRow.holds Try.pinned (OpenSpec.upto baseOutsSpec)

/-- 'polyglotlaw26.BaseIns', WHERE WHAT IT READS IS OF BULK AT MOST 1048576: true; the input reads as it did. -/
def baseInsUptoRow : OpenClaim := { program := "ytobigfbgaiglkaa", sum := "3b33ccb4fce93b1c448f2440582a662a33943d01588ddfa47519065bd05eecc0", func := "polyglot/polyglotlaw26.BaseIns", spec := "baseIns", inPlace := ["slices.overlaps[polyglot/base.row]"], unfollowed := true, recurses := true, apart := false, narrowed := true }
def BaseInsUptoSaid : Prop := baseInsUptoRow.holds Try.pinned (OpenSpec.upto baseInsSpec)

/-- 'polyglotlaw26.BasePair', WHERE WHAT IT READS IS OF BULK AT MOST 1048576: true; the input reads as it did. -/
def basePairUptoRow : OpenClaim := { program := "ytobigfbgaiglkaa", sum := "3b33ccb4fce93b1c448f2440582a662a33943d01588ddfa47519065bd05eecc0", func := "polyglot/polyglotlaw26.BasePair", spec := "basePair", inPlace := ["slices.overlaps[polyglot/base.row]"], unfollowed := true, recurses := true, apart := false, narrowed := true }
def BasePairUptoSaid : Prop := basePairUptoRow.holds Try.pinned (OpenSpec.upto basePairSpec)

/-- 'polyglotlaw23.PeersLearn', WHERE WHAT IT READS IS OF BULK AT MOST 1048576: true; the input reads as it did. -/
def peersLearnUptoRow : OpenClaim := { program := "ytobigfbgaiglkaa", sum := "3b33ccb4fce93b1c448f2440582a662a33943d01588ddfa47519065bd05eecc0", func := "polyglot/polyglotlaw23.PeersLearn", spec := "peersLearn", recurses := true, apart := false, narrowed := true }
def PeersLearnUptoSaid : Prop := peersLearnUptoRow.holds Try.pinned (OpenSpec.upto peersLearnSpec)

end Rows
end Go.Proofs.Ytobigfbgaiglkaa
