/-
  No cell of these rows narrows 'for every input' (looked for: loops, veiled, ifaces, maps, wideKeys, modest, calm, conditions, laid).
  DERIVED. THE GIVEN ROWS OF THIS SEAT. 8 by the template 'for every input the law returns true; each argument reads behind the call as it read before'; 0 by the template 'total and deterministic' (their statements: YtgipbhfblmblcaaTotals.lean).
  GIVEN WITH THE SEED: the statements are not yours to turn. If you find one false, say at which input.
  Laid BY PROGRAM, IN A SANDBOX (cutbox-rows.mjs): the forced cells as the released guide's own fill.sh prints them over the translation 5d5d7262b2065805… (all of the seat's roots in one cut). By AI agents, Wed Nov 11 2026. No macro, syntax, notation, axiom, sorry.
-/
import Derived.Test.YtgipbhfblmblcaaChecked
import GoSem.Claim
import GoSem.ClaimJoined
import GoSem.ClaimMapViews
import Derived.JoinedTies
import Derived.KernelRfl
namespace Go.Proofs.Ytgipbhfblmblcaa
/- THE CELL 'sum', in the pinned program and in every row, IS THE sha256 OF THE DUMP (.gsa) THAT YtgipbhfblmblcaaProg.lean LOADS. Nothing in Lean hashes anything: it is a label: what it is worth is what the hold of that sum in a sandbox is worth. -/
noncomputable def Try.pinned : Pinned := { name := "ytgipbhfblmblcaa", sum := "5d5d7262b2065805e1c7bcde921d13d147289cc955fc75a74e052ae6e4c614fb", checked := Try.checked }
namespace Rows
def none {H : Type} : Left H := { results := [], args := [] }

/-- 'polyglotlaw44.EventBetween': WHATEVER THE INPUT: true; the input reads as it did. -/
def eventBetweenSpec : ChangeSpec := { name := "eventBetween", fn := fun _ => fun
  | [d1, d2] => { results := [.lit (.bool true)], args := [d1, d2] }
  | _ => none }
def eventBetweenRow : OpenClaim := { program := "ytgipbhfblmblcaa", sum := "5d5d7262b2065805e1c7bcde921d13d147289cc955fc75a74e052ae6e4c614fb", func := "polyglot/polyglotlaw44.EventBetween", spec := "eventBetween", unfollowed := true, recurses := true, apart := false }
def EventBetweenSaid : Prop := eventBetweenRow.holds Try.pinned (OpenSpec.ofChange eventBetweenSpec)

/-- ITS FALSE NEIGHBOUR: 'it returns false'. Refute it at one input. -/
def eventBetweenWrong : ChangeSpec := { name := "eventBetween", fn := fun _ => fun
  | [d1, d2] => { results := [.lit (.bool false)], args := [d1, d2] }
  | _ => none }
def EventBetweenWrongFalsely : Prop := eventBetweenRow.holds Try.pinned (OpenSpec.ofChange eventBetweenWrong)

/-- 'polyglotlaw44.EventSince': WHATEVER THE INPUT: true; the input reads as it did. -/
def eventSinceSpec : ChangeSpec := { name := "eventSince", fn := fun _ => fun
  | [d1, d2] => { results := [.lit (.bool true)], args := [d1, d2] }
  | _ => none }
def eventSinceRow : OpenClaim := { program := "ytgipbhfblmblcaa", sum := "5d5d7262b2065805e1c7bcde921d13d147289cc955fc75a74e052ae6e4c614fb", func := "polyglot/polyglotlaw44.EventSince", spec := "eventSince", unfollowed := true, recurses := true, apart := false }
def EventSinceSaid : Prop := eventSinceRow.holds Try.pinned (OpenSpec.ofChange eventSinceSpec)

/-- ITS FALSE NEIGHBOUR: 'it returns false'. Refute it at one input. -/
def eventSinceWrong : ChangeSpec := { name := "eventSince", fn := fun _ => fun
  | [d1, d2] => { results := [.lit (.bool false)], args := [d1, d2] }
  | _ => none }
def EventSinceWrongFalsely : Prop := eventSinceRow.holds Try.pinned (OpenSpec.ofChange eventSinceWrong)

/-- 'polyglotlaw44.EventGrows': WHATEVER THE INPUT: true; the input reads as it did. -/
def eventGrowsSpec : ChangeSpec := { name := "eventGrows", fn := fun _ => fun
  | [d1, d2] => { results := [.lit (.bool true)], args := [d1, d2] }
  | _ => none }
def eventGrowsRow : OpenClaim := { program := "ytgipbhfblmblcaa", sum := "5d5d7262b2065805e1c7bcde921d13d147289cc955fc75a74e052ae6e4c614fb", func := "polyglot/polyglotlaw44.EventGrows", spec := "eventGrows", unfollowed := true, recurses := true, apart := false }
def EventGrowsSaid : Prop := eventGrowsRow.holds Try.pinned (OpenSpec.ofChange eventGrowsSpec)

/-- ITS FALSE NEIGHBOUR: 'it returns false'. Refute it at one input. -/
def eventGrowsWrong : ChangeSpec := { name := "eventGrows", fn := fun _ => fun
  | [d1, d2] => { results := [.lit (.bool false)], args := [d1, d2] }
  | _ => none }
def EventGrowsWrongFalsely : Prop := eventGrowsRow.holds Try.pinned (OpenSpec.ofChange eventGrowsWrong)

/-- 'polyglotlaw25.MemberRefutes': WHATEVER THE INPUT: true; the input reads as it did. -/
def memberRefutesSpec : ChangeSpec := { name := "memberRefutes", fn := fun _ => fun
  | [d1, d2] => { results := [.lit (.bool true)], args := [d1, d2] }
  | _ => none }
def memberRefutesRow : OpenClaim := { program := "ytgipbhfblmblcaa", sum := "5d5d7262b2065805e1c7bcde921d13d147289cc955fc75a74e052ae6e4c614fb", func := "polyglot/polyglotlaw25.MemberRefutes", spec := "memberRefutes", unfollowed := true, recurses := true, apart := false }
def MemberRefutesSaid : Prop := memberRefutesRow.holds Try.pinned (OpenSpec.ofChange memberRefutesSpec)

/-- ITS FALSE NEIGHBOUR: 'it returns false'. Refute it at one input. -/
def memberRefutesWrong : ChangeSpec := { name := "memberRefutes", fn := fun _ => fun
  | [d1, d2] => { results := [.lit (.bool false)], args := [d1, d2] }
  | _ => none }
def MemberRefutesWrongFalsely : Prop := memberRefutesRow.holds Try.pinned (OpenSpec.ofChange memberRefutesWrong)

/-- 'polyglotlaw25.MemberPlays': WHATEVER THE INPUT: true; the input reads as it did. -/
def memberPlaysSpec : ChangeSpec := { name := "memberPlays", fn := fun _ => fun
  | [d1, d2, d3, d4, d5] => { results := [.lit (.bool true)], args := [d1, d2, d3, d4, d5] }
  | _ => none }
def memberPlaysRow : OpenClaim := { program := "ytgipbhfblmblcaa", sum := "5d5d7262b2065805e1c7bcde921d13d147289cc955fc75a74e052ae6e4c614fb", func := "polyglot/polyglotlaw25.MemberPlays", spec := "memberPlays", unfollowed := true, recurses := true, apart := false }
def MemberPlaysSaid : Prop := memberPlaysRow.holds Try.pinned (OpenSpec.ofChange memberPlaysSpec)

/-- ITS FALSE NEIGHBOUR: 'it returns false'. Refute it at one input. -/
def memberPlaysWrong : ChangeSpec := { name := "memberPlays", fn := fun _ => fun
  | [d1, d2, d3, d4, d5] => { results := [.lit (.bool false)], args := [d1, d2, d3, d4, d5] }
  | _ => none }
def MemberPlaysWrongFalsely : Prop := memberPlaysRow.holds Try.pinned (OpenSpec.ofChange memberPlaysWrong)

/-- 'polyglotlaw25.MemberGrows': WHATEVER THE INPUT: true; the input reads as it did. -/
def memberGrowsSpec : ChangeSpec := { name := "memberGrows", fn := fun _ => fun
  | [d1, d2, d3] => { results := [.lit (.bool true)], args := [d1, d2, d3] }
  | _ => none }
def memberGrowsRow : OpenClaim := { program := "ytgipbhfblmblcaa", sum := "5d5d7262b2065805e1c7bcde921d13d147289cc955fc75a74e052ae6e4c614fb", func := "polyglot/polyglotlaw25.MemberGrows", spec := "memberGrows", unfollowed := true, recurses := true, apart := false }
def MemberGrowsSaid : Prop := memberGrowsRow.holds Try.pinned (OpenSpec.ofChange memberGrowsSpec)

/-- ITS FALSE NEIGHBOUR: 'it returns false'. Refute it at one input. -/
def memberGrowsWrong : ChangeSpec := { name := "memberGrows", fn := fun _ => fun
  | [d1, d2, d3] => { results := [.lit (.bool false)], args := [d1, d2, d3] }
  | _ => none }
def MemberGrowsWrongFalsely : Prop := memberGrowsRow.holds Try.pinned (OpenSpec.ofChange memberGrowsWrong)

/-- 'polyglotlaw34.BlindPlays': WHATEVER THE INPUT: true; the input reads as it did. -/
def blindPlaysSpec : ChangeSpec := { name := "blindPlays", fn := fun _ => fun
  | [d1, d2, d3, d4] => { results := [.lit (.bool true)], args := [d1, d2, d3, d4] }
  | _ => none }
def blindPlaysRow : OpenClaim := { program := "ytgipbhfblmblcaa", sum := "5d5d7262b2065805e1c7bcde921d13d147289cc955fc75a74e052ae6e4c614fb", func := "polyglot/polyglotlaw34.BlindPlays", spec := "blindPlays", unfollowed := true, recurses := true, apart := false }
def BlindPlaysSaid : Prop := blindPlaysRow.holds Try.pinned (OpenSpec.ofChange blindPlaysSpec)

/-- ITS FALSE NEIGHBOUR: 'it returns false'. Refute it at one input. -/
def blindPlaysWrong : ChangeSpec := { name := "blindPlays", fn := fun _ => fun
  | [d1, d2, d3, d4] => { results := [.lit (.bool false)], args := [d1, d2, d3, d4] }
  | _ => none }
def BlindPlaysWrongFalsely : Prop := blindPlaysRow.holds Try.pinned (OpenSpec.ofChange blindPlaysWrong)

/-- 'polyglotlaw34.BlindGrows': WHATEVER THE INPUT: true; the input reads as it did. -/
def blindGrowsSpec : ChangeSpec := { name := "blindGrows", fn := fun _ => fun
  | [d1, d2, d3] => { results := [.lit (.bool true)], args := [d1, d2, d3] }
  | _ => none }
def blindGrowsRow : OpenClaim := { program := "ytgipbhfblmblcaa", sum := "5d5d7262b2065805e1c7bcde921d13d147289cc955fc75a74e052ae6e4c614fb", func := "polyglot/polyglotlaw34.BlindGrows", spec := "blindGrows", unfollowed := true, recurses := true, apart := false }
def BlindGrowsSaid : Prop := blindGrowsRow.holds Try.pinned (OpenSpec.ofChange blindGrowsSpec)

/-- ITS FALSE NEIGHBOUR: 'it returns false'. Refute it at one input. -/
def blindGrowsWrong : ChangeSpec := { name := "blindGrows", fn := fun _ => fun
  | [d1, d2, d3] => { results := [.lit (.bool false)], args := [d1, d2, d3] }
  | _ => none }
def BlindGrowsWrongFalsely : Prop := blindGrowsRow.holds Try.pinned (OpenSpec.ofChange blindGrowsWrong)

/- THE SECOND FORM. 'bulk': how many values and letters a reading holds, each counted each time it is reached (what is shared counts as often as it is met; a slice's spare places count too). A statement '..UptoSaid' is the law's where the arguments, and the package variables that the reading takes, are together of bulk at most 1048576: NARROWER than '..Said'. Prove '..Said' where nothing that the law and all that it calls make is longer than what came in: it says more and counts as full. Else prove '..UptoSaid'. A law counts once. -/
mutual
def uptoBulk {H : Type} : DataW H → Nat
  | .lit (.string bytes) => bytes.length + 1
  | .lit _ => 1
  | .nil => 1
  | .ptr d => uptoBulk d + 1
  | .slice elems spare => uptoBulkAll elems + uptoBulkAll spare + 1
  | .agg parts => uptoBulkAll parts + 1
  | .iface _ d => uptoBulk d + 1
  | .map entries => uptoBulkEntries entries + 1
  | .held _ => 1
def uptoBulkAll {H : Type} : List (DataW H) → Nat
  | [] => 0
  | d :: r => uptoBulk d + uptoBulkAll r
def uptoBulkEntries {H : Type} : List (Lit × DataW H) → Nat
  | [] => 0
  | x :: r => uptoBulkEntry x + uptoBulkEntries r
def uptoBulkEntry {H : Type} : Lit × DataW H → Nat
  | (.string bytes, d) => bytes.length + uptoBulk d + 1
  | (_, d) => uptoBulk d + 1
 end
def uptoSmall : (H : Type) → List (DataW H) → Bool := fun _ ds => decide (uptoBulkAll ds ≤ 1048576)
def OpenSpec.upto (s : _root_.Go.ChangeSpec) : _root_.Go.OpenSpec := { _root_.Go.OpenSpec.ofChange s with cond := some uptoSmall }

/-- 'polyglotlaw44.EventBetween', WHERE WHAT IT READS IS OF BULK AT MOST 1048576: true; the input reads as it did. -/
def eventBetweenUptoRow : OpenClaim := { program := "ytgipbhfblmblcaa", sum := "5d5d7262b2065805e1c7bcde921d13d147289cc955fc75a74e052ae6e4c614fb", func := "polyglot/polyglotlaw44.EventBetween", spec := "eventBetween", unfollowed := true, recurses := true, apart := false, narrowed := true }
def EventBetweenUptoSaid : Prop := eventBetweenUptoRow.holds Try.pinned (OpenSpec.upto eventBetweenSpec)

/-- 'polyglotlaw44.EventSince', WHERE WHAT IT READS IS OF BULK AT MOST 1048576: true; the input reads as it did. -/
def eventSinceUptoRow : OpenClaim := { program := "ytgipbhfblmblcaa", sum := "5d5d7262b2065805e1c7bcde921d13d147289cc955fc75a74e052ae6e4c614fb", func := "polyglot/polyglotlaw44.EventSince", spec := "eventSince", unfollowed := true, recurses := true, apart := false, narrowed := true }
def EventSinceUptoSaid : Prop := eventSinceUptoRow.holds Try.pinned (OpenSpec.upto eventSinceSpec)

/-- 'polyglotlaw44.EventGrows', WHERE WHAT IT READS IS OF BULK AT MOST 1048576: true; the input reads as it did. -/
def eventGrowsUptoRow : OpenClaim := { program := "ytgipbhfblmblcaa", sum := "5d5d7262b2065805e1c7bcde921d13d147289cc955fc75a74e052ae6e4c614fb", func := "polyglot/polyglotlaw44.EventGrows", spec := "eventGrows", unfollowed := true, recurses := true, apart := false, narrowed := true }
def EventGrowsUptoSaid : Prop := eventGrowsUptoRow.holds Try.pinned (OpenSpec.upto eventGrowsSpec)

/-- 'polyglotlaw25.MemberRefutes', WHERE WHAT IT READS IS OF BULK AT MOST 1048576: true; the input reads as it did. -/
def memberRefutesUptoRow : OpenClaim := { program := "ytgipbhfblmblcaa", sum := "5d5d7262b2065805e1c7bcde921d13d147289cc955fc75a74e052ae6e4c614fb", func := "polyglot/polyglotlaw25.MemberRefutes", spec := "memberRefutes", unfollowed := true, recurses := true, apart := false, narrowed := true }
def MemberRefutesUptoSaid : Prop := memberRefutesUptoRow.holds Try.pinned (OpenSpec.upto memberRefutesSpec)

/-- 'polyglotlaw25.MemberPlays', WHERE WHAT IT READS IS OF BULK AT MOST 1048576: true; the input reads as it did. -/
def memberPlaysUptoRow : OpenClaim := { program := "ytgipbhfblmblcaa", sum := "5d5d7262b2065805e1c7bcde921d13d147289cc955fc75a74e052ae6e4c614fb", func := "polyglot/polyglotlaw25.MemberPlays", spec := "memberPlays", unfollowed := true, recurses := true, apart := false, narrowed := true }
def MemberPlaysUptoSaid : Prop := memberPlaysUptoRow.holds Try.pinned (OpenSpec.upto memberPlaysSpec)

/-- 'polyglotlaw25.MemberGrows', WHERE WHAT IT READS IS OF BULK AT MOST 1048576: true; the input reads as it did. -/
def memberGrowsUptoRow : OpenClaim := { program := "ytgipbhfblmblcaa", sum := "5d5d7262b2065805e1c7bcde921d13d147289cc955fc75a74e052ae6e4c614fb", func := "polyglot/polyglotlaw25.MemberGrows", spec := "memberGrows", unfollowed := true, recurses := true, apart := false, narrowed := true }
def MemberGrowsUptoSaid : Prop := memberGrowsUptoRow.holds Try.pinned (OpenSpec.upto memberGrowsSpec)

/-- 'polyglotlaw34.BlindPlays', WHERE WHAT IT READS IS OF BULK AT MOST 1048576: true; the input reads as it did. -/
def blindPlaysUptoRow : OpenClaim := { program := "ytgipbhfblmblcaa", sum := "5d5d7262b2065805e1c7bcde921d13d147289cc955fc75a74e052ae6e4c614fb", func := "polyglot/polyglotlaw34.BlindPlays", spec := "blindPlays", unfollowed := true, recurses := true, apart := false, narrowed := true }
def BlindPlaysUptoSaid : Prop := blindPlaysUptoRow.holds Try.pinned (OpenSpec.upto blindPlaysSpec)

/-- 'polyglotlaw34.BlindGrows', WHERE WHAT IT READS IS OF BULK AT MOST 1048576: true; the input reads as it did. -/
def blindGrowsUptoRow : OpenClaim := { program := "ytgipbhfblmblcaa", sum := "5d5d7262b2065805e1c7bcde921d13d147289cc955fc75a74e052ae6e4c614fb", func := "polyglot/polyglotlaw34.BlindGrows", spec := "blindGrows", unfollowed := true, recurses := true, apart := false, narrowed := true }
def BlindGrowsUptoSaid : Prop := blindGrowsUptoRow.holds Try.pinned (OpenSpec.upto blindGrowsSpec)

end Rows
end Go.Proofs.Ytgipbhfblmblcaa
