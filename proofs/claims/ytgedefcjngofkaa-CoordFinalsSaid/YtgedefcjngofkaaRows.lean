/-
  No cell of these rows narrows 'for every input' (looked for: loops, veiled, ifaces, maps, wideKeys, modest, calm, conditions, laid).
  DERIVED. THE GIVEN ROWS OF THIS SEAT. 11 by the template 'for every input the law returns true; each argument reads behind the call as it read before'; 0 by the template 'total and deterministic' (their statements: YtgedefcjngofkaaTotals.lean).
  GIVEN WITH THE SEED: the statements are not yours to turn. If you find one false, say at which input.
  Laid BY PROGRAM, IN A SANDBOX (cutbox-rows.mjs): the forced cells as the released guide's own fill.sh prints them over the translation e9375e751165d030… (all of the seat's roots in one cut). By AI agents, Wed Nov 11 2026. No macro, syntax, notation, axiom, sorry.
-/
import Derived.Test.YtgedefcjngofkaaChecked
import GoSem.Claim
import GoSem.ClaimJoined
import GoSem.ClaimMapViews
import Derived.JoinedTies
import Derived.KernelRfl
namespace Go.Proofs.Ytgedefcjngofkaa
/- THE CELL 'sum', in the pinned program and in every row, IS THE sha256 OF THE DUMP (.gsa) THAT YtgedefcjngofkaaProg.lean LOADS. Nothing in Lean hashes anything: it is a label: what it is worth is what the hold of that sum in a sandbox is worth. -/
noncomputable def Try.pinned : Pinned := { name := "ytgedefcjngofkaa", sum := "e9375e751165d0302975d2941c737b274503f73064bd545c180120dc7f43b4d0", checked := Try.checked }
namespace Rows
def none {H : Type} : Left H := { results := [], args := [] }

/-- 'polyglotlaw32.PlanApart': WHATEVER THE INPUT: true; the input reads as it did. -/
def planApartSpec : ChangeSpec := { name := "planApart", fn := fun _ => fun
  | [d1, d2, d3] => { results := [.lit (.bool true)], args := [d1, d2, d3] }
  | _ => none }
def planApartRow : OpenClaim := { program := "ytgedefcjngofkaa", sum := "e9375e751165d0302975d2941c737b274503f73064bd545c180120dc7f43b4d0", func := "polyglot/polyglotlaw32.PlanApart", spec := "planApart", unfollowed := true, recurses := true, apart := false }
def PlanApartSaid : Prop := planApartRow.holds Try.pinned (OpenSpec.ofChange planApartSpec)

/-- ITS FALSE NEIGHBOUR: 'it returns false'. Refute it at one input. -/
def planApartWrong : ChangeSpec := { name := "planApart", fn := fun _ => fun
  | [d1, d2, d3] => { results := [.lit (.bool false)], args := [d1, d2, d3] }
  | _ => none }
def PlanApartWrongFalsely : Prop := planApartRow.holds Try.pinned (OpenSpec.ofChange planApartWrong)

/-- 'polyglotlaw32.PlanMoves': WHATEVER THE INPUT: true; the input reads as it did. -/
def planMovesSpec : ChangeSpec := { name := "planMoves", fn := fun _ => fun
  | [d1, d2, d3] => { results := [.lit (.bool true)], args := [d1, d2, d3] }
  | _ => none }
def planMovesRow : OpenClaim := { program := "ytgedefcjngofkaa", sum := "e9375e751165d0302975d2941c737b274503f73064bd545c180120dc7f43b4d0", func := "polyglot/polyglotlaw32.PlanMoves", spec := "planMoves", unfollowed := true, recurses := true, apart := false }
def PlanMovesSaid : Prop := planMovesRow.holds Try.pinned (OpenSpec.ofChange planMovesSpec)

/-- ITS FALSE NEIGHBOUR: 'it returns false'. Refute it at one input. -/
def planMovesWrong : ChangeSpec := { name := "planMoves", fn := fun _ => fun
  | [d1, d2, d3] => { results := [.lit (.bool false)], args := [d1, d2, d3] }
  | _ => none }
def PlanMovesWrongFalsely : Prop := planMovesRow.holds Try.pinned (OpenSpec.ofChange planMovesWrong)

/-- 'polyglotlaw32.PlanApplies': WHATEVER THE INPUT: true; the input reads as it did. -/
def planAppliesSpec : ChangeSpec := { name := "planApplies", fn := fun _ => fun
  | [d1, d2] => { results := [.lit (.bool true)], args := [d1, d2] }
  | _ => none }
def planAppliesRow : OpenClaim := { program := "ytgedefcjngofkaa", sum := "e9375e751165d0302975d2941c737b274503f73064bd545c180120dc7f43b4d0", func := "polyglot/polyglotlaw32.PlanApplies", spec := "planApplies", unfollowed := true, recurses := true, apart := false }
def PlanAppliesSaid : Prop := planAppliesRow.holds Try.pinned (OpenSpec.ofChange planAppliesSpec)

/-- ITS FALSE NEIGHBOUR: 'it returns false'. Refute it at one input. -/
def planAppliesWrong : ChangeSpec := { name := "planApplies", fn := fun _ => fun
  | [d1, d2] => { results := [.lit (.bool false)], args := [d1, d2] }
  | _ => none }
def PlanAppliesWrongFalsely : Prop := planAppliesRow.holds Try.pinned (OpenSpec.ofChange planAppliesWrong)

/-- 'polyglotlaw32.PlanSafe': WHATEVER THE INPUT: true; the input reads as it did. -/
def planSafeSpec : ChangeSpec := { name := "planSafe", fn := fun _ => fun
  | [d1, d2, d3] => { results := [.lit (.bool true)], args := [d1, d2, d3] }
  | _ => none }
def planSafeRow : OpenClaim := { program := "ytgedefcjngofkaa", sum := "e9375e751165d0302975d2941c737b274503f73064bd545c180120dc7f43b4d0", func := "polyglot/polyglotlaw32.PlanSafe", spec := "planSafe", unfollowed := true, recurses := true, apart := false }
def PlanSafeSaid : Prop := planSafeRow.holds Try.pinned (OpenSpec.ofChange planSafeSpec)

/-- ITS FALSE NEIGHBOUR: 'it returns false'. Refute it at one input. -/
def planSafeWrong : ChangeSpec := { name := "planSafe", fn := fun _ => fun
  | [d1, d2, d3] => { results := [.lit (.bool false)], args := [d1, d2, d3] }
  | _ => none }
def PlanSafeWrongFalsely : Prop := planSafeRow.holds Try.pinned (OpenSpec.ofChange planSafeWrong)

/-- 'polyglotlaw33.CoordFinals': WHATEVER THE INPUT: true; the input reads as it did. -/
def coordFinalsSpec : ChangeSpec := { name := "coordFinals", fn := fun _ => fun
  | [d1, d2] => { results := [.lit (.bool true)], args := [d1, d2] }
  | _ => none }
def coordFinalsRow : OpenClaim := { program := "ytgedefcjngofkaa", sum := "e9375e751165d0302975d2941c737b274503f73064bd545c180120dc7f43b4d0", func := "polyglot/polyglotlaw33.CoordFinals", spec := "coordFinals", inPlace := ["sync/atomic.AddInt64", "sync/atomic.StoreInt64", "sync/atomic.StoreUint32", "sync/atomic.LoadUint32", "(*internal/sync.Mutex).Lock", "internal/race.Disable", "sync/atomic.CompareAndSwapInt32", "internal/race.Enable", "internal/race.Acquire", "(*internal/sync.Mutex).lockSlow", "internal/sync.runtime_canSpin", "internal/sync.runtime_doSpin", "internal/sync.throw", "internal/sync.runtime_nanotime", "internal/sync.runtime_SemacquireMutex", "sync/atomic.AddInt32", "(*internal/sync.Mutex).Unlock", "internal/race.ReleaseMerge", "(*internal/sync.Mutex).unlockSlow", "internal/sync.fatal", "internal/sync.runtime_Semrelease", "sync/atomic.LoadInt64"], unfollowed := true, recurses := true, apart := false }
def CoordFinalsSaid : Prop := coordFinalsRow.holds Try.pinned (OpenSpec.ofChange coordFinalsSpec)

/-- ITS FALSE NEIGHBOUR: 'it returns false'. Refute it at one input. -/
def coordFinalsWrong : ChangeSpec := { name := "coordFinals", fn := fun _ => fun
  | [d1, d2] => { results := [.lit (.bool false)], args := [d1, d2] }
  | _ => none }
def CoordFinalsWrongFalsely : Prop := coordFinalsRow.holds Try.pinned (OpenSpec.ofChange coordFinalsWrong)

/-- 'polyglotlaw33.CoordBegins': WHATEVER THE INPUT: true; the input reads as it did. -/
def coordBeginsSpec : ChangeSpec := { name := "coordBegins", fn := fun _ => fun
  | [d1, d2, d3] => { results := [.lit (.bool true)], args := [d1, d2, d3] }
  | _ => none }
def coordBeginsRow : OpenClaim := { program := "ytgedefcjngofkaa", sum := "e9375e751165d0302975d2941c737b274503f73064bd545c180120dc7f43b4d0", func := "polyglot/polyglotlaw33.CoordBegins", spec := "coordBegins", inPlace := ["sync/atomic.AddInt64", "sync/atomic.StoreInt64", "sync/atomic.StoreUint32", "sync/atomic.LoadUint32", "(*internal/sync.Mutex).Lock", "internal/race.Disable", "sync/atomic.CompareAndSwapInt32", "internal/race.Enable", "internal/race.Acquire", "(*internal/sync.Mutex).lockSlow", "internal/sync.runtime_canSpin", "internal/sync.runtime_doSpin", "internal/sync.throw", "internal/sync.runtime_nanotime", "internal/sync.runtime_SemacquireMutex", "sync/atomic.AddInt32", "(*internal/sync.Mutex).Unlock", "internal/race.ReleaseMerge", "(*internal/sync.Mutex).unlockSlow", "internal/sync.fatal", "internal/sync.runtime_Semrelease", "sync/atomic.LoadInt64"], unfollowed := true, recurses := true, apart := false }
def CoordBeginsSaid : Prop := coordBeginsRow.holds Try.pinned (OpenSpec.ofChange coordBeginsSpec)

/-- ITS FALSE NEIGHBOUR: 'it returns false'. Refute it at one input. -/
def coordBeginsWrong : ChangeSpec := { name := "coordBegins", fn := fun _ => fun
  | [d1, d2, d3] => { results := [.lit (.bool false)], args := [d1, d2, d3] }
  | _ => none }
def CoordBeginsWrongFalsely : Prop := coordBeginsRow.holds Try.pinned (OpenSpec.ofChange coordBeginsWrong)

/-- 'polyglotlaw33.CoordLeads': WHATEVER THE INPUT: true; the input reads as it did. -/
def coordLeadsSpec : ChangeSpec := { name := "coordLeads", fn := fun _ => fun
  | [d1, d2, d3] => { results := [.lit (.bool true)], args := [d1, d2, d3] }
  | _ => none }
def coordLeadsRow : OpenClaim := { program := "ytgedefcjngofkaa", sum := "e9375e751165d0302975d2941c737b274503f73064bd545c180120dc7f43b4d0", func := "polyglot/polyglotlaw33.CoordLeads", spec := "coordLeads", inPlace := ["sync/atomic.AddInt64", "sync/atomic.StoreInt64", "sync/atomic.StoreUint32", "sync/atomic.LoadUint32", "(*internal/sync.Mutex).Lock", "internal/race.Disable", "sync/atomic.CompareAndSwapInt32", "internal/race.Enable", "internal/race.Acquire", "(*internal/sync.Mutex).lockSlow", "internal/sync.runtime_canSpin", "internal/sync.runtime_doSpin", "internal/sync.throw", "internal/sync.runtime_nanotime", "internal/sync.runtime_SemacquireMutex", "sync/atomic.AddInt32", "(*internal/sync.Mutex).Unlock", "internal/race.ReleaseMerge", "(*internal/sync.Mutex).unlockSlow", "internal/sync.fatal", "internal/sync.runtime_Semrelease", "sync/atomic.LoadInt64"], unfollowed := true, recurses := true, apart := false }
def CoordLeadsSaid : Prop := coordLeadsRow.holds Try.pinned (OpenSpec.ofChange coordLeadsSpec)

/-- ITS FALSE NEIGHBOUR: 'it returns false'. Refute it at one input. -/
def coordLeadsWrong : ChangeSpec := { name := "coordLeads", fn := fun _ => fun
  | [d1, d2, d3] => { results := [.lit (.bool false)], args := [d1, d2, d3] }
  | _ => none }
def CoordLeadsWrongFalsely : Prop := coordLeadsRow.holds Try.pinned (OpenSpec.ofChange coordLeadsWrong)

/-- 'polyglotlaw47.RoutePaths': WHATEVER THE INPUT: true; the input reads as it did. -/
def routePathsSpec : ChangeSpec := { name := "routePaths", fn := fun _ => fun
  | [d1, d2, d3] => { results := [.lit (.bool true)], args := [d1, d2, d3] }
  | _ => none }
def routePathsRow : OpenClaim := { program := "ytgedefcjngofkaa", sum := "e9375e751165d0302975d2941c737b274503f73064bd545c180120dc7f43b4d0", func := "polyglot/polyglotlaw47.RoutePaths", spec := "routePaths", unfollowed := true, recurses := true, apart := false }
def RoutePathsSaid : Prop := routePathsRow.holds Try.pinned (OpenSpec.ofChange routePathsSpec)

/-- ITS FALSE NEIGHBOUR: 'it returns false'. Refute it at one input. -/
def routePathsWrong : ChangeSpec := { name := "routePaths", fn := fun _ => fun
  | [d1, d2, d3] => { results := [.lit (.bool false)], args := [d1, d2, d3] }
  | _ => none }
def RoutePathsWrongFalsely : Prop := routePathsRow.holds Try.pinned (OpenSpec.ofChange routePathsWrong)

/-- 'polyglotlaw47.RouteIslands': WHATEVER THE INPUT: true; the input reads as it did. -/
def routeIslandsSpec : ChangeSpec := { name := "routeIslands", fn := fun _ => fun
  | [d] => { results := [.lit (.bool true)], args := [d] }
  | _ => none }
def routeIslandsRow : OpenClaim := { program := "ytgedefcjngofkaa", sum := "e9375e751165d0302975d2941c737b274503f73064bd545c180120dc7f43b4d0", func := "polyglot/polyglotlaw47.RouteIslands", spec := "routeIslands", unfollowed := true, recurses := true, apart := false }
def RouteIslandsSaid : Prop := routeIslandsRow.holds Try.pinned (OpenSpec.ofChange routeIslandsSpec)

/-- ITS FALSE NEIGHBOUR: 'it returns false'. Refute it at one input. -/
def routeIslandsWrong : ChangeSpec := { name := "routeIslands", fn := fun _ => fun
  | [d] => { results := [.lit (.bool false)], args := [d] }
  | _ => none }
def RouteIslandsWrongFalsely : Prop := routeIslandsRow.holds Try.pinned (OpenSpec.ofChange routeIslandsWrong)

/-- 'polyglotlaw47.RouteLinks': WHATEVER THE INPUT: true; the input reads as it did. -/
def routeLinksSpec : ChangeSpec := { name := "routeLinks", fn := fun _ => fun
  | [d1, d2, d3] => { results := [.lit (.bool true)], args := [d1, d2, d3] }
  | _ => none }
def routeLinksRow : OpenClaim := { program := "ytgedefcjngofkaa", sum := "e9375e751165d0302975d2941c737b274503f73064bd545c180120dc7f43b4d0", func := "polyglot/polyglotlaw47.RouteLinks", spec := "routeLinks", unfollowed := true, recurses := true, apart := false }
def RouteLinksSaid : Prop := routeLinksRow.holds Try.pinned (OpenSpec.ofChange routeLinksSpec)

/-- ITS FALSE NEIGHBOUR: 'it returns false'. Refute it at one input. -/
def routeLinksWrong : ChangeSpec := { name := "routeLinks", fn := fun _ => fun
  | [d1, d2, d3] => { results := [.lit (.bool false)], args := [d1, d2, d3] }
  | _ => none }
def RouteLinksWrongFalsely : Prop := routeLinksRow.holds Try.pinned (OpenSpec.ofChange routeLinksWrong)

/-- 'polyglotlaw47.RouteHands': WHATEVER THE INPUT: true; the input reads as it did. -/
def routeHandsSpec : ChangeSpec := { name := "routeHands", fn := fun _ => fun
  | [d1, d2, d3, d4] => { results := [.lit (.bool true)], args := [d1, d2, d3, d4] }
  | _ => none }
def routeHandsRow : OpenClaim := { program := "ytgedefcjngofkaa", sum := "e9375e751165d0302975d2941c737b274503f73064bd545c180120dc7f43b4d0", func := "polyglot/polyglotlaw47.RouteHands", spec := "routeHands", unfollowed := true, recurses := true, apart := false }
def RouteHandsSaid : Prop := routeHandsRow.holds Try.pinned (OpenSpec.ofChange routeHandsSpec)

/-- ITS FALSE NEIGHBOUR: 'it returns false'. Refute it at one input. -/
def routeHandsWrong : ChangeSpec := { name := "routeHands", fn := fun _ => fun
  | [d1, d2, d3, d4] => { results := [.lit (.bool false)], args := [d1, d2, d3, d4] }
  | _ => none }
def RouteHandsWrongFalsely : Prop := routeHandsRow.holds Try.pinned (OpenSpec.ofChange routeHandsWrong)

/- THE SECOND FORM. 'bulk': how many values and letters a reading holds, each counted each time it is reached (what is shared counts as often as it is met; a slice's spare places count too). A statement '..UptoSaid' is the law's where the arguments, and the package variables that the reading takes, are together of bulk at most 1048576: NARROWER than '..Said'. Prove '..Said' where nothing that the law and all that it calls make is longer than what came in: it says more and counts as full. Else prove '..UptoSaid'. A law counts once. -/
mutual
def uptoBulk {H : Type} : DataW H → Nat
  | .lit (.string bytes) => bytes.length + 1
  | .lit _ => 1
  | .nil => 1
  | .ptr d => uptoBulk d + 1
  | .slice elems spare => uptoBulkAll elems + uptoBulkAll spare + 1
  | .agg parts => uptoBulkAll parts + 1
  | .iface _ d => uptoBulk d + 1
  | .map entries => uptoBulkEntries entries + 1
  | .held _ => 1
def uptoBulkAll {H : Type} : List (DataW H) → Nat
  | [] => 0
  | d :: r => uptoBulk d + uptoBulkAll r
def uptoBulkEntries {H : Type} : List (Lit × DataW H) → Nat
  | [] => 0
  | x :: r => uptoBulkEntry x + uptoBulkEntries r
def uptoBulkEntry {H : Type} : Lit × DataW H → Nat
  | (.string bytes, d) => bytes.length + uptoBulk d + 1
  | (_, d) => uptoBulk d + 1
 end
def uptoSmall : (H : Type) → List (DataW H) → Bool := fun _ ds => decide (uptoBulkAll ds ≤ 1048576)
def OpenSpec.upto (s : _root_.Go.ChangeSpec) : _root_.Go.OpenSpec := { _root_.Go.OpenSpec.ofChange s with cond := some uptoSmall }

/-- 'polyglotlaw32.PlanApart', WHERE WHAT IT READS IS OF BULK AT MOST 1048576: true; the input reads as it did. -/
def planApartUptoRow : OpenClaim := { program := "ytgedefcjngofkaa", sum := "e9375e751165d0302975d2941c737b274503f73064bd545c180120dc7f43b4d0", func := "polyglot/polyglotlaw32.PlanApart", spec := "planApart", unfollowed := true, recurses := true, apart := false, narrowed := true }
def PlanApartUptoSaid : Prop := planApartUptoRow.holds Try.pinned (OpenSpec.upto planApartSpec)

/-- 'polyglotlaw32.PlanMoves', WHERE WHAT IT READS IS OF BULK AT MOST 1048576: true; the input reads as it did. -/
def planMovesUptoRow : OpenClaim := { program := "ytgedefcjngofkaa", sum := "e9375e751165d0302975d2941c737b274503f73064bd545c180120dc7f43b4d0", func := "polyglot/polyglotlaw32.PlanMoves", spec := "planMoves", unfollowed := true, recurses := true, apart := false, narrowed := true }
def PlanMovesUptoSaid : Prop := planMovesUptoRow.holds Try.pinned (OpenSpec.upto planMovesSpec)

/-- 'polyglotlaw32.PlanApplies', WHERE WHAT IT READS IS OF BULK AT MOST 1048576: true; the input reads as it did. -/
def planAppliesUptoRow : OpenClaim := { program := "ytgedefcjngofkaa", sum := "e9375e751165d0302975d2941c737b274503f73064bd545c180120dc7f43b4d0", func := "polyglot/polyglotlaw32.PlanApplies", spec := "planApplies", unfollowed := true, recurses := true, apart := false, narrowed := true }
def PlanAppliesUptoSaid : Prop := planAppliesUptoRow.holds Try.pinned (OpenSpec.upto planAppliesSpec)

/-- 'polyglotlaw32.PlanSafe', WHERE WHAT IT READS IS OF BULK AT MOST 1048576: true; the input reads as it did. -/
def planSafeUptoRow : OpenClaim := { program := "ytgedefcjngofkaa", sum := "e9375e751165d0302975d2941c737b274503f73064bd545c180120dc7f43b4d0", func := "polyglot/polyglotlaw32.PlanSafe", spec := "planSafe", unfollowed := true, recurses := true, apart := false, narrowed := true }
def PlanSafeUptoSaid : Prop := planSafeUptoRow.holds Try.pinned (OpenSpec.upto planSafeSpec)

/-- 'polyglotlaw33.CoordFinals', WHERE WHAT IT READS IS OF BULK AT MOST 1048576: true; the input reads as it did. -/
def coordFinalsUptoRow : OpenClaim := { program := "ytgedefcjngofkaa", sum := "e9375e751165d0302975d2941c737b274503f73064bd545c180120dc7f43b4d0", func := "polyglot/polyglotlaw33.CoordFinals", spec := "coordFinals", inPlace := ["sync/atomic.AddInt64", "sync/atomic.StoreInt64", "sync/atomic.StoreUint32", "sync/atomic.LoadUint32", "(*internal/sync.Mutex).Lock", "internal/race.Disable", "sync/atomic.CompareAndSwapInt32", "internal/race.Enable", "internal/race.Acquire", "(*internal/sync.Mutex).lockSlow", "internal/sync.runtime_canSpin", "internal/sync.runtime_doSpin", "internal/sync.throw", "internal/sync.runtime_nanotime", "internal/sync.runtime_SemacquireMutex", "sync/atomic.AddInt32", "(*internal/sync.Mutex).Unlock", "internal/race.ReleaseMerge", "(*internal/sync.Mutex).unlockSlow", "internal/sync.fatal", "internal/sync.runtime_Semrelease", "sync/atomic.LoadInt64"], unfollowed := true, recurses := true, apart := false, narrowed := true }
def CoordFinalsUptoSaid : Prop := coordFinalsUptoRow.holds Try.pinned (OpenSpec.upto coordFinalsSpec)

/-- 'polyglotlaw33.CoordBegins', WHERE WHAT IT READS IS OF BULK AT MOST 1048576: true; the input reads as it did. -/
def coordBeginsUptoRow : OpenClaim := { program := "ytgedefcjngofkaa", sum := "e9375e751165d0302975d2941c737b274503f73064bd545c180120dc7f43b4d0", func := "polyglot/polyglotlaw33.CoordBegins", spec := "coordBegins", inPlace := ["sync/atomic.AddInt64", "sync/atomic.StoreInt64", "sync/atomic.StoreUint32", "sync/atomic.LoadUint32", "(*internal/sync.Mutex).Lock", "internal/race.Disable", "sync/atomic.CompareAndSwapInt32", "internal/race.Enable", "internal/race.Acquire", "(*internal/sync.Mutex).lockSlow", "internal/sync.runtime_canSpin", "internal/sync.runtime_doSpin", "internal/sync.throw", "internal/sync.runtime_nanotime", "internal/sync.runtime_SemacquireMutex", "sync/atomic.AddInt32", "(*internal/sync.Mutex).Unlock", "internal/race.ReleaseMerge", "(*internal/sync.Mutex).unlockSlow", "internal/sync.fatal", "internal/sync.runtime_Semrelease", "sync/atomic.LoadInt64"], unfollowed := true, recurses := true, apart := false, narrowed := true }
def CoordBeginsUptoSaid : Prop := coordBeginsUptoRow.holds Try.pinned (OpenSpec.upto coordBeginsSpec)

/-- 'polyglotlaw33.CoordLeads', WHERE WHAT IT READS IS OF BULK AT MOST 1048576: true; the input reads as it did. -/
def coordLeadsUptoRow : OpenClaim := { program := "ytgedefcjngofkaa", sum := "e9375e751165d0302975d2941c737b274503f73064bd545c180120dc7f43b4d0", func := "polyglot/polyglotlaw33.CoordLeads", spec := "coordLeads", inPlace := ["sync/atomic.AddInt64", "sync/atomic.StoreInt64", "sync/atomic.StoreUint32", "sync/atomic.LoadUint32", "(*internal/sync.Mutex).Lock", "internal/race.Disable", "sync/atomic.CompareAndSwapInt32", "internal/race.Enable", "internal/race.Acquire", "(*internal/sync.Mutex).lockSlow", "internal/sync.runtime_canSpin", "internal/sync.runtime_doSpin", "internal/sync.throw", "internal/sync.runtime_nanotime", "internal/sync.runtime_SemacquireMutex", "sync/atomic.AddInt32", "(*internal/sync.Mutex).Unlock", "internal/race.ReleaseMerge", "(*internal/sync.Mutex).unlockSlow", "internal/sync.fatal", "internal/sync.runtime_Semrelease", "sync/atomic.LoadInt64"], unfollowed := true, recurses := true, apart := false, narrowed := true }
def CoordLeadsUptoSaid : Prop := coordLeadsUptoRow.holds Try.pinned (OpenSpec.upto coordLeadsSpec)

/-- 'polyglotlaw47.RoutePaths', WHERE WHAT IT READS IS OF BULK AT MOST 1048576: true; the input reads as it did. -/
def routePathsUptoRow : OpenClaim := { program := "ytgedefcjngofkaa", sum := "e9375e751165d0302975d2941c737b274503f73064bd545c180120dc7f43b4d0", func := "polyglot/polyglotlaw47.RoutePaths", spec := "routePaths", unfollowed := true, recurses := true, apart := false, narrowed := true }
def RoutePathsUptoSaid : Prop := routePathsUptoRow.holds Try.pinned (OpenSpec.upto routePathsSpec)

/-- 'polyglotlaw47.RouteIslands', WHERE WHAT IT READS IS OF BULK AT MOST 1048576: true; the input reads as it did. -/
def routeIslandsUptoRow : OpenClaim := { program := "ytgedefcjngofkaa", sum := "e9375e751165d0302975d2941c737b274503f73064bd545c180120dc7f43b4d0", func := "polyglot/polyglotlaw47.RouteIslands", spec := "routeIslands", unfollowed := true, recurses := true, apart := false, narrowed := true }
def RouteIslandsUptoSaid : Prop := routeIslandsUptoRow.holds Try.pinned (OpenSpec.upto routeIslandsSpec)

/-- 'polyglotlaw47.RouteLinks', WHERE WHAT IT READS IS OF BULK AT MOST 1048576: true; the input reads as it did. -/
def routeLinksUptoRow : OpenClaim := { program := "ytgedefcjngofkaa", sum := "e9375e751165d0302975d2941c737b274503f73064bd545c180120dc7f43b4d0", func := "polyglot/polyglotlaw47.RouteLinks", spec := "routeLinks", unfollowed := true, recurses := true, apart := false, narrowed := true }
def RouteLinksUptoSaid : Prop := routeLinksUptoRow.holds Try.pinned (OpenSpec.upto routeLinksSpec)

/-- 'polyglotlaw47.RouteHands', WHERE WHAT IT READS IS OF BULK AT MOST 1048576: true; the input reads as it did. -/
def routeHandsUptoRow : OpenClaim := { program := "ytgedefcjngofkaa", sum := "e9375e751165d0302975d2941c737b274503f73064bd545c180120dc7f43b4d0", func := "polyglot/polyglotlaw47.RouteHands", spec := "routeHands", unfollowed := true, recurses := true, apart := false, narrowed := true }
def RouteHandsUptoSaid : Prop := routeHandsUptoRow.holds Try.pinned (OpenSpec.upto routeHandsSpec)

end Rows
end Go.Proofs.Ytgedefcjngofkaa
