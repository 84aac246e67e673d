/-
  No cell of these rows narrows 'for every input' (looked for: loops, veiled, ifaces, maps, wideKeys, modest, calm, conditions, laid).
  DERIVED. THE GIVEN ROWS OF THIS SEAT. 11 by the template 'for every input the law returns true; each argument reads behind the call as it read before'; 0 by the template 'total and deterministic' (their statements: YtmcihijobilcgaaTotals.lean).
  GIVEN WITH THE SEED: the statements are not yours to turn. If you find one false, say at which input.
  Laid BY PROGRAM, IN A SANDBOX (cutbox-rows.mjs): the forced cells as the released guide's own fill.sh prints them over the translation 01fae025dd11dd52… (all of the seat's roots in one cut). By AI agents, Wed Nov 11 2026. No macro, syntax, notation, axiom, sorry.
-/
import Derived.Test.YtmcihijobilcgaaChecked
import GoSem.Claim
import GoSem.ClaimJoined
import GoSem.ClaimMapViews
import Derived.JoinedTies
import Derived.KernelRfl
namespace Go.Proofs.Ytmcihijobilcgaa
/- THE CELL 'sum', in the pinned program and in every row, IS THE sha256 OF THE DUMP (.gsa) THAT YtmcihijobilcgaaProg.lean LOADS. Nothing in Lean hashes anything: it is a label: what it is worth is what the hold of that sum in a sandbox is worth. -/
noncomputable def Try.pinned : Pinned := { name := "ytmcihijobilcgaa", sum := "01fae025dd11dd525dd0692afde6d7a38c236c37b6b51aa6e1e5b20344776e8f", checked := Try.checked }
namespace Rows
def none {H : Type} : Left H := { results := [], args := [] }

/-- 'remouldlaw01.CasingTables': WHATEVER THE INPUT: true; the input reads as it did. -/
def casingTablesSpec : ChangeSpec := { name := "casingTables", fn := fun _ => fun
  | [d1, d2] => { results := [.lit (.bool true)], args := [d1, d2] }
  | _ => none }
def casingTablesRow : OpenClaim := { program := "ytmcihijobilcgaa", sum := "01fae025dd11dd525dd0692afde6d7a38c236c37b6b51aa6e1e5b20344776e8f", func := "remould/remouldlaw01.CasingTables", spec := "casingTables", inPlace := ["internal/bytealg.IndexByteString"], unfollowed := true, recurses := true, plainKeys := false, apart := false }
def CasingTablesSaid : Prop := casingTablesRow.holds Try.pinned (OpenSpec.ofChange casingTablesSpec)

/-- ITS FALSE NEIGHBOUR: 'it returns false'. Refute it at one input. -/
def casingTablesWrong : ChangeSpec := { name := "casingTables", fn := fun _ => fun
  | [d1, d2] => { results := [.lit (.bool false)], args := [d1, d2] }
  | _ => none }
def CasingTablesWrongFalsely : Prop := casingTablesRow.holds Try.pinned (OpenSpec.ofChange casingTablesWrong)

/-- 'remouldlaw01.CasingFactors': WHATEVER THE INPUT: true; the input reads as it did. -/
def casingFactorsSpec : ChangeSpec := { name := "casingFactors", fn := fun _ => fun
  | [d] => { results := [.lit (.bool true)], args := [d] }
  | _ => none }
def casingFactorsRow : OpenClaim := { program := "ytmcihijobilcgaa", sum := "01fae025dd11dd525dd0692afde6d7a38c236c37b6b51aa6e1e5b20344776e8f", func := "remould/remouldlaw01.CasingFactors", spec := "casingFactors", inPlace := ["internal/bytealg.IndexByteString"], unfollowed := true, recurses := true, plainKeys := false, apart := false }
def CasingFactorsSaid : Prop := casingFactorsRow.holds Try.pinned (OpenSpec.ofChange casingFactorsSpec)

/-- ITS FALSE NEIGHBOUR: 'it returns false'. Refute it at one input. -/
def casingFactorsWrong : ChangeSpec := { name := "casingFactors", fn := fun _ => fun
  | [d] => { results := [.lit (.bool false)], args := [d] }
  | _ => none }
def CasingFactorsWrongFalsely : Prop := casingFactorsRow.holds Try.pinned (OpenSpec.ofChange casingFactorsWrong)

/-- 'remouldlaw01.CasingFree': WHATEVER THE INPUT: true; the input reads as it did. -/
def casingFreeSpec : ChangeSpec := { name := "casingFree", fn := fun _ => fun
  | [d1, d2, d3] => { results := [.lit (.bool true)], args := [d1, d2, d3] }
  | _ => none }
def casingFreeRow : OpenClaim := { program := "ytmcihijobilcgaa", sum := "01fae025dd11dd525dd0692afde6d7a38c236c37b6b51aa6e1e5b20344776e8f", func := "remould/remouldlaw01.CasingFree", spec := "casingFree", inPlace := ["internal/bytealg.IndexByteString"], unfollowed := true, recurses := true, plainKeys := false, apart := false }
def CasingFreeSaid : Prop := casingFreeRow.holds Try.pinned (OpenSpec.ofChange casingFreeSpec)

/-- ITS FALSE NEIGHBOUR: 'it returns false'. Refute it at one input. -/
def casingFreeWrong : ChangeSpec := { name := "casingFree", fn := fun _ => fun
  | [d1, d2, d3] => { results := [.lit (.bool false)], args := [d1, d2, d3] }
  | _ => none }
def CasingFreeWrongFalsely : Prop := casingFreeRow.holds Try.pinned (OpenSpec.ofChange casingFreeWrong)

/-- 'remouldlaw01.CasingCyclic': WHATEVER THE INPUT: true; the input reads as it did. -/
def casingCyclicSpec : ChangeSpec := { name := "casingCyclic", fn := fun _ => fun
  | [d1, d2] => { results := [.lit (.bool true)], args := [d1, d2] }
  | _ => none }
def casingCyclicRow : OpenClaim := { program := "ytmcihijobilcgaa", sum := "01fae025dd11dd525dd0692afde6d7a38c236c37b6b51aa6e1e5b20344776e8f", func := "remould/remouldlaw01.CasingCyclic", spec := "casingCyclic", inPlace := ["internal/bytealg.IndexByteString"], unfollowed := true, recurses := true, plainKeys := false, apart := false }
def CasingCyclicSaid : Prop := casingCyclicRow.holds Try.pinned (OpenSpec.ofChange casingCyclicSpec)

/-- ITS FALSE NEIGHBOUR: 'it returns false'. Refute it at one input. -/
def casingCyclicWrong : ChangeSpec := { name := "casingCyclic", fn := fun _ => fun
  | [d1, d2] => { results := [.lit (.bool false)], args := [d1, d2] }
  | _ => none }
def CasingCyclicWrongFalsely : Prop := casingCyclicRow.holds Try.pinned (OpenSpec.ofChange casingCyclicWrong)

/-- 'remouldlaw01.CasingPairs': WHATEVER THE INPUT: true; the input reads as it did. -/
def casingPairsSpec : ChangeSpec := { name := "casingPairs", fn := fun _ => fun
  | [d1, d2] => { results := [.lit (.bool true)], args := [d1, d2] }
  | _ => none }
def casingPairsRow : OpenClaim := { program := "ytmcihijobilcgaa", sum := "01fae025dd11dd525dd0692afde6d7a38c236c37b6b51aa6e1e5b20344776e8f", func := "remould/remouldlaw01.CasingPairs", spec := "casingPairs", inPlace := ["internal/bytealg.IndexByteString"], unfollowed := true, recurses := true, plainKeys := false, apart := false }
def CasingPairsSaid : Prop := casingPairsRow.holds Try.pinned (OpenSpec.ofChange casingPairsSpec)

/-- ITS FALSE NEIGHBOUR: 'it returns false'. Refute it at one input. -/
def casingPairsWrong : ChangeSpec := { name := "casingPairs", fn := fun _ => fun
  | [d1, d2] => { results := [.lit (.bool false)], args := [d1, d2] }
  | _ => none }
def CasingPairsWrongFalsely : Prop := casingPairsRow.holds Try.pinned (OpenSpec.ofChange casingPairsWrong)

/-- 'remouldlaw01.CasingReduces': WHATEVER THE INPUT: true; the input reads as it did. -/
def casingReducesSpec : ChangeSpec := { name := "casingReduces", fn := fun _ => fun
  | [d1, d2] => { results := [.lit (.bool true)], args := [d1, d2] }
  | _ => none }
def casingReducesRow : OpenClaim := { program := "ytmcihijobilcgaa", sum := "01fae025dd11dd525dd0692afde6d7a38c236c37b6b51aa6e1e5b20344776e8f", func := "remould/remouldlaw01.CasingReduces", spec := "casingReduces", inPlace := ["internal/bytealg.IndexByteString"], unfollowed := true, recurses := true, plainKeys := false, apart := false }
def CasingReducesSaid : Prop := casingReducesRow.holds Try.pinned (OpenSpec.ofChange casingReducesSpec)

/-- ITS FALSE NEIGHBOUR: 'it returns false'. Refute it at one input. -/
def casingReducesWrong : ChangeSpec := { name := "casingReduces", fn := fun _ => fun
  | [d1, d2] => { results := [.lit (.bool false)], args := [d1, d2] }
  | _ => none }
def CasingReducesWrongFalsely : Prop := casingReducesRow.holds Try.pinned (OpenSpec.ofChange casingReducesWrong)

/-- 'remouldlaw01.CasingKeeps': WHATEVER THE INPUT: true; the input reads as it did. -/
def casingKeepsSpec : ChangeSpec := { name := "casingKeeps", fn := fun _ => fun
  | [d1, d2] => { results := [.lit (.bool true)], args := [d1, d2] }
  | _ => none }
def casingKeepsRow : OpenClaim := { program := "ytmcihijobilcgaa", sum := "01fae025dd11dd525dd0692afde6d7a38c236c37b6b51aa6e1e5b20344776e8f", func := "remould/remouldlaw01.CasingKeeps", spec := "casingKeeps", inPlace := ["internal/bytealg.IndexByteString"], unfollowed := true, recurses := true, plainKeys := false, apart := false }
def CasingKeepsSaid : Prop := casingKeepsRow.holds Try.pinned (OpenSpec.ofChange casingKeepsSpec)

/-- ITS FALSE NEIGHBOUR: 'it returns false'. Refute it at one input. -/
def casingKeepsWrong : ChangeSpec := { name := "casingKeeps", fn := fun _ => fun
  | [d1, d2] => { results := [.lit (.bool false)], args := [d1, d2] }
  | _ => none }
def CasingKeepsWrongFalsely : Prop := casingKeepsRow.holds Try.pinned (OpenSpec.ofChange casingKeepsWrong)

/-- 'remouldlaw01.CasingSends': WHATEVER THE INPUT: true; the input reads as it did. -/
def casingSendsSpec : ChangeSpec := { name := "casingSends", fn := fun _ => fun
  | [d1, d2, d3] => { results := [.lit (.bool true)], args := [d1, d2, d3] }
  | _ => none }
def casingSendsRow : OpenClaim := { program := "ytmcihijobilcgaa", sum := "01fae025dd11dd525dd0692afde6d7a38c236c37b6b51aa6e1e5b20344776e8f", func := "remould/remouldlaw01.CasingSends", spec := "casingSends", inPlace := ["internal/bytealg.IndexByteString"], unfollowed := true, recurses := true, plainKeys := false, apart := false }
def CasingSendsSaid : Prop := casingSendsRow.holds Try.pinned (OpenSpec.ofChange casingSendsSpec)

/-- ITS FALSE NEIGHBOUR: 'it returns false'. Refute it at one input. -/
def casingSendsWrong : ChangeSpec := { name := "casingSends", fn := fun _ => fun
  | [d1, d2, d3] => { results := [.lit (.bool false)], args := [d1, d2, d3] }
  | _ => none }
def CasingSendsWrongFalsely : Prop := casingSendsRow.holds Try.pinned (OpenSpec.ofChange casingSendsWrong)

/-- 'remouldlaw01.CasingMore': WHATEVER THE INPUT: true; the input reads as it did. -/
def casingMoreSpec : ChangeSpec := { name := "casingMore", fn := fun _ => fun
  | [d1, d2, d3, d4] => { results := [.lit (.bool true)], args := [d1, d2, d3, d4] }
  | _ => none }
def casingMoreRow : OpenClaim := { program := "ytmcihijobilcgaa", sum := "01fae025dd11dd525dd0692afde6d7a38c236c37b6b51aa6e1e5b20344776e8f", func := "remould/remouldlaw01.CasingMore", spec := "casingMore", inPlace := ["internal/bytealg.IndexByteString"], unfollowed := true, recurses := true, plainKeys := false, apart := false }
def CasingMoreSaid : Prop := casingMoreRow.holds Try.pinned (OpenSpec.ofChange casingMoreSpec)

/-- ITS FALSE NEIGHBOUR: 'it returns false'. Refute it at one input. -/
def casingMoreWrong : ChangeSpec := { name := "casingMore", fn := fun _ => fun
  | [d1, d2, d3, d4] => { results := [.lit (.bool false)], args := [d1, d2, d3, d4] }
  | _ => none }
def CasingMoreWrongFalsely : Prop := casingMoreRow.holds Try.pinned (OpenSpec.ofChange casingMoreWrong)

/-- 'remouldlaw01.CasingWays': WHATEVER THE INPUT: true; the input reads as it did. -/
def casingWaysSpec : ChangeSpec := { name := "casingWays", fn := fun _ => fun
  | [d] => { results := [.lit (.bool true)], args := [d] }
  | _ => none }
def casingWaysRow : OpenClaim := { program := "ytmcihijobilcgaa", sum := "01fae025dd11dd525dd0692afde6d7a38c236c37b6b51aa6e1e5b20344776e8f", func := "remould/remouldlaw01.CasingWays", spec := "casingWays", inPlace := ["internal/bytealg.IndexByteString"], unfollowed := true, recurses := true, plainKeys := false, apart := false }
def CasingWaysSaid : Prop := casingWaysRow.holds Try.pinned (OpenSpec.ofChange casingWaysSpec)

/-- ITS FALSE NEIGHBOUR: 'it returns false'. Refute it at one input. -/
def casingWaysWrong : ChangeSpec := { name := "casingWays", fn := fun _ => fun
  | [d] => { results := [.lit (.bool false)], args := [d] }
  | _ => none }
def CasingWaysWrongFalsely : Prop := casingWaysRow.holds Try.pinned (OpenSpec.ofChange casingWaysWrong)

/-- 'remouldlaw01.CasingCounts': WHATEVER THE INPUT: true; the input reads as it did. -/
def casingCountsSpec : ChangeSpec := { name := "casingCounts", fn := fun _ => fun
  | [d1, d2] => { results := [.lit (.bool true)], args := [d1, d2] }
  | _ => none }
def casingCountsRow : OpenClaim := { program := "ytmcihijobilcgaa", sum := "01fae025dd11dd525dd0692afde6d7a38c236c37b6b51aa6e1e5b20344776e8f", func := "remould/remouldlaw01.CasingCounts", spec := "casingCounts", inPlace := ["internal/bytealg.IndexByteString"], unfollowed := true, recurses := true, plainKeys := false, apart := false }
def CasingCountsSaid : Prop := casingCountsRow.holds Try.pinned (OpenSpec.ofChange casingCountsSpec)

/-- ITS FALSE NEIGHBOUR: 'it returns false'. Refute it at one input. -/
def casingCountsWrong : ChangeSpec := { name := "casingCounts", fn := fun _ => fun
  | [d1, d2] => { results := [.lit (.bool false)], args := [d1, d2] }
  | _ => none }
def CasingCountsWrongFalsely : Prop := casingCountsRow.holds Try.pinned (OpenSpec.ofChange casingCountsWrong)

/- THE SECOND FORM. 'bulk': how many values and letters a reading holds, each counted each time it is reached (what is shared counts as often as it is met; a slice's spare places count too). A statement '..UptoSaid' is the law's where the arguments, and the package variables that the reading takes, are together of bulk at most 1048576: NARROWER than '..Said'. Prove '..Said' where nothing that the law and all that it calls make is longer than what came in: it says more and counts as full. Else prove '..UptoSaid'. A law counts once. -/
mutual
def uptoBulk {H : Type} : DataW H → Nat
  | .lit (.string bytes) => bytes.length + 1
  | .lit _ => 1
  | .nil => 1
  | .ptr d => uptoBulk d + 1
  | .slice elems spare => uptoBulkAll elems + uptoBulkAll spare + 1
  | .agg parts => uptoBulkAll parts + 1
  | .iface _ d => uptoBulk d + 1
  | .map entries => uptoBulkEntries entries + 1
  | .held _ => 1
def uptoBulkAll {H : Type} : List (DataW H) → Nat
  | [] => 0
  | d :: r => uptoBulk d + uptoBulkAll r
def uptoBulkEntries {H : Type} : List (Lit × DataW H) → Nat
  | [] => 0
  | x :: r => uptoBulkEntry x + uptoBulkEntries r
def uptoBulkEntry {H : Type} : Lit × DataW H → Nat
  | (.string bytes, d) => bytes.length + uptoBulk d + 1
  | (_, d) => uptoBulk d + 1
 end
def uptoSmall : (H : Type) → List (DataW H) → Bool := fun _ ds => decide (uptoBulkAll ds ≤ 1048576)
def OpenSpec.upto (s : _root_.Go.ChangeSpec) : _root_.Go.OpenSpec := { _root_.Go.OpenSpec.ofChange s with cond := some uptoSmall }

/-- 'remouldlaw01.CasingTables', WHERE WHAT IT READS IS OF BULK AT MOST 1048576: true; the input reads as it did. -/
def casingTablesUptoRow : OpenClaim := { program := "ytmcihijobilcgaa", sum := "01fae025dd11dd525dd0692afde6d7a38c236c37b6b51aa6e1e5b20344776e8f", func := "remould/remouldlaw01.CasingTables", spec := "casingTables", inPlace := ["internal/bytealg.IndexByteString"], unfollowed := true, recurses := true, plainKeys := false, apart := false, narrowed := true }
def CasingTablesUptoSaid : Prop := casingTablesUptoRow.holds Try.pinned (OpenSpec.upto casingTablesSpec)

/-- 'remouldlaw01.CasingFactors', WHERE WHAT IT READS IS OF BULK AT MOST 1048576: true; the input reads as it did. -/
def casingFactorsUptoRow : OpenClaim := { program := "ytmcihijobilcgaa", sum := "01fae025dd11dd525dd0692afde6d7a38c236c37b6b51aa6e1e5b20344776e8f", func := "remould/remouldlaw01.CasingFactors", spec := "casingFactors", inPlace := ["internal/bytealg.IndexByteString"], unfollowed := true, recurses := true, plainKeys := false, apart := false, narrowed := true }
def CasingFactorsUptoSaid : Prop := casingFactorsUptoRow.holds Try.pinned (OpenSpec.upto casingFactorsSpec)

/-- 'remouldlaw01.CasingFree', WHERE WHAT IT READS IS OF BULK AT MOST 1048576: true; the input reads as it did. -/
def casingFreeUptoRow : OpenClaim := { program := "ytmcihijobilcgaa", sum := "01fae025dd11dd525dd0692afde6d7a38c236c37b6b51aa6e1e5b20344776e8f", func := "remould/remouldlaw01.CasingFree", spec := "casingFree", inPlace := ["internal/bytealg.IndexByteString"], unfollowed := true, recurses := true, plainKeys := false, apart := false, narrowed := true }
def CasingFreeUptoSaid : Prop := casingFreeUptoRow.holds Try.pinned (OpenSpec.upto casingFreeSpec)

/-- 'remouldlaw01.CasingCyclic', WHERE WHAT IT READS IS OF BULK AT MOST 1048576: true; the input reads as it did. -/
def casingCyclicUptoRow : OpenClaim := { program := "ytmcihijobilcgaa", sum := "01fae025dd11dd525dd0692afde6d7a38c236c37b6b51aa6e1e5b20344776e8f", func := "remould/remouldlaw01.CasingCyclic", spec := "casingCyclic", inPlace := ["internal/bytealg.IndexByteString"], unfollowed := true, recurses := true, plainKeys := false, apart := false, narrowed := true }
def CasingCyclicUptoSaid : Prop := casingCyclicUptoRow.holds Try.pinned (OpenSpec.upto casingCyclicSpec)

/-- 'remouldlaw01.CasingPairs', WHERE WHAT IT READS IS OF BULK AT MOST 1048576: true; the input reads as it did. -/
def casingPairsUptoRow : OpenClaim := { program := "ytmcihijobilcgaa", sum := "01fae025dd11dd525dd0692afde6d7a38c236c37b6b51aa6e1e5b20344776e8f", func := "remould/remouldlaw01.CasingPairs", spec := "casingPairs", inPlace := ["internal/bytealg.IndexByteString"], unfollowed := true, recurses := true, plainKeys := false, apart := false, narrowed := true }
def CasingPairsUptoSaid : Prop := casingPairsUptoRow.holds Try.pinned (OpenSpec.upto casingPairsSpec)

/-- 'remouldlaw01.CasingReduces', WHERE WHAT IT READS IS OF BULK AT MOST 1048576: true; the input reads as it did. -/
def casingReducesUptoRow : OpenClaim := { program := "ytmcihijobilcgaa", sum := "01fae025dd11dd525dd0692afde6d7a38c236c37b6b51aa6e1e5b20344776e8f", func := "remould/remouldlaw01.CasingReduces", spec := "casingReduces", inPlace := ["internal/bytealg.IndexByteString"], unfollowed := true, recurses := true, plainKeys := false, apart := false, narrowed := true }
def CasingReducesUptoSaid : Prop := casingReducesUptoRow.holds Try.pinned (OpenSpec.upto casingReducesSpec)

/-- 'remouldlaw01.CasingKeeps', WHERE WHAT IT READS IS OF BULK AT MOST 1048576: true; the input reads as it did. -/
def casingKeepsUptoRow : OpenClaim := { program := "ytmcihijobilcgaa", sum := "01fae025dd11dd525dd0692afde6d7a38c236c37b6b51aa6e1e5b20344776e8f", func := "remould/remouldlaw01.CasingKeeps", spec := "casingKeeps", inPlace := ["internal/bytealg.IndexByteString"], unfollowed := true, recurses := true, plainKeys := false, apart := false, narrowed := true }
def CasingKeepsUptoSaid : Prop := casingKeepsUptoRow.holds Try.pinned (OpenSpec.upto casingKeepsSpec)

/-- 'remouldlaw01.CasingSends', WHERE WHAT IT READS IS OF BULK AT MOST 1048576: true; the input reads as it did. -/
def casingSendsUptoRow : OpenClaim := { program := "ytmcihijobilcgaa", sum := "01fae025dd11dd525dd0692afde6d7a38c236c37b6b51aa6e1e5b20344776e8f", func := "remould/remouldlaw01.CasingSends", spec := "casingSends", inPlace := ["internal/bytealg.IndexByteString"], unfollowed := true, recurses := true, plainKeys := false, apart := false, narrowed := true }
def CasingSendsUptoSaid : Prop := casingSendsUptoRow.holds Try.pinned (OpenSpec.upto casingSendsSpec)

/-- 'remouldlaw01.CasingMore', WHERE WHAT IT READS IS OF BULK AT MOST 1048576: true; the input reads as it did. -/
def casingMoreUptoRow : OpenClaim := { program := "ytmcihijobilcgaa", sum := "01fae025dd11dd525dd0692afde6d7a38c236c37b6b51aa6e1e5b20344776e8f", func := "remould/remouldlaw01.CasingMore", spec := "casingMore", inPlace := ["internal/bytealg.IndexByteString"], unfollowed := true, recurses := true, plainKeys := false, apart := false, narrowed := true }
def CasingMoreUptoSaid : Prop := casingMoreUptoRow.holds Try.pinned (OpenSpec.upto casingMoreSpec)

/-- 'remouldlaw01.CasingWays', WHERE WHAT IT READS IS OF BULK AT MOST 1048576: true; the input reads as it did. -/
def casingWaysUptoRow : OpenClaim := { program := "ytmcihijobilcgaa", sum := "01fae025dd11dd525dd0692afde6d7a38c236c37b6b51aa6e1e5b20344776e8f", func := "remould/remouldlaw01.CasingWays", spec := "casingWays", inPlace := ["internal/bytealg.IndexByteString"], unfollowed := true, recurses := true, plainKeys := false, apart := false, narrowed := true }
def CasingWaysUptoSaid : Prop := casingWaysUptoRow.holds Try.pinned (OpenSpec.upto casingWaysSpec)

/-- 'remouldlaw01.CasingCounts', WHERE WHAT IT READS IS OF BULK AT MOST 1048576: true; the input reads as it did. -/
def casingCountsUptoRow : OpenClaim := { program := "ytmcihijobilcgaa", sum := "01fae025dd11dd525dd0692afde6d7a38c236c37b6b51aa6e1e5b20344776e8f", func := "remould/remouldlaw01.CasingCounts", spec := "casingCounts", inPlace := ["internal/bytealg.IndexByteString"], unfollowed := true, recurses := true, plainKeys := false, apart := false, narrowed := true }
def CasingCountsUptoSaid : Prop := casingCountsUptoRow.holds Try.pinned (OpenSpec.upto casingCountsSpec)

end Rows
end Go.Proofs.Ytmcihijobilcgaa
