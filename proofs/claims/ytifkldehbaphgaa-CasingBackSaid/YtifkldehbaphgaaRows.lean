/-
  No cell of these rows narrows 'for every input' (looked for: loops, veiled, ifaces, maps, wideKeys, modest, calm, conditions, laid).
  DERIVED. THE GIVEN ROWS OF THIS SEAT. 12 by the template 'for every input the law returns true; each argument reads behind the call as it read before'; 0 by the template 'total and deterministic' (their statements: YtifkldehbaphgaaTotals.lean).
  GIVEN WITH THE SEED: the statements are not yours to turn. If you find one false, say at which input.
  Laid BY PROGRAM, IN A SANDBOX (cutbox-rows.mjs): the forced cells as the released guide's own fill.sh prints them over the translation 84d20ad16246825a… (all of the seat's roots in one cut). By AI agents, Wed Nov 11 2026. No macro, syntax, notation, axiom, sorry.
-/
import Derived.Test.YtifkldehbaphgaaChecked
import GoSem.Claim
import GoSem.ClaimJoined
import GoSem.ClaimMapViews
import Derived.JoinedTies
import Derived.KernelRfl
namespace Go.Proofs.Ytifkldehbaphgaa
/- THE CELL 'sum', in the pinned program and in every row, IS THE sha256 OF THE DUMP (.gsa) THAT YtifkldehbaphgaaProg.lean LOADS. Nothing in Lean hashes anything: it is a label: what it is worth is what the hold of that sum in a sandbox is worth. -/
noncomputable def Try.pinned : Pinned := { name := "ytifkldehbaphgaa", sum := "84d20ad16246825aa4d0f38f539790128dd1308a0a73d4dccbf82addbf5105d9", checked := Try.checked }
namespace Rows
def none {H : Type} : Left H := { results := [], args := [] }

/-- 'remouldlaw01.CasingLoops': WHATEVER THE INPUT: true; the input reads as it did. -/
def casingLoopsSpec : ChangeSpec := { name := "casingLoops", fn := fun _ => fun
  | [d1, d2, d3, d4, d5] => { results := [.lit (.bool true)], args := [d1, d2, d3, d4, d5] }
  | _ => none }
def casingLoopsRow : OpenClaim := { program := "ytifkldehbaphgaa", sum := "84d20ad16246825aa4d0f38f539790128dd1308a0a73d4dccbf82addbf5105d9", func := "remould/remouldlaw01.CasingLoops", spec := "casingLoops", inPlace := ["internal/bytealg.IndexByteString"], unfollowed := true, recurses := true, plainKeys := false, apart := false }
def CasingLoopsSaid : Prop := casingLoopsRow.holds Try.pinned (OpenSpec.ofChange casingLoopsSpec)

/-- ITS FALSE NEIGHBOUR: 'it returns false'. Refute it at one input. -/
def casingLoopsWrong : ChangeSpec := { name := "casingLoops", fn := fun _ => fun
  | [d1, d2, d3, d4, d5] => { results := [.lit (.bool false)], args := [d1, d2, d3, d4, d5] }
  | _ => none }
def CasingLoopsWrongFalsely : Prop := casingLoopsRow.holds Try.pinned (OpenSpec.ofChange casingLoopsWrong)

/-- 'remouldlaw01.CasingWritten': WHATEVER THE INPUT: true; the input reads as it did. -/
def casingWrittenSpec : ChangeSpec := { name := "casingWritten", fn := fun _ => fun
  | [d1, d2, d3, d4, d5] => { results := [.lit (.bool true)], args := [d1, d2, d3, d4, d5] }
  | _ => none }
def casingWrittenRow : OpenClaim := { program := "ytifkldehbaphgaa", sum := "84d20ad16246825aa4d0f38f539790128dd1308a0a73d4dccbf82addbf5105d9", func := "remould/remouldlaw01.CasingWritten", spec := "casingWritten", inPlace := ["internal/bytealg.IndexByteString"], unfollowed := true, recurses := true, plainKeys := false, apart := false }
def CasingWrittenSaid : Prop := casingWrittenRow.holds Try.pinned (OpenSpec.ofChange casingWrittenSpec)

/-- ITS FALSE NEIGHBOUR: 'it returns false'. Refute it at one input. -/
def casingWrittenWrong : ChangeSpec := { name := "casingWritten", fn := fun _ => fun
  | [d1, d2, d3, d4, d5] => { results := [.lit (.bool false)], args := [d1, d2, d3, d4, d5] }
  | _ => none }
def CasingWrittenWrongFalsely : Prop := casingWrittenRow.holds Try.pinned (OpenSpec.ofChange casingWrittenWrong)

/-- 'remouldlaw01.CasingComposed': WHATEVER THE INPUT: true; the input reads as it did. -/
def casingComposedSpec : ChangeSpec := { name := "casingComposed", fn := fun _ => fun
  | [d1, d2, d3, d4, d5, d6] => { results := [.lit (.bool true)], args := [d1, d2, d3, d4, d5, d6] }
  | _ => none }
def casingComposedRow : OpenClaim := { program := "ytifkldehbaphgaa", sum := "84d20ad16246825aa4d0f38f539790128dd1308a0a73d4dccbf82addbf5105d9", func := "remould/remouldlaw01.CasingComposed", spec := "casingComposed", inPlace := ["internal/bytealg.IndexByteString"], unfollowed := true, recurses := true, plainKeys := false, apart := false }
def CasingComposedSaid : Prop := casingComposedRow.holds Try.pinned (OpenSpec.ofChange casingComposedSpec)

/-- ITS FALSE NEIGHBOUR: 'it returns false'. Refute it at one input. -/
def casingComposedWrong : ChangeSpec := { name := "casingComposed", fn := fun _ => fun
  | [d1, d2, d3, d4, d5, d6] => { results := [.lit (.bool false)], args := [d1, d2, d3, d4, d5, d6] }
  | _ => none }
def CasingComposedWrongFalsely : Prop := casingComposedRow.holds Try.pinned (OpenSpec.ofChange casingComposedWrong)

/-- 'remouldlaw01.CasingRenumbers': WHATEVER THE INPUT: true; the input reads as it did. -/
def casingRenumbersSpec : ChangeSpec := { name := "casingRenumbers", fn := fun _ => fun
  | [d1, d2] => { results := [.lit (.bool true)], args := [d1, d2] }
  | _ => none }
def casingRenumbersRow : OpenClaim := { program := "ytifkldehbaphgaa", sum := "84d20ad16246825aa4d0f38f539790128dd1308a0a73d4dccbf82addbf5105d9", func := "remould/remouldlaw01.CasingRenumbers", spec := "casingRenumbers", inPlace := ["internal/bytealg.IndexByteString"], unfollowed := true, recurses := true, plainKeys := false, apart := false }
def CasingRenumbersSaid : Prop := casingRenumbersRow.holds Try.pinned (OpenSpec.ofChange casingRenumbersSpec)

/-- ITS FALSE NEIGHBOUR: 'it returns false'. Refute it at one input. -/
def casingRenumbersWrong : ChangeSpec := { name := "casingRenumbers", fn := fun _ => fun
  | [d1, d2] => { results := [.lit (.bool false)], args := [d1, d2] }
  | _ => none }
def CasingRenumbersWrongFalsely : Prop := casingRenumbersRow.holds Try.pinned (OpenSpec.ofChange casingRenumbersWrong)

/-- 'remouldlaw01.CasingNormals': WHATEVER THE INPUT: true; the input reads as it did. -/
def casingNormalsSpec : ChangeSpec := { name := "casingNormals", fn := fun _ => fun
  | [d] => { results := [.lit (.bool true)], args := [d] }
  | _ => none }
def casingNormalsRow : OpenClaim := { program := "ytifkldehbaphgaa", sum := "84d20ad16246825aa4d0f38f539790128dd1308a0a73d4dccbf82addbf5105d9", func := "remould/remouldlaw01.CasingNormals", spec := "casingNormals", inPlace := ["internal/bytealg.IndexByteString"], unfollowed := true, recurses := true, plainKeys := false, apart := false }
def CasingNormalsSaid : Prop := casingNormalsRow.holds Try.pinned (OpenSpec.ofChange casingNormalsSpec)

/-- ITS FALSE NEIGHBOUR: 'it returns false'. Refute it at one input. -/
def casingNormalsWrong : ChangeSpec := { name := "casingNormals", fn := fun _ => fun
  | [d] => { results := [.lit (.bool false)], args := [d] }
  | _ => none }
def CasingNormalsWrongFalsely : Prop := casingNormalsRow.holds Try.pinned (OpenSpec.ofChange casingNormalsWrong)

/-- 'remouldlaw01.CasingMeets': WHATEVER THE INPUT: true; the input reads as it did. -/
def casingMeetsSpec : ChangeSpec := { name := "casingMeets", fn := fun _ => fun
  | [d1, d2] => { results := [.lit (.bool true)], args := [d1, d2] }
  | _ => none }
def casingMeetsRow : OpenClaim := { program := "ytifkldehbaphgaa", sum := "84d20ad16246825aa4d0f38f539790128dd1308a0a73d4dccbf82addbf5105d9", func := "remould/remouldlaw01.CasingMeets", spec := "casingMeets", inPlace := ["internal/bytealg.IndexByteString"], unfollowed := true, recurses := true, plainKeys := false, apart := false }
def CasingMeetsSaid : Prop := casingMeetsRow.holds Try.pinned (OpenSpec.ofChange casingMeetsSpec)

/-- ITS FALSE NEIGHBOUR: 'it returns false'. Refute it at one input. -/
def casingMeetsWrong : ChangeSpec := { name := "casingMeets", fn := fun _ => fun
  | [d1, d2] => { results := [.lit (.bool false)], args := [d1, d2] }
  | _ => none }
def CasingMeetsWrongFalsely : Prop := casingMeetsRow.holds Try.pinned (OpenSpec.ofChange casingMeetsWrong)

/-- 'remouldlaw01.CasingMeeting': WHATEVER THE INPUT: true; the input reads as it did. -/
def casingMeetingSpec : ChangeSpec := { name := "casingMeeting", fn := fun _ => fun
  | [d1, d2, d3, d4, d5, d6] => { results := [.lit (.bool true)], args := [d1, d2, d3, d4, d5, d6] }
  | _ => none }
def casingMeetingRow : OpenClaim := { program := "ytifkldehbaphgaa", sum := "84d20ad16246825aa4d0f38f539790128dd1308a0a73d4dccbf82addbf5105d9", func := "remould/remouldlaw01.CasingMeeting", spec := "casingMeeting", inPlace := ["internal/bytealg.IndexByteString"], unfollowed := true, recurses := true, plainKeys := false, apart := false }
def CasingMeetingSaid : Prop := casingMeetingRow.holds Try.pinned (OpenSpec.ofChange casingMeetingSpec)

/-- ITS FALSE NEIGHBOUR: 'it returns false'. Refute it at one input. -/
def casingMeetingWrong : ChangeSpec := { name := "casingMeeting", fn := fun _ => fun
  | [d1, d2, d3, d4, d5, d6] => { results := [.lit (.bool false)], args := [d1, d2, d3, d4, d5, d6] }
  | _ => none }
def CasingMeetingWrongFalsely : Prop := casingMeetingRow.holds Try.pinned (OpenSpec.ofChange casingMeetingWrong)

/-- 'remouldlaw01.CasingSorted': WHATEVER THE INPUT: true; the input reads as it did. -/
def casingSortedSpec : ChangeSpec := { name := "casingSorted", fn := fun _ => fun
  | [d1, d2, d3] => { results := [.lit (.bool true)], args := [d1, d2, d3] }
  | _ => none }
def casingSortedRow : OpenClaim := { program := "ytifkldehbaphgaa", sum := "84d20ad16246825aa4d0f38f539790128dd1308a0a73d4dccbf82addbf5105d9", func := "remould/remouldlaw01.CasingSorted", spec := "casingSorted", inPlace := ["internal/bytealg.IndexByteString"], unfollowed := true, recurses := true, plainKeys := false, apart := false }
def CasingSortedSaid : Prop := casingSortedRow.holds Try.pinned (OpenSpec.ofChange casingSortedSpec)

/-- ITS FALSE NEIGHBOUR: 'it returns false'. Refute it at one input. -/
def casingSortedWrong : ChangeSpec := { name := "casingSorted", fn := fun _ => fun
  | [d1, d2, d3] => { results := [.lit (.bool false)], args := [d1, d2, d3] }
  | _ => none }
def CasingSortedWrongFalsely : Prop := casingSortedRow.holds Try.pinned (OpenSpec.ofChange casingSortedWrong)

/-- 'remouldlaw01.CasingOwn': WHATEVER THE INPUT: true; the input reads as it did. -/
def casingOwnSpec : ChangeSpec := { name := "casingOwn", fn := fun _ => fun
  | [d1, d2, d3, d4] => { results := [.lit (.bool true)], args := [d1, d2, d3, d4] }
  | _ => none }
def casingOwnRow : OpenClaim := { program := "ytifkldehbaphgaa", sum := "84d20ad16246825aa4d0f38f539790128dd1308a0a73d4dccbf82addbf5105d9", func := "remould/remouldlaw01.CasingOwn", spec := "casingOwn", inPlace := ["internal/bytealg.IndexByteString"], unfollowed := true, recurses := true, plainKeys := false, apart := false }
def CasingOwnSaid : Prop := casingOwnRow.holds Try.pinned (OpenSpec.ofChange casingOwnSpec)

/-- ITS FALSE NEIGHBOUR: 'it returns false'. Refute it at one input. -/
def casingOwnWrong : ChangeSpec := { name := "casingOwn", fn := fun _ => fun
  | [d1, d2, d3, d4] => { results := [.lit (.bool false)], args := [d1, d2, d3, d4] }
  | _ => none }
def CasingOwnWrongFalsely : Prop := casingOwnRow.holds Try.pinned (OpenSpec.ofChange casingOwnWrong)

/-- 'remouldlaw01.CasingOrders': WHATEVER THE INPUT: true; the input reads as it did. -/
def casingOrdersSpec : ChangeSpec := { name := "casingOrders", fn := fun _ => fun
  | [d] => { results := [.lit (.bool true)], args := [d] }
  | _ => none }
def casingOrdersRow : OpenClaim := { program := "ytifkldehbaphgaa", sum := "84d20ad16246825aa4d0f38f539790128dd1308a0a73d4dccbf82addbf5105d9", func := "remould/remouldlaw01.CasingOrders", spec := "casingOrders", inPlace := ["internal/bytealg.IndexByteString"], unfollowed := true, recurses := true, plainKeys := false, apart := false }
def CasingOrdersSaid : Prop := casingOrdersRow.holds Try.pinned (OpenSpec.ofChange casingOrdersSpec)

/-- ITS FALSE NEIGHBOUR: 'it returns false'. Refute it at one input. -/
def casingOrdersWrong : ChangeSpec := { name := "casingOrders", fn := fun _ => fun
  | [d] => { results := [.lit (.bool false)], args := [d] }
  | _ => none }
def CasingOrdersWrongFalsely : Prop := casingOrdersRow.holds Try.pinned (OpenSpec.ofChange casingOrdersWrong)

/-- 'remouldlaw01.CasingBack': WHATEVER THE INPUT: true; the input reads as it did. -/
def casingBackSpec : ChangeSpec := { name := "casingBack", fn := fun _ => fun
  | [d1, d2, d3, d4, d5] => { results := [.lit (.bool true)], args := [d1, d2, d3, d4, d5] }
  | _ => none }
def casingBackRow : OpenClaim := { program := "ytifkldehbaphgaa", sum := "84d20ad16246825aa4d0f38f539790128dd1308a0a73d4dccbf82addbf5105d9", func := "remould/remouldlaw01.CasingBack", spec := "casingBack", inPlace := ["internal/bytealg.IndexByteString"], unfollowed := true, recurses := true, plainKeys := false, apart := false }
def CasingBackSaid : Prop := casingBackRow.holds Try.pinned (OpenSpec.ofChange casingBackSpec)

/-- ITS FALSE NEIGHBOUR: 'it returns false'. Refute it at one input. -/
def casingBackWrong : ChangeSpec := { name := "casingBack", fn := fun _ => fun
  | [d1, d2, d3, d4, d5] => { results := [.lit (.bool false)], args := [d1, d2, d3, d4, d5] }
  | _ => none }
def CasingBackWrongFalsely : Prop := casingBackRow.holds Try.pinned (OpenSpec.ofChange casingBackWrong)

/-- 'remouldlaw01.CasingRegular': WHATEVER THE INPUT: true; the input reads as it did. -/
def casingRegularSpec : ChangeSpec := { name := "casingRegular", fn := fun _ => fun
  | [d1, d2, d3, d4] => { results := [.lit (.bool true)], args := [d1, d2, d3, d4] }
  | _ => none }
def casingRegularRow : OpenClaim := { program := "ytifkldehbaphgaa", sum := "84d20ad16246825aa4d0f38f539790128dd1308a0a73d4dccbf82addbf5105d9", func := "remould/remouldlaw01.CasingRegular", spec := "casingRegular", inPlace := ["internal/bytealg.IndexByteString"], unfollowed := true, recurses := true, plainKeys := false, apart := false }
def CasingRegularSaid : Prop := casingRegularRow.holds Try.pinned (OpenSpec.ofChange casingRegularSpec)

/-- ITS FALSE NEIGHBOUR: 'it returns false'. Refute it at one input. -/
def casingRegularWrong : ChangeSpec := { name := "casingRegular", fn := fun _ => fun
  | [d1, d2, d3, d4] => { results := [.lit (.bool false)], args := [d1, d2, d3, d4] }
  | _ => none }
def CasingRegularWrongFalsely : Prop := casingRegularRow.holds Try.pinned (OpenSpec.ofChange casingRegularWrong)

/- THE SECOND FORM. 'bulk': how many values and letters a reading holds, each counted each time it is reached (what is shared counts as often as it is met; a slice's spare places count too). A statement '..UptoSaid' is the law's where the arguments, and the package variables that the reading takes, are together of bulk at most 1048576: NARROWER than '..Said'. Prove '..Said' where nothing that the law and all that it calls make is longer than what came in: it says more and counts as full. Else prove '..UptoSaid'. A law counts once. -/
mutual
def uptoBulk {H : Type} : DataW H → Nat
  | .lit (.string bytes) => bytes.length + 1
  | .lit _ => 1
  | .nil => 1
  | .ptr d => uptoBulk d + 1
  | .slice elems spare => uptoBulkAll elems + uptoBulkAll spare + 1
  | .agg parts => uptoBulkAll parts + 1
  | .iface _ d => uptoBulk d + 1
  | .map entries => uptoBulkEntries entries + 1
  | .held _ => 1
def uptoBulkAll {H : Type} : List (DataW H) → Nat
  | [] => 0
  | d :: r => uptoBulk d + uptoBulkAll r
def uptoBulkEntries {H : Type} : List (Lit × DataW H) → Nat
  | [] => 0
  | x :: r => uptoBulkEntry x + uptoBulkEntries r
def uptoBulkEntry {H : Type} : Lit × DataW H → Nat
  | (.string bytes, d) => bytes.length + uptoBulk d + 1
  | (_, d) => uptoBulk d + 1
 end
def uptoSmall : (H : Type) → List (DataW H) → Bool := fun _ ds => decide (uptoBulkAll ds ≤ 1048576)
def OpenSpec.upto (s : _root_.Go.ChangeSpec) : _root_.Go.OpenSpec := { _root_.Go.OpenSpec.ofChange s with cond := some uptoSmall }

/-- 'remouldlaw01.CasingLoops', WHERE WHAT IT READS IS OF BULK AT MOST 1048576: true; the input reads as it did. -/
def casingLoopsUptoRow : OpenClaim := { program := "ytifkldehbaphgaa", sum := "84d20ad16246825aa4d0f38f539790128dd1308a0a73d4dccbf82addbf5105d9", func := "remould/remouldlaw01.CasingLoops", spec := "casingLoops", inPlace := ["internal/bytealg.IndexByteString"], unfollowed := true, recurses := true, plainKeys := false, apart := false, narrowed := true }
def CasingLoopsUptoSaid : Prop := casingLoopsUptoRow.holds Try.pinned (OpenSpec.upto casingLoopsSpec)

/-- 'remouldlaw01.CasingWritten', WHERE WHAT IT READS IS OF BULK AT MOST 1048576: true; the input reads as it did. -/
def casingWrittenUptoRow : OpenClaim := { program := "ytifkldehbaphgaa", sum := "84d20ad16246825aa4d0f38f539790128dd1308a0a73d4dccbf82addbf5105d9", func := "remould/remouldlaw01.CasingWritten", spec := "casingWritten", inPlace := ["internal/bytealg.IndexByteString"], unfollowed := true, recurses := true, plainKeys := false, apart := false, narrowed := true }
def CasingWrittenUptoSaid : Prop := casingWrittenUptoRow.holds Try.pinned (OpenSpec.upto casingWrittenSpec)

/-- 'remouldlaw01.CasingComposed', WHERE WHAT IT READS IS OF BULK AT MOST 1048576: true; the input reads as it did. -/
def casingComposedUptoRow : OpenClaim := { program := "ytifkldehbaphgaa", sum := "84d20ad16246825aa4d0f38f539790128dd1308a0a73d4dccbf82addbf5105d9", func := "remould/remouldlaw01.CasingComposed", spec := "casingComposed", inPlace := ["internal/bytealg.IndexByteString"], unfollowed := true, recurses := true, plainKeys := false, apart := false, narrowed := true }
def CasingComposedUptoSaid : Prop := casingComposedUptoRow.holds Try.pinned (OpenSpec.upto casingComposedSpec)

/-- 'remouldlaw01.CasingRenumbers', WHERE WHAT IT READS IS OF BULK AT MOST 1048576: true; the input reads as it did. -/
def casingRenumbersUptoRow : OpenClaim := { program := "ytifkldehbaphgaa", sum := "84d20ad16246825aa4d0f38f539790128dd1308a0a73d4dccbf82addbf5105d9", func := "remould/remouldlaw01.CasingRenumbers", spec := "casingRenumbers", inPlace := ["internal/bytealg.IndexByteString"], unfollowed := true, recurses := true, plainKeys := false, apart := false, narrowed := true }
def CasingRenumbersUptoSaid : Prop := casingRenumbersUptoRow.holds Try.pinned (OpenSpec.upto casingRenumbersSpec)

/-- 'remouldlaw01.CasingNormals', WHERE WHAT IT READS IS OF BULK AT MOST 1048576: true; the input reads as it did. -/
def casingNormalsUptoRow : OpenClaim := { program := "ytifkldehbaphgaa", sum := "84d20ad16246825aa4d0f38f539790128dd1308a0a73d4dccbf82addbf5105d9", func := "remould/remouldlaw01.CasingNormals", spec := "casingNormals", inPlace := ["internal/bytealg.IndexByteString"], unfollowed := true, recurses := true, plainKeys := false, apart := false, narrowed := true }
def CasingNormalsUptoSaid : Prop := casingNormalsUptoRow.holds Try.pinned (OpenSpec.upto casingNormalsSpec)

/-- 'remouldlaw01.CasingMeets', WHERE WHAT IT READS IS OF BULK AT MOST 1048576: true; the input reads as it did. -/
def casingMeetsUptoRow : OpenClaim := { program := "ytifkldehbaphgaa", sum := "84d20ad16246825aa4d0f38f539790128dd1308a0a73d4dccbf82addbf5105d9", func := "remould/remouldlaw01.CasingMeets", spec := "casingMeets", inPlace := ["internal/bytealg.IndexByteString"], unfollowed := true, recurses := true, plainKeys := false, apart := false, narrowed := true }
def CasingMeetsUptoSaid : Prop := casingMeetsUptoRow.holds Try.pinned (OpenSpec.upto casingMeetsSpec)

/-- 'remouldlaw01.CasingMeeting', WHERE WHAT IT READS IS OF BULK AT MOST 1048576: true; the input reads as it did. -/
def casingMeetingUptoRow : OpenClaim := { program := "ytifkldehbaphgaa", sum := "84d20ad16246825aa4d0f38f539790128dd1308a0a73d4dccbf82addbf5105d9", func := "remould/remouldlaw01.CasingMeeting", spec := "casingMeeting", inPlace := ["internal/bytealg.IndexByteString"], unfollowed := true, recurses := true, plainKeys := false, apart := false, narrowed := true }
def CasingMeetingUptoSaid : Prop := casingMeetingUptoRow.holds Try.pinned (OpenSpec.upto casingMeetingSpec)

/-- 'remouldlaw01.CasingSorted', WHERE WHAT IT READS IS OF BULK AT MOST 1048576: true; the input reads as it did. -/
def casingSortedUptoRow : OpenClaim := { program := "ytifkldehbaphgaa", sum := "84d20ad16246825aa4d0f38f539790128dd1308a0a73d4dccbf82addbf5105d9", func := "remould/remouldlaw01.CasingSorted", spec := "casingSorted", inPlace := ["internal/bytealg.IndexByteString"], unfollowed := true, recurses := true, plainKeys := false, apart := false, narrowed := true }
def CasingSortedUptoSaid : Prop := casingSortedUptoRow.holds Try.pinned (OpenSpec.upto casingSortedSpec)

/-- 'remouldlaw01.CasingOwn', WHERE WHAT IT READS IS OF BULK AT MOST 1048576: true; the input reads as it did. -/
def casingOwnUptoRow : OpenClaim := { program := "ytifkldehbaphgaa", sum := "84d20ad16246825aa4d0f38f539790128dd1308a0a73d4dccbf82addbf5105d9", func := "remould/remouldlaw01.CasingOwn", spec := "casingOwn", inPlace := ["internal/bytealg.IndexByteString"], unfollowed := true, recurses := true, plainKeys := false, apart := false, narrowed := true }
def CasingOwnUptoSaid : Prop := casingOwnUptoRow.holds Try.pinned (OpenSpec.upto casingOwnSpec)

/-- 'remouldlaw01.CasingOrders', WHERE WHAT IT READS IS OF BULK AT MOST 1048576: true; the input reads as it did. -/
def casingOrdersUptoRow : OpenClaim := { program := "ytifkldehbaphgaa", sum := "84d20ad16246825aa4d0f38f539790128dd1308a0a73d4dccbf82addbf5105d9", func := "remould/remouldlaw01.CasingOrders", spec := "casingOrders", inPlace := ["internal/bytealg.IndexByteString"], unfollowed := true, recurses := true, plainKeys := false, apart := false, narrowed := true }
def CasingOrdersUptoSaid : Prop := casingOrdersUptoRow.holds Try.pinned (OpenSpec.upto casingOrdersSpec)

/-- 'remouldlaw01.CasingBack', WHERE WHAT IT READS IS OF BULK AT MOST 1048576: true; the input reads as it did. -/
def casingBackUptoRow : OpenClaim := { program := "ytifkldehbaphgaa", sum := "84d20ad16246825aa4d0f38f539790128dd1308a0a73d4dccbf82addbf5105d9", func := "remould/remouldlaw01.CasingBack", spec := "casingBack", inPlace := ["internal/bytealg.IndexByteString"], unfollowed := true, recurses := true, plainKeys := false, apart := false, narrowed := true }
def CasingBackUptoSaid : Prop := casingBackUptoRow.holds Try.pinned (OpenSpec.upto casingBackSpec)

/-- 'remouldlaw01.CasingRegular', WHERE WHAT IT READS IS OF BULK AT MOST 1048576: true; the input reads as it did. -/
def casingRegularUptoRow : OpenClaim := { program := "ytifkldehbaphgaa", sum := "84d20ad16246825aa4d0f38f539790128dd1308a0a73d4dccbf82addbf5105d9", func := "remould/remouldlaw01.CasingRegular", spec := "casingRegular", inPlace := ["internal/bytealg.IndexByteString"], unfollowed := true, recurses := true, plainKeys := false, apart := false, narrowed := true }
def CasingRegularUptoSaid : Prop := casingRegularUptoRow.holds Try.pinned (OpenSpec.upto casingRegularSpec)

end Rows
end Go.Proofs.Ytifkldehbaphgaa
