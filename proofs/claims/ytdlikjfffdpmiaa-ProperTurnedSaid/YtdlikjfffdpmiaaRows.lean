/-
  No cell of these rows narrows 'for every input' (looked for: loops, veiled, ifaces, maps, wideKeys, modest, calm, conditions, laid).
  DERIVED. THE GIVEN ROWS OF THIS SEAT. 9 by the template 'for every input the law returns true; each argument reads behind the call as it read before'; 0 by the template 'total and deterministic' (their statements: YtdlikjfffdpmiaaTotals.lean).
  GIVEN WITH THE SEED: the statements are not yours to turn. If you find one false, say at which input.
  Laid BY PROGRAM, IN A SANDBOX (cutbox-rows.mjs): the forced cells as the released guide's own fill.sh prints them over the translation 9e6fd1da25b7f375… (all of the seat's roots in one cut). By AI agents, Wed Nov 11 2026. No macro, syntax, notation, axiom, sorry.
-/
import Derived.Test.YtdlikjfffdpmiaaChecked
import GoSem.Claim
import GoSem.ClaimJoined
import GoSem.ClaimMapViews
import Derived.JoinedTies
import Derived.KernelRfl
namespace Go.Proofs.Ytdlikjfffdpmiaa
/- THE CELL 'sum', in the pinned program and in every row, IS THE sha256 OF THE DUMP (.gsa) THAT YtdlikjfffdpmiaaProg.lean LOADS. Nothing in Lean hashes anything: it is a label: what it is worth is what the hold of that sum in a sandbox is worth. -/
noncomputable def Try.pinned : Pinned := { name := "ytdlikjfffdpmiaa", sum := "9e6fd1da25b7f3753e1c6fec9e21bf281ee74577a6f735868f7580ca60a38421", checked := Try.checked }
namespace Rows
def none {H : Type} : Left H := { results := [], args := [] }

/-- 'rotalaw08.ProperChecks': WHATEVER THE INPUT: true; the input reads as it did. -/
def properChecksSpec : ChangeSpec := { name := "properChecks", fn := fun _ => fun
  | [d] => { results := [.lit (.bool true)], args := [d] }
  | _ => none }
def properChecksRow : OpenClaim := { program := "ytdlikjfffdpmiaa", sum := "9e6fd1da25b7f3753e1c6fec9e21bf281ee74577a6f735868f7580ca60a38421", func := "rota/rotalaw08.ProperChecks", spec := "properChecks", unfollowed := true, recurses := true, apart := false }
def ProperChecksSaid : Prop := properChecksRow.holds Try.pinned (OpenSpec.ofChange properChecksSpec)

/-- ITS FALSE NEIGHBOUR: 'it returns false'. Refute it at one input. -/
def properChecksWrong : ChangeSpec := { name := "properChecks", fn := fun _ => fun
  | [d] => { results := [.lit (.bool false)], args := [d] }
  | _ => none }
def ProperChecksWrongFalsely : Prop := properChecksRow.holds Try.pinned (OpenSpec.ofChange properChecksWrong)

/-- 'rotalaw08.ProperTurned': WHATEVER THE INPUT: true; the input reads as it did. -/
def properTurnedSpec : ChangeSpec := { name := "properTurned", fn := fun _ => fun
  | [d1, d2, d3] => { results := [.lit (.bool true)], args := [d1, d2, d3] }
  | _ => none }
def properTurnedRow : OpenClaim := { program := "ytdlikjfffdpmiaa", sum := "9e6fd1da25b7f3753e1c6fec9e21bf281ee74577a6f735868f7580ca60a38421", func := "rota/rotalaw08.ProperTurned", spec := "properTurned", unfollowed := true, recurses := true, apart := false }
def ProperTurnedSaid : Prop := properTurnedRow.holds Try.pinned (OpenSpec.ofChange properTurnedSpec)

/-- ITS FALSE NEIGHBOUR: 'it returns false'. Refute it at one input. -/
def properTurnedWrong : ChangeSpec := { name := "properTurned", fn := fun _ => fun
  | [d1, d2, d3] => { results := [.lit (.bool false)], args := [d1, d2, d3] }
  | _ => none }
def ProperTurnedWrongFalsely : Prop := properTurnedRow.holds Try.pinned (OpenSpec.ofChange properTurnedWrong)

/-- 'rotalaw08.ProperWords': WHATEVER THE INPUT: true; the input reads as it did. -/
def properWordsSpec : ChangeSpec := { name := "properWords", fn := fun _ => fun
  | [d1, d2] => { results := [.lit (.bool true)], args := [d1, d2] }
  | _ => none }
def properWordsRow : OpenClaim := { program := "ytdlikjfffdpmiaa", sum := "9e6fd1da25b7f3753e1c6fec9e21bf281ee74577a6f735868f7580ca60a38421", func := "rota/rotalaw08.ProperWords", spec := "properWords", unfollowed := true, recurses := true, apart := false }
def ProperWordsSaid : Prop := properWordsRow.holds Try.pinned (OpenSpec.ofChange properWordsSpec)

/-- ITS FALSE NEIGHBOUR: 'it returns false'. Refute it at one input. -/
def properWordsWrong : ChangeSpec := { name := "properWords", fn := fun _ => fun
  | [d1, d2] => { results := [.lit (.bool false)], args := [d1, d2] }
  | _ => none }
def ProperWordsWrongFalsely : Prop := properWordsRow.holds Try.pinned (OpenSpec.ofChange properWordsWrong)

/-- 'rotalaw08.ProperReaches': WHATEVER THE INPUT: true; the input reads as it did. -/
def properReachesSpec : ChangeSpec := { name := "properReaches", fn := fun _ => fun
  | [d1, d2] => { results := [.lit (.bool true)], args := [d1, d2] }
  | _ => none }
def properReachesRow : OpenClaim := { program := "ytdlikjfffdpmiaa", sum := "9e6fd1da25b7f3753e1c6fec9e21bf281ee74577a6f735868f7580ca60a38421", func := "rota/rotalaw08.ProperReaches", spec := "properReaches", unfollowed := true, recurses := true, apart := false }
def ProperReachesSaid : Prop := properReachesRow.holds Try.pinned (OpenSpec.ofChange properReachesSpec)

/-- ITS FALSE NEIGHBOUR: 'it returns false'. Refute it at one input. -/
def properReachesWrong : ChangeSpec := { name := "properReaches", fn := fun _ => fun
  | [d1, d2] => { results := [.lit (.bool false)], args := [d1, d2] }
  | _ => none }
def ProperReachesWrongFalsely : Prop := properReachesRow.holds Try.pinned (OpenSpec.ofChange properReachesWrong)

/-- 'rotalaw08.ProperStays': WHATEVER THE INPUT: true; the input reads as it did. -/
def properStaysSpec : ChangeSpec := { name := "properStays", fn := fun _ => fun
  | [d1, d2, d3] => { results := [.lit (.bool true)], args := [d1, d2, d3] }
  | _ => none }
def properStaysRow : OpenClaim := { program := "ytdlikjfffdpmiaa", sum := "9e6fd1da25b7f3753e1c6fec9e21bf281ee74577a6f735868f7580ca60a38421", func := "rota/rotalaw08.ProperStays", spec := "properStays", unfollowed := true, recurses := true, apart := false }
def ProperStaysSaid : Prop := properStaysRow.holds Try.pinned (OpenSpec.ofChange properStaysSpec)

/-- ITS FALSE NEIGHBOUR: 'it returns false'. Refute it at one input. -/
def properStaysWrong : ChangeSpec := { name := "properStays", fn := fun _ => fun
  | [d1, d2, d3] => { results := [.lit (.bool false)], args := [d1, d2, d3] }
  | _ => none }
def ProperStaysWrongFalsely : Prop := properStaysRow.holds Try.pinned (OpenSpec.ofChange properStaysWrong)

/-- 'rotalaw08.ProperClosed': WHATEVER THE INPUT: true; the input reads as it did. -/
def properClosedSpec : ChangeSpec := { name := "properClosed", fn := fun _ => fun
  | [d1, d2] => { results := [.lit (.bool true)], args := [d1, d2] }
  | _ => none }
def properClosedRow : OpenClaim := { program := "ytdlikjfffdpmiaa", sum := "9e6fd1da25b7f3753e1c6fec9e21bf281ee74577a6f735868f7580ca60a38421", func := "rota/rotalaw08.ProperClosed", spec := "properClosed", unfollowed := true, recurses := true, apart := false }
def ProperClosedSaid : Prop := properClosedRow.holds Try.pinned (OpenSpec.ofChange properClosedSpec)

/-- ITS FALSE NEIGHBOUR: 'it returns false'. Refute it at one input. -/
def properClosedWrong : ChangeSpec := { name := "properClosed", fn := fun _ => fun
  | [d1, d2] => { results := [.lit (.bool false)], args := [d1, d2] }
  | _ => none }
def ProperClosedWrongFalsely : Prop := properClosedRow.holds Try.pinned (OpenSpec.ofChange properClosedWrong)

/-- 'rotalaw08.ProperOwn': WHATEVER THE INPUT: true; the input reads as it did. -/
def properOwnSpec : ChangeSpec := { name := "properOwn", fn := fun _ => fun
  | [d1, d2] => { results := [.lit (.bool true)], args := [d1, d2] }
  | _ => none }
def properOwnRow : OpenClaim := { program := "ytdlikjfffdpmiaa", sum := "9e6fd1da25b7f3753e1c6fec9e21bf281ee74577a6f735868f7580ca60a38421", func := "rota/rotalaw08.ProperOwn", spec := "properOwn", unfollowed := true, recurses := true, apart := false }
def ProperOwnSaid : Prop := properOwnRow.holds Try.pinned (OpenSpec.ofChange properOwnSpec)

/-- ITS FALSE NEIGHBOUR: 'it returns false'. Refute it at one input. -/
def properOwnWrong : ChangeSpec := { name := "properOwn", fn := fun _ => fun
  | [d1, d2] => { results := [.lit (.bool false)], args := [d1, d2] }
  | _ => none }
def ProperOwnWrongFalsely : Prop := properOwnRow.holds Try.pinned (OpenSpec.ofChange properOwnWrong)

/-- 'rotalaw08.ProperCalls': WHATEVER THE INPUT: true; the input reads as it did. -/
def properCallsSpec : ChangeSpec := { name := "properCalls", fn := fun _ => fun
  | [d1, d2, d3] => { results := [.lit (.bool true)], args := [d1, d2, d3] }
  | _ => none }
def properCallsRow : OpenClaim := { program := "ytdlikjfffdpmiaa", sum := "9e6fd1da25b7f3753e1c6fec9e21bf281ee74577a6f735868f7580ca60a38421", func := "rota/rotalaw08.ProperCalls", spec := "properCalls", unfollowed := true, recurses := true, apart := false }
def ProperCallsSaid : Prop := properCallsRow.holds Try.pinned (OpenSpec.ofChange properCallsSpec)

/-- ITS FALSE NEIGHBOUR: 'it returns false'. Refute it at one input. -/
def properCallsWrong : ChangeSpec := { name := "properCalls", fn := fun _ => fun
  | [d1, d2, d3] => { results := [.lit (.bool false)], args := [d1, d2, d3] }
  | _ => none }
def ProperCallsWrongFalsely : Prop := properCallsRow.holds Try.pinned (OpenSpec.ofChange properCallsWrong)

/-- 'rotalaw08.ProperDeep': WHATEVER THE INPUT: true; the input reads as it did. -/
def properDeepSpec : ChangeSpec := { name := "properDeep", fn := fun _ => fun
  | [d1, d2, d3] => { results := [.lit (.bool true)], args := [d1, d2, d3] }
  | _ => none }
def properDeepRow : OpenClaim := { program := "ytdlikjfffdpmiaa", sum := "9e6fd1da25b7f3753e1c6fec9e21bf281ee74577a6f735868f7580ca60a38421", func := "rota/rotalaw08.ProperDeep", spec := "properDeep", unfollowed := true, recurses := true, apart := false }
def ProperDeepSaid : Prop := properDeepRow.holds Try.pinned (OpenSpec.ofChange properDeepSpec)

/-- ITS FALSE NEIGHBOUR: 'it returns false'. Refute it at one input. -/
def properDeepWrong : ChangeSpec := { name := "properDeep", fn := fun _ => fun
  | [d1, d2, d3] => { results := [.lit (.bool false)], args := [d1, d2, d3] }
  | _ => none }
def ProperDeepWrongFalsely : Prop := properDeepRow.holds Try.pinned (OpenSpec.ofChange properDeepWrong)

/- THE SECOND FORM. 'bulk': how many values and letters a reading holds, each counted each time it is reached (what is shared counts as often as it is met; a slice's spare places count too). A statement '..UptoSaid' is the law's where the arguments, and the package variables that the reading takes, are together of bulk at most 1048576: NARROWER than '..Said'. Prove '..Said' where nothing that the law and all that it calls make is longer than what came in: it says more and counts as full. Else prove '..UptoSaid'. A law counts once. -/
mutual
def uptoBulk {H : Type} : DataW H → Nat
  | .lit (.string bytes) => bytes.length + 1
  | .lit _ => 1
  | .nil => 1
  | .ptr d => uptoBulk d + 1
  | .slice elems spare => uptoBulkAll elems + uptoBulkAll spare + 1
  | .agg parts => uptoBulkAll parts + 1
  | .iface _ d => uptoBulk d + 1
  | .map entries => uptoBulkEntries entries + 1
  | .held _ => 1
def uptoBulkAll {H : Type} : List (DataW H) → Nat
  | [] => 0
  | d :: r => uptoBulk d + uptoBulkAll r
def uptoBulkEntries {H : Type} : List (Lit × DataW H) → Nat
  | [] => 0
  | x :: r => uptoBulkEntry x + uptoBulkEntries r
def uptoBulkEntry {H : Type} : Lit × DataW H → Nat
  | (.string bytes, d) => bytes.length + uptoBulk d + 1
  | (_, d) => uptoBulk d + 1
 end
def uptoSmall : (H : Type) → List (DataW H) → Bool := fun _ ds => decide (uptoBulkAll ds ≤ 1048576)
def OpenSpec.upto (s : _root_.Go.ChangeSpec) : _root_.Go.OpenSpec := { _root_.Go.OpenSpec.ofChange s with cond := some uptoSmall }

/-- 'rotalaw08.ProperChecks', WHERE WHAT IT READS IS OF BULK AT MOST 1048576: true; the input reads as it did. -/
def properChecksUptoRow : OpenClaim := { program := "ytdlikjfffdpmiaa", sum := "9e6fd1da25b7f3753e1c6fec9e21bf281ee74577a6f735868f7580ca60a38421", func := "rota/rotalaw08.ProperChecks", spec := "properChecks", unfollowed := true, recurses := true, apart := false, narrowed := true }
def ProperChecksUptoSaid : Prop := properChecksUptoRow.holds Try.pinned (OpenSpec.upto properChecksSpec)

/-- 'rotalaw08.ProperTurned', WHERE WHAT IT READS IS OF BULK AT MOST 1048576: true; the input reads as it did. -/
def properTurnedUptoRow : OpenClaim := { program := "ytdlikjfffdpmiaa", sum := "9e6fd1da25b7f3753e1c6fec9e21bf281ee74577a6f735868f7580ca60a38421", func := "rota/rotalaw08.ProperTurned", spec := "properTurned", unfollowed := true, recurses := true, apart := false, narrowed := true }
def ProperTurnedUptoSaid : Prop := properTurnedUptoRow.holds Try.pinned (OpenSpec.upto properTurnedSpec)

/-- 'rotalaw08.ProperWords', WHERE WHAT IT READS IS OF BULK AT MOST 1048576: true; the input reads as it did. -/
def properWordsUptoRow : OpenClaim := { program := "ytdlikjfffdpmiaa", sum := "9e6fd1da25b7f3753e1c6fec9e21bf281ee74577a6f735868f7580ca60a38421", func := "rota/rotalaw08.ProperWords", spec := "properWords", unfollowed := true, recurses := true, apart := false, narrowed := true }
def ProperWordsUptoSaid : Prop := properWordsUptoRow.holds Try.pinned (OpenSpec.upto properWordsSpec)

/-- 'rotalaw08.ProperReaches', WHERE WHAT IT READS IS OF BULK AT MOST 1048576: true; the input reads as it did. -/
def properReachesUptoRow : OpenClaim := { program := "ytdlikjfffdpmiaa", sum := "9e6fd1da25b7f3753e1c6fec9e21bf281ee74577a6f735868f7580ca60a38421", func := "rota/rotalaw08.ProperReaches", spec := "properReaches", unfollowed := true, recurses := true, apart := false, narrowed := true }
def ProperReachesUptoSaid : Prop := properReachesUptoRow.holds Try.pinned (OpenSpec.upto properReachesSpec)

/-- 'rotalaw08.ProperStays', WHERE WHAT IT READS IS OF BULK AT MOST 1048576: true; the input reads as it did. -/
def properStaysUptoRow : OpenClaim := { program := "ytdlikjfffdpmiaa", sum := "9e6fd1da25b7f3753e1c6fec9e21bf281ee74577a6f735868f7580ca60a38421", func := "rota/rotalaw08.ProperStays", spec := "properStays", unfollowed := true, recurses := true, apart := false, narrowed := true }
def ProperStaysUptoSaid : Prop := properStaysUptoRow.holds Try.pinned (OpenSpec.upto properStaysSpec)

/-- 'rotalaw08.ProperClosed', WHERE WHAT IT READS IS OF BULK AT MOST 1048576: true; the input reads as it did. -/
def properClosedUptoRow : OpenClaim := { program := "ytdlikjfffdpmiaa", sum := "9e6fd1da25b7f3753e1c6fec9e21bf281ee74577a6f735868f7580ca60a38421", func := "rota/rotalaw08.ProperClosed", spec := "properClosed", unfollowed := true, recurses := true, apart := false, narrowed := true }
def ProperClosedUptoSaid : Prop := properClosedUptoRow.holds Try.pinned (OpenSpec.upto properClosedSpec)

/-- 'rotalaw08.ProperOwn', WHERE WHAT IT READS IS OF BULK AT MOST 1048576: true; the input reads as it did. -/
def properOwnUptoRow : OpenClaim := { program := "ytdlikjfffdpmiaa", sum := "9e6fd1da25b7f3753e1c6fec9e21bf281ee74577a6f735868f7580ca60a38421", func := "rota/rotalaw08.ProperOwn", spec := "properOwn", unfollowed := true, recurses := true, apart := false, narrowed := true }
def ProperOwnUptoSaid : Prop := properOwnUptoRow.holds Try.pinned (OpenSpec.upto properOwnSpec)

/-- 'rotalaw08.ProperCalls', WHERE WHAT IT READS IS OF BULK AT MOST 1048576: true; the input reads as it did. -/
def properCallsUptoRow : OpenClaim := { program := "ytdlikjfffdpmiaa", sum := "9e6fd1da25b7f3753e1c6fec9e21bf281ee74577a6f735868f7580ca60a38421", func := "rota/rotalaw08.ProperCalls", spec := "properCalls", unfollowed := true, recurses := true, apart := false, narrowed := true }
def ProperCallsUptoSaid : Prop := properCallsUptoRow.holds Try.pinned (OpenSpec.upto properCallsSpec)

/-- 'rotalaw08.ProperDeep', WHERE WHAT IT READS IS OF BULK AT MOST 1048576: true; the input reads as it did. -/
def properDeepUptoRow : OpenClaim := { program := "ytdlikjfffdpmiaa", sum := "9e6fd1da25b7f3753e1c6fec9e21bf281ee74577a6f735868f7580ca60a38421", func := "rota/rotalaw08.ProperDeep", spec := "properDeep", unfollowed := true, recurses := true, apart := false, narrowed := true }
def ProperDeepUptoSaid : Prop := properDeepUptoRow.holds Try.pinned (OpenSpec.upto properDeepSpec)

end Rows
end Go.Proofs.Ytdlikjfffdpmiaa
