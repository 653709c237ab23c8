/-
  No cell of these rows narrows 'for every input' (looked for: loops, veiled, ifaces, maps, wideKeys, modest, calm, conditions, laid).
  DERIVED. THE GIVEN ROWS OF THIS SEAT. 12 by the template 'for every input the law returns true; each argument reads behind the call as it read before'; 0 by the template 'total and deterministic' (their statements: YtiacikmignjdoaaTotals.lean).
  GIVEN WITH THE SEED: the statements are not yours to turn. If you find one false, say at which input.
  Laid BY PROGRAM, IN A SANDBOX (cutbox-rows.mjs): the forced cells as the released guide's own fill.sh prints them over the translation 2e0dbef4f95c6f24… (all of the seat's roots in one cut). By AI agents, Wed Nov 11 2026. No macro, syntax, notation, axiom, sorry.
-/
import Derived.Test.YtiacikmignjdoaaChecked
import GoSem.Claim
import GoSem.ClaimJoined
import GoSem.ClaimMapViews
import Derived.JoinedTies
import Derived.KernelRfl
namespace Go.Proofs.Ytiacikmignjdoaa
/- THE CELL 'sum', in the pinned program and in every row, IS THE sha256 OF THE DUMP (.gsa) THAT YtiacikmignjdoaaProg.lean LOADS. Nothing in Lean hashes anything: it is a label: what it is worth is what the hold of that sum in a sandbox is worth. -/
noncomputable def Try.pinned : Pinned := { name := "ytiacikmignjdoaa", sum := "2e0dbef4f95c6f24d38f9dc6b5b7d8fd12dffd878bd6a25f82e5d1cdf00c24af", checked := Try.checked }
namespace Rows
def none {H : Type} : Left H := { results := [], args := [] }

/-- 'rotalaw16.TableChecks': WHATEVER THE INPUT: true; the input reads as it did. -/
def tableChecksSpec : ChangeSpec := { name := "tableChecks", fn := fun _ => fun
  | [d1, d2] => { results := [.lit (.bool true)], args := [d1, d2] }
  | _ => none }
def tableChecksRow : OpenClaim := { program := "ytiacikmignjdoaa", sum := "2e0dbef4f95c6f24d38f9dc6b5b7d8fd12dffd878bd6a25f82e5d1cdf00c24af", func := "rota/rotalaw16.TableChecks", spec := "tableChecks", apart := false }
def TableChecksSaid : Prop := tableChecksRow.holds Try.pinned (OpenSpec.ofChange tableChecksSpec)

/-- ITS FALSE NEIGHBOUR: 'it returns false'. Refute it at one input. -/
def tableChecksWrong : ChangeSpec := { name := "tableChecks", fn := fun _ => fun
  | [d1, d2] => { results := [.lit (.bool false)], args := [d1, d2] }
  | _ => none }
def TableChecksWrongFalsely : Prop := tableChecksRow.holds Try.pinned (OpenSpec.ofChange tableChecksWrong)

/-- 'rotalaw16.TableOwners': WHATEVER THE INPUT: true; the input reads as it did. -/
def tableOwnersSpec : ChangeSpec := { name := "tableOwners", fn := fun _ => fun
  | [d1, d2] => { results := [.lit (.bool true)], args := [d1, d2] }
  | _ => none }
def tableOwnersRow : OpenClaim := { program := "ytiacikmignjdoaa", sum := "2e0dbef4f95c6f24d38f9dc6b5b7d8fd12dffd878bd6a25f82e5d1cdf00c24af", func := "rota/rotalaw16.TableOwners", spec := "tableOwners", apart := false }
def TableOwnersSaid : Prop := tableOwnersRow.holds Try.pinned (OpenSpec.ofChange tableOwnersSpec)

/-- ITS FALSE NEIGHBOUR: 'it returns false'. Refute it at one input. -/
def tableOwnersWrong : ChangeSpec := { name := "tableOwners", fn := fun _ => fun
  | [d1, d2] => { results := [.lit (.bool false)], args := [d1, d2] }
  | _ => none }
def TableOwnersWrongFalsely : Prop := tableOwnersRow.holds Try.pinned (OpenSpec.ofChange tableOwnersWrong)

/-- 'rotalaw16.TableOne': WHATEVER THE INPUT: true; the input reads as it did. -/
def tableOneSpec : ChangeSpec := { name := "tableOne", fn := fun _ => fun
  | [d1, d2] => { results := [.lit (.bool true)], args := [d1, d2] }
  | _ => none }
def tableOneRow : OpenClaim := { program := "ytiacikmignjdoaa", sum := "2e0dbef4f95c6f24d38f9dc6b5b7d8fd12dffd878bd6a25f82e5d1cdf00c24af", func := "rota/rotalaw16.TableOne", spec := "tableOne", apart := false }
def TableOneSaid : Prop := tableOneRow.holds Try.pinned (OpenSpec.ofChange tableOneSpec)

/-- ITS FALSE NEIGHBOUR: 'it returns false'. Refute it at one input. -/
def tableOneWrong : ChangeSpec := { name := "tableOne", fn := fun _ => fun
  | [d1, d2] => { results := [.lit (.bool false)], args := [d1, d2] }
  | _ => none }
def TableOneWrongFalsely : Prop := tableOneRow.holds Try.pinned (OpenSpec.ofChange tableOneWrong)

/-- 'rotalaw16.TableCounts': WHATEVER THE INPUT: true; the input reads as it did. -/
def tableCountsSpec : ChangeSpec := { name := "tableCounts", fn := fun _ => fun
  | [d1, d2] => { results := [.lit (.bool true)], args := [d1, d2] }
  | _ => none }
def tableCountsRow : OpenClaim := { program := "ytiacikmignjdoaa", sum := "2e0dbef4f95c6f24d38f9dc6b5b7d8fd12dffd878bd6a25f82e5d1cdf00c24af", func := "rota/rotalaw16.TableCounts", spec := "tableCounts", unfollowed := true, recurses := true, apart := false }
def TableCountsSaid : Prop := tableCountsRow.holds Try.pinned (OpenSpec.ofChange tableCountsSpec)

/-- ITS FALSE NEIGHBOUR: 'it returns false'. Refute it at one input. -/
def tableCountsWrong : ChangeSpec := { name := "tableCounts", fn := fun _ => fun
  | [d1, d2] => { results := [.lit (.bool false)], args := [d1, d2] }
  | _ => none }
def TableCountsWrongFalsely : Prop := tableCountsRow.holds Try.pinned (OpenSpec.ofChange tableCountsWrong)

/-- 'rotalaw16.TableTurns': WHATEVER THE INPUT: true; the input reads as it did. -/
def tableTurnsSpec : ChangeSpec := { name := "tableTurns", fn := fun _ => fun
  | [d1, d2] => { results := [.lit (.bool true)], args := [d1, d2] }
  | _ => none }
def tableTurnsRow : OpenClaim := { program := "ytiacikmignjdoaa", sum := "2e0dbef4f95c6f24d38f9dc6b5b7d8fd12dffd878bd6a25f82e5d1cdf00c24af", func := "rota/rotalaw16.TableTurns", spec := "tableTurns", apart := false }
def TableTurnsSaid : Prop := tableTurnsRow.holds Try.pinned (OpenSpec.ofChange tableTurnsSpec)

/-- ITS FALSE NEIGHBOUR: 'it returns false'. Refute it at one input. -/
def tableTurnsWrong : ChangeSpec := { name := "tableTurns", fn := fun _ => fun
  | [d1, d2] => { results := [.lit (.bool false)], args := [d1, d2] }
  | _ => none }
def TableTurnsWrongFalsely : Prop := tableTurnsRow.holds Try.pinned (OpenSpec.ofChange tableTurnsWrong)

/-- 'rotalaw16.TableTicks': WHATEVER THE INPUT: true; the input reads as it did. -/
def tableTicksSpec : ChangeSpec := { name := "tableTicks", fn := fun _ => fun
  | [d1, d2, d3] => { results := [.lit (.bool true)], args := [d1, d2, d3] }
  | _ => none }
def tableTicksRow : OpenClaim := { program := "ytiacikmignjdoaa", sum := "2e0dbef4f95c6f24d38f9dc6b5b7d8fd12dffd878bd6a25f82e5d1cdf00c24af", func := "rota/rotalaw16.TableTicks", spec := "tableTicks", unfollowed := true, recurses := true, apart := false }
def TableTicksSaid : Prop := tableTicksRow.holds Try.pinned (OpenSpec.ofChange tableTicksSpec)

/-- ITS FALSE NEIGHBOUR: 'it returns false'. Refute it at one input. -/
def tableTicksWrong : ChangeSpec := { name := "tableTicks", fn := fun _ => fun
  | [d1, d2, d3] => { results := [.lit (.bool false)], args := [d1, d2, d3] }
  | _ => none }
def TableTicksWrongFalsely : Prop := tableTicksRow.holds Try.pinned (OpenSpec.ofChange tableTicksWrong)

/-- 'rotalaw16.TableSupplies': WHATEVER THE INPUT: true; the input reads as it did. -/
def tableSuppliesSpec : ChangeSpec := { name := "tableSupplies", fn := fun _ => fun
  | [d1, d2, d3] => { results := [.lit (.bool true)], args := [d1, d2, d3] }
  | _ => none }
def tableSuppliesRow : OpenClaim := { program := "ytiacikmignjdoaa", sum := "2e0dbef4f95c6f24d38f9dc6b5b7d8fd12dffd878bd6a25f82e5d1cdf00c24af", func := "rota/rotalaw16.TableSupplies", spec := "tableSupplies", unfollowed := true, recurses := true, apart := false }
def TableSuppliesSaid : Prop := tableSuppliesRow.holds Try.pinned (OpenSpec.ofChange tableSuppliesSpec)

/-- ITS FALSE NEIGHBOUR: 'it returns false'. Refute it at one input. -/
def tableSuppliesWrong : ChangeSpec := { name := "tableSupplies", fn := fun _ => fun
  | [d1, d2, d3] => { results := [.lit (.bool false)], args := [d1, d2, d3] }
  | _ => none }
def TableSuppliesWrongFalsely : Prop := tableSuppliesRow.holds Try.pinned (OpenSpec.ofChange tableSuppliesWrong)

/-- 'rotalaw16.TableDomains': WHATEVER THE INPUT: true; the input reads as it did. -/
def tableDomainsSpec : ChangeSpec := { name := "tableDomains", fn := fun _ => fun
  | [d1, d2] => { results := [.lit (.bool true)], args := [d1, d2] }
  | _ => none }
def tableDomainsRow : OpenClaim := { program := "ytiacikmignjdoaa", sum := "2e0dbef4f95c6f24d38f9dc6b5b7d8fd12dffd878bd6a25f82e5d1cdf00c24af", func := "rota/rotalaw16.TableDomains", spec := "tableDomains", unfollowed := true, recurses := true, apart := false }
def TableDomainsSaid : Prop := tableDomainsRow.holds Try.pinned (OpenSpec.ofChange tableDomainsSpec)

/-- ITS FALSE NEIGHBOUR: 'it returns false'. Refute it at one input. -/
def tableDomainsWrong : ChangeSpec := { name := "tableDomains", fn := fun _ => fun
  | [d1, d2] => { results := [.lit (.bool false)], args := [d1, d2] }
  | _ => none }
def TableDomainsWrongFalsely : Prop := tableDomainsRow.holds Try.pinned (OpenSpec.ofChange tableDomainsWrong)

/-- 'rotalaw16.TableAdds': WHATEVER THE INPUT: true; the input reads as it did. -/
def tableAddsSpec : ChangeSpec := { name := "tableAdds", fn := fun _ => fun
  | [d1, d2, d3] => { results := [.lit (.bool true)], args := [d1, d2, d3] }
  | _ => none }
def tableAddsRow : OpenClaim := { program := "ytiacikmignjdoaa", sum := "2e0dbef4f95c6f24d38f9dc6b5b7d8fd12dffd878bd6a25f82e5d1cdf00c24af", func := "rota/rotalaw16.TableAdds", spec := "tableAdds", unfollowed := true, recurses := true, apart := false }
def TableAddsSaid : Prop := tableAddsRow.holds Try.pinned (OpenSpec.ofChange tableAddsSpec)

/-- ITS FALSE NEIGHBOUR: 'it returns false'. Refute it at one input. -/
def tableAddsWrong : ChangeSpec := { name := "tableAdds", fn := fun _ => fun
  | [d1, d2, d3] => { results := [.lit (.bool false)], args := [d1, d2, d3] }
  | _ => none }
def TableAddsWrongFalsely : Prop := tableAddsRow.holds Try.pinned (OpenSpec.ofChange tableAddsWrong)

/-- 'rotalaw16.TableCounted': WHATEVER THE INPUT: true; the input reads as it did. -/
def tableCountedSpec : ChangeSpec := { name := "tableCounted", fn := fun _ => fun
  | [d1, d2, d3] => { results := [.lit (.bool true)], args := [d1, d2, d3] }
  | _ => none }
def tableCountedRow : OpenClaim := { program := "ytiacikmignjdoaa", sum := "2e0dbef4f95c6f24d38f9dc6b5b7d8fd12dffd878bd6a25f82e5d1cdf00c24af", func := "rota/rotalaw16.TableCounted", spec := "tableCounted", unfollowed := true, recurses := true, apart := false }
def TableCountedSaid : Prop := tableCountedRow.holds Try.pinned (OpenSpec.ofChange tableCountedSpec)

/-- ITS FALSE NEIGHBOUR: 'it returns false'. Refute it at one input. -/
def tableCountedWrong : ChangeSpec := { name := "tableCounted", fn := fun _ => fun
  | [d1, d2, d3] => { results := [.lit (.bool false)], args := [d1, d2, d3] }
  | _ => none }
def TableCountedWrongFalsely : Prop := tableCountedRow.holds Try.pinned (OpenSpec.ofChange tableCountedWrong)

/-- 'rotalaw16.TableWaits': WHATEVER THE INPUT: true; the input reads as it did. -/
def tableWaitsSpec : ChangeSpec := { name := "tableWaits", fn := fun _ => fun
  | [d1, d2, d3] => { results := [.lit (.bool true)], args := [d1, d2, d3] }
  | _ => none }
def tableWaitsRow : OpenClaim := { program := "ytiacikmignjdoaa", sum := "2e0dbef4f95c6f24d38f9dc6b5b7d8fd12dffd878bd6a25f82e5d1cdf00c24af", func := "rota/rotalaw16.TableWaits", spec := "tableWaits", unfollowed := true, recurses := true, apart := false }
def TableWaitsSaid : Prop := tableWaitsRow.holds Try.pinned (OpenSpec.ofChange tableWaitsSpec)

/-- ITS FALSE NEIGHBOUR: 'it returns false'. Refute it at one input. -/
def tableWaitsWrong : ChangeSpec := { name := "tableWaits", fn := fun _ => fun
  | [d1, d2, d3] => { results := [.lit (.bool false)], args := [d1, d2, d3] }
  | _ => none }
def TableWaitsWrongFalsely : Prop := tableWaitsRow.holds Try.pinned (OpenSpec.ofChange tableWaitsWrong)

/-- 'rotalaw16.TableSoon': WHATEVER THE INPUT: true; the input reads as it did. -/
def tableSoonSpec : ChangeSpec := { name := "tableSoon", fn := fun _ => fun
  | [d1, d2, d3] => { results := [.lit (.bool true)], args := [d1, d2, d3] }
  | _ => none }
def tableSoonRow : OpenClaim := { program := "ytiacikmignjdoaa", sum := "2e0dbef4f95c6f24d38f9dc6b5b7d8fd12dffd878bd6a25f82e5d1cdf00c24af", func := "rota/rotalaw16.TableSoon", spec := "tableSoon", unfollowed := true, recurses := true, apart := false }
def TableSoonSaid : Prop := tableSoonRow.holds Try.pinned (OpenSpec.ofChange tableSoonSpec)

/-- ITS FALSE NEIGHBOUR: 'it returns false'. Refute it at one input. -/
def tableSoonWrong : ChangeSpec := { name := "tableSoon", fn := fun _ => fun
  | [d1, d2, d3] => { results := [.lit (.bool false)], args := [d1, d2, d3] }
  | _ => none }
def TableSoonWrongFalsely : Prop := tableSoonRow.holds Try.pinned (OpenSpec.ofChange tableSoonWrong)

/- THE SECOND FORM. 'bulk': how many values and letters a reading holds, each counted each time it is reached (what is shared counts as often as it is met; a slice's spare places count too). A statement '..UptoSaid' is the law's where the arguments, and the package variables that the reading takes, are together of bulk at most 1048576: NARROWER than '..Said'. Prove '..Said' where nothing that the law and all that it calls make is longer than what came in: it says more and counts as full. Else prove '..UptoSaid'. A law counts once. -/
mutual
def uptoBulk {H : Type} : DataW H → Nat
  | .lit (.string bytes) => bytes.length + 1
  | .lit _ => 1
  | .nil => 1
  | .ptr d => uptoBulk d + 1
  | .slice elems spare => uptoBulkAll elems + uptoBulkAll spare + 1
  | .agg parts => uptoBulkAll parts + 1
  | .iface _ d => uptoBulk d + 1
  | .map entries => uptoBulkEntries entries + 1
  | .held _ => 1
def uptoBulkAll {H : Type} : List (DataW H) → Nat
  | [] => 0
  | d :: r => uptoBulk d + uptoBulkAll r
def uptoBulkEntries {H : Type} : List (Lit × DataW H) → Nat
  | [] => 0
  | x :: r => uptoBulkEntry x + uptoBulkEntries r
def uptoBulkEntry {H : Type} : Lit × DataW H → Nat
  | (.string bytes, d) => bytes.length + uptoBulk d + 1
  | (_, d) => uptoBulk d + 1
 end
def uptoSmall : (H : Type) → List (DataW H) → Bool := fun _ ds => decide (uptoBulkAll ds ≤ 1048576)
def OpenSpec.upto (s : _root_.Go.ChangeSpec) : _root_.Go.OpenSpec := { _root_.Go.OpenSpec.ofChange s with cond := some uptoSmall }

/-- 'rotalaw16.TableChecks', WHERE WHAT IT READS IS OF BULK AT MOST 1048576: true; the input reads as it did. -/
def tableChecksUptoRow : OpenClaim := { program := "ytiacikmignjdoaa", sum := "2e0dbef4f95c6f24d38f9dc6b5b7d8fd12dffd878bd6a25f82e5d1cdf00c24af", func := "rota/rotalaw16.TableChecks", spec := "tableChecks", apart := false, narrowed := true }
def TableChecksUptoSaid : Prop := tableChecksUptoRow.holds Try.pinned (OpenSpec.upto tableChecksSpec)

/-- 'rotalaw16.TableOwners', WHERE WHAT IT READS IS OF BULK AT MOST 1048576: true; the input reads as it did. -/
def tableOwnersUptoRow : OpenClaim := { program := "ytiacikmignjdoaa", sum := "2e0dbef4f95c6f24d38f9dc6b5b7d8fd12dffd878bd6a25f82e5d1cdf00c24af", func := "rota/rotalaw16.TableOwners", spec := "tableOwners", apart := false, narrowed := true }
def TableOwnersUptoSaid : Prop := tableOwnersUptoRow.holds Try.pinned (OpenSpec.upto tableOwnersSpec)

/-- 'rotalaw16.TableOne', WHERE WHAT IT READS IS OF BULK AT MOST 1048576: true; the input reads as it did. -/
def tableOneUptoRow : OpenClaim := { program := "ytiacikmignjdoaa", sum := "2e0dbef4f95c6f24d38f9dc6b5b7d8fd12dffd878bd6a25f82e5d1cdf00c24af", func := "rota/rotalaw16.TableOne", spec := "tableOne", apart := false, narrowed := true }
def TableOneUptoSaid : Prop := tableOneUptoRow.holds Try.pinned (OpenSpec.upto tableOneSpec)

/-- 'rotalaw16.TableCounts', WHERE WHAT IT READS IS OF BULK AT MOST 1048576: true; the input reads as it did. -/
def tableCountsUptoRow : OpenClaim := { program := "ytiacikmignjdoaa", sum := "2e0dbef4f95c6f24d38f9dc6b5b7d8fd12dffd878bd6a25f82e5d1cdf00c24af", func := "rota/rotalaw16.TableCounts", spec := "tableCounts", unfollowed := true, recurses := true, apart := false, narrowed := true }
def TableCountsUptoSaid : Prop := tableCountsUptoRow.holds Try.pinned (OpenSpec.upto tableCountsSpec)

/-- 'rotalaw16.TableTurns', WHERE WHAT IT READS IS OF BULK AT MOST 1048576: true; the input reads as it did. -/
def tableTurnsUptoRow : OpenClaim := { program := "ytiacikmignjdoaa", sum := "2e0dbef4f95c6f24d38f9dc6b5b7d8fd12dffd878bd6a25f82e5d1cdf00c24af", func := "rota/rotalaw16.TableTurns", spec := "tableTurns", apart := false, narrowed := true }
def TableTurnsUptoSaid : Prop := tableTurnsUptoRow.holds Try.pinned (OpenSpec.upto tableTurnsSpec)

/-- 'rotalaw16.TableTicks', WHERE WHAT IT READS IS OF BULK AT MOST 1048576: true; the input reads as it did. -/
def tableTicksUptoRow : OpenClaim := { program := "ytiacikmignjdoaa", sum := "2e0dbef4f95c6f24d38f9dc6b5b7d8fd12dffd878bd6a25f82e5d1cdf00c24af", func := "rota/rotalaw16.TableTicks", spec := "tableTicks", unfollowed := true, recurses := true, apart := false, narrowed := true }
def TableTicksUptoSaid : Prop := tableTicksUptoRow.holds Try.pinned (OpenSpec.upto tableTicksSpec)

/-- 'rotalaw16.TableSupplies', WHERE WHAT IT READS IS OF BULK AT MOST 1048576: true; the input reads as it did. -/
def tableSuppliesUptoRow : OpenClaim := { program := "ytiacikmignjdoaa", sum := "2e0dbef4f95c6f24d38f9dc6b5b7d8fd12dffd878bd6a25f82e5d1cdf00c24af", func := "rota/rotalaw16.TableSupplies", spec := "tableSupplies", unfollowed := true, recurses := true, apart := false, narrowed := true }
def TableSuppliesUptoSaid : Prop := tableSuppliesUptoRow.holds Try.pinned (OpenSpec.upto tableSuppliesSpec)

/-- 'rotalaw16.TableDomains', WHERE WHAT IT READS IS OF BULK AT MOST 1048576: true; the input reads as it did. -/
def tableDomainsUptoRow : OpenClaim := { program := "ytiacikmignjdoaa", sum := "2e0dbef4f95c6f24d38f9dc6b5b7d8fd12dffd878bd6a25f82e5d1cdf00c24af", func := "rota/rotalaw16.TableDomains", spec := "tableDomains", unfollowed := true, recurses := true, apart := false, narrowed := true }
def TableDomainsUptoSaid : Prop := tableDomainsUptoRow.holds Try.pinned (OpenSpec.upto tableDomainsSpec)

/-- 'rotalaw16.TableAdds', WHERE WHAT IT READS IS OF BULK AT MOST 1048576: true; the input reads as it did. -/
def tableAddsUptoRow : OpenClaim := { program := "ytiacikmignjdoaa", sum := "2e0dbef4f95c6f24d38f9dc6b5b7d8fd12dffd878bd6a25f82e5d1cdf00c24af", func := "rota/rotalaw16.TableAdds", spec := "tableAdds", unfollowed := true, recurses := true, apart := false, narrowed := true }
def TableAddsUptoSaid : Prop := tableAddsUptoRow.holds Try.pinned (OpenSpec.upto tableAddsSpec)

/-- 'rotalaw16.TableCounted', WHERE WHAT IT READS IS OF BULK AT MOST 1048576: true; the input reads as it did. -/
def tableCountedUptoRow : OpenClaim := { program := "ytiacikmignjdoaa", sum := "2e0dbef4f95c6f24d38f9dc6b5b7d8fd12dffd878bd6a25f82e5d1cdf00c24af", func := "rota/rotalaw16.TableCounted", spec := "tableCounted", unfollowed := true, recurses := true, apart := false, narrowed := true }
def TableCountedUptoSaid : Prop := tableCountedUptoRow.holds Try.pinned (OpenSpec.upto tableCountedSpec)

/-- 'rotalaw16.TableWaits', WHERE WHAT IT READS IS OF BULK AT MOST 1048576: true; the input reads as it did. -/
def tableWaitsUptoRow : OpenClaim := { program := "ytiacikmignjdoaa", sum := "2e0dbef4f95c6f24d38f9dc6b5b7d8fd12dffd878bd6a25f82e5d1cdf00c24af", func := "rota/rotalaw16.TableWaits", spec := "tableWaits", unfollowed := true, recurses := true, apart := false, narrowed := true }
def TableWaitsUptoSaid : Prop := tableWaitsUptoRow.holds Try.pinned (OpenSpec.upto tableWaitsSpec)

/-- 'rotalaw16.TableSoon', WHERE WHAT IT READS IS OF BULK AT MOST 1048576: true; the input reads as it did. -/
def tableSoonUptoRow : OpenClaim := { program := "ytiacikmignjdoaa", sum := "2e0dbef4f95c6f24d38f9dc6b5b7d8fd12dffd878bd6a25f82e5d1cdf00c24af", func := "rota/rotalaw16.TableSoon", spec := "tableSoon", unfollowed := true, recurses := true, apart := false, narrowed := true }
def TableSoonUptoSaid : Prop := tableSoonUptoRow.holds Try.pinned (OpenSpec.upto tableSoonSpec)

end Rows
end Go.Proofs.Ytiacikmignjdoaa
