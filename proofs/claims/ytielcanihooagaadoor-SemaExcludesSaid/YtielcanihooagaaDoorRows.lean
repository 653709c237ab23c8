/-
  NARROWER THAN 'FOR EVERY INPUT', by the rows' own cells (each row's printed sentence says how): SemaLoads: calm.
  DERIVED. THE GIVEN ROWS OF THIS SEAT. 4 by the template 'for every input the law returns true; each argument reads behind the call as it read before'; 0 by the template 'total and deterministic' (their statements: YtielcanihooagaaDoorTotals.lean).
  GIVEN WITH THE SEED: the statements are not yours to turn. If you find one false, say at which input.
  Laid BY PROGRAM, IN A SANDBOX (cutbox-rows.mjs): the forced cells as the released guide's own fill.sh prints them over the translation 7fa0cb23d3e8e8c0… (all of the seat's roots in one cut). By AI agents, Wed Nov 11 2026. No macro, syntax, notation, axiom, sorry.
-/
import Derived.Test.YtielcanihooagaaDoorChecked
import GoSem.Claim
import GoSem.ClaimJoined
import GoSem.ClaimMapViews
import Derived.JoinedTies
import Derived.KernelRfl
namespace Go.Proofs.YtielcanihooagaaDoor
/- THE CELL 'sum', in the pinned program and in every row, IS THE sha256 OF THE DUMP (.gsa) THAT YtielcanihooagaaDoorProg.lean LOADS. Nothing in Lean hashes anything: it is a label: what it is worth is what the hold of that sum in a sandbox is worth. -/
noncomputable def Tryd.pinned : Pinned := { name := "ytielcanihooagaadoor", sum := "7fa0cb23d3e8e8c0f5f7ce21941801cd04991b575ed6a6eab3ec20357a2beafb", checked := Tryd.checked }
namespace Rows
def none {H : Type} : Left H := { results := [], args := [] }

/-- 'rotalaw13.SemaCounts': WHATEVER THE INPUT: true; the input reads as it did. -/
def semaCountsSpec : ChangeSpec := { name := "semaCounts", fn := fun _ => fun
  | [d] => { results := [.lit (.bool true)], args := [d] }
  | _ => none }
def semaCountsRow : OpenClaim := { program := "ytielcanihooagaadoor", sum := "7fa0cb23d3e8e8c0f5f7ce21941801cd04991b575ed6a6eab3ec20357a2beafb", func := "rota/rotalaw13.SemaCounts", spec := "semaCounts", unfollowed := true, recurses := true, named := ["rota/sema.none"], plainKeys := false, apart := false }
def SemaCountsSaid : Prop := semaCountsRow.holds Tryd.pinned (OpenSpec.ofChange semaCountsSpec)

/-- ITS FALSE NEIGHBOUR: 'it returns false'. Refute it at one input. -/
def semaCountsWrong : ChangeSpec := { name := "semaCounts", fn := fun _ => fun
  | [d] => { results := [.lit (.bool false)], args := [d] }
  | _ => none }
def SemaCountsWrongFalsely : Prop := semaCountsRow.holds Tryd.pinned (OpenSpec.ofChange semaCountsWrong)

/-- 'rotalaw13.SemaExcludes': WHATEVER THE INPUT: true; the input reads as it did. -/
def semaExcludesSpec : ChangeSpec := { name := "semaExcludes", fn := fun _ => fun
  | [d] => { results := [.lit (.bool true)], args := [d] }
  | _ => none }
def semaExcludesRow : OpenClaim := { program := "ytielcanihooagaadoor", sum := "7fa0cb23d3e8e8c0f5f7ce21941801cd04991b575ed6a6eab3ec20357a2beafb", func := "rota/rotalaw13.SemaExcludes", spec := "semaExcludes", unfollowed := true, recurses := true, named := ["rota/sema.none"], plainKeys := false, apart := false }
def SemaExcludesSaid : Prop := semaExcludesRow.holds Tryd.pinned (OpenSpec.ofChange semaExcludesSpec)

/-- ITS FALSE NEIGHBOUR: 'it returns false'. Refute it at one input. -/
def semaExcludesWrong : ChangeSpec := { name := "semaExcludes", fn := fun _ => fun
  | [d] => { results := [.lit (.bool false)], args := [d] }
  | _ => none }
def SemaExcludesWrongFalsely : Prop := semaExcludesRow.holds Tryd.pinned (OpenSpec.ofChange semaExcludesWrong)

/-- 'rotalaw13.SemaLoads': WHATEVER THE INPUT: true; the input reads as it did. -/
def semaLoadsSpec : ChangeSpec := { name := "semaLoads", fn := fun _ => fun
  | [d1, d2] => { results := [.lit (.bool true)], args := [d1, d2] }
  | _ => none }
def semaLoadsRow : OpenClaim := { program := "ytielcanihooagaadoor", sum := "7fa0cb23d3e8e8c0f5f7ce21941801cd04991b575ed6a6eab3ec20357a2beafb", func := "rota/rotalaw13.SemaLoads", spec := "semaLoads", unfollowed := true, recurses := true, named := ["rota/sema.none"], plainKeys := false, apart := false, calm := true, outside := [.timePasses] }
def SemaLoadsSaid : Prop := semaLoadsRow.holds Tryd.pinned (OpenSpec.ofChange semaLoadsSpec)

/-- ITS FALSE NEIGHBOUR: 'it returns false'. Refute it at one input. -/
def semaLoadsWrong : ChangeSpec := { name := "semaLoads", fn := fun _ => fun
  | [d1, d2] => { results := [.lit (.bool false)], args := [d1, d2] }
  | _ => none }
def SemaLoadsWrongFalsely : Prop := semaLoadsRow.holds Tryd.pinned (OpenSpec.ofChange semaLoadsWrong)

/-- 'rotalaw13.SemaOwn': WHATEVER THE INPUT: true; the input reads as it did. -/
def semaOwnSpec : ChangeSpec := { name := "semaOwn", fn := fun _ => fun
  | [d1, d2] => { results := [.lit (.bool true)], args := [d1, d2] }
  | _ => none }
def semaOwnRow : OpenClaim := { program := "ytielcanihooagaadoor", sum := "7fa0cb23d3e8e8c0f5f7ce21941801cd04991b575ed6a6eab3ec20357a2beafb", func := "rota/rotalaw13.SemaOwn", spec := "semaOwn", unfollowed := true, recurses := true, named := ["rota/sema.none"], plainKeys := false, apart := false }
def SemaOwnSaid : Prop := semaOwnRow.holds Tryd.pinned (OpenSpec.ofChange semaOwnSpec)

/-- ITS FALSE NEIGHBOUR: 'it returns false'. Refute it at one input. -/
def semaOwnWrong : ChangeSpec := { name := "semaOwn", fn := fun _ => fun
  | [d1, d2] => { results := [.lit (.bool false)], args := [d1, d2] }
  | _ => none }
def SemaOwnWrongFalsely : Prop := semaOwnRow.holds Tryd.pinned (OpenSpec.ofChange semaOwnWrong)

/- THE SECOND FORM. 'bulk': how many values and letters a reading holds, each counted each time it is reached (what is shared counts as often as it is met; a slice's spare places count too). A statement '..UptoSaid' is the law's where the arguments, and the package variables that the reading takes, are together of bulk at most 1048576: NARROWER than '..Said'. Prove '..Said' where nothing that the law and all that it calls make is longer than what came in: it says more and counts as full. Else prove '..UptoSaid'. A law counts once. -/
mutual
def uptoBulk {H : Type} : DataW H → Nat
  | .lit (.string bytes) => bytes.length + 1
  | .lit _ => 1
  | .nil => 1
  | .ptr d => uptoBulk d + 1
  | .slice elems spare => uptoBulkAll elems + uptoBulkAll spare + 1
  | .agg parts => uptoBulkAll parts + 1
  | .iface _ d => uptoBulk d + 1
  | .map entries => uptoBulkEntries entries + 1
  | .held _ => 1
def uptoBulkAll {H : Type} : List (DataW H) → Nat
  | [] => 0
  | d :: r => uptoBulk d + uptoBulkAll r
def uptoBulkEntries {H : Type} : List (Lit × DataW H) → Nat
  | [] => 0
  | x :: r => uptoBulkEntry x + uptoBulkEntries r
def uptoBulkEntry {H : Type} : Lit × DataW H → Nat
  | (.string bytes, d) => bytes.length + uptoBulk d + 1
  | (_, d) => uptoBulk d + 1
 end
def uptoSmall : (H : Type) → List (DataW H) → Bool := fun _ ds => decide (uptoBulkAll ds ≤ 1048576)
def OpenSpec.upto (s : _root_.Go.ChangeSpec) : _root_.Go.OpenSpec := { _root_.Go.OpenSpec.ofChange s with cond := some uptoSmall }

/-- 'rotalaw13.SemaCounts', WHERE WHAT IT READS IS OF BULK AT MOST 1048576: true; the input reads as it did. -/
def semaCountsUptoRow : OpenClaim := { program := "ytielcanihooagaadoor", sum := "7fa0cb23d3e8e8c0f5f7ce21941801cd04991b575ed6a6eab3ec20357a2beafb", func := "rota/rotalaw13.SemaCounts", spec := "semaCounts", unfollowed := true, recurses := true, named := ["rota/sema.none"], plainKeys := false, apart := false, narrowed := true }
def SemaCountsUptoSaid : Prop := semaCountsUptoRow.holds Tryd.pinned (OpenSpec.upto semaCountsSpec)

/-- 'rotalaw13.SemaExcludes', WHERE WHAT IT READS IS OF BULK AT MOST 1048576: true; the input reads as it did. -/
def semaExcludesUptoRow : OpenClaim := { program := "ytielcanihooagaadoor", sum := "7fa0cb23d3e8e8c0f5f7ce21941801cd04991b575ed6a6eab3ec20357a2beafb", func := "rota/rotalaw13.SemaExcludes", spec := "semaExcludes", unfollowed := true, recurses := true, named := ["rota/sema.none"], plainKeys := false, apart := false, narrowed := true }
def SemaExcludesUptoSaid : Prop := semaExcludesUptoRow.holds Tryd.pinned (OpenSpec.upto semaExcludesSpec)

/-- 'rotalaw13.SemaOwn', WHERE WHAT IT READS IS OF BULK AT MOST 1048576: true; the input reads as it did. -/
def semaOwnUptoRow : OpenClaim := { program := "ytielcanihooagaadoor", sum := "7fa0cb23d3e8e8c0f5f7ce21941801cd04991b575ed6a6eab3ec20357a2beafb", func := "rota/rotalaw13.SemaOwn", spec := "semaOwn", unfollowed := true, recurses := true, named := ["rota/sema.none"], plainKeys := false, apart := false, narrowed := true }
def SemaOwnUptoSaid : Prop := semaOwnUptoRow.holds Tryd.pinned (OpenSpec.upto semaOwnSpec)

end Rows
end Go.Proofs.YtielcanihooagaaDoor
