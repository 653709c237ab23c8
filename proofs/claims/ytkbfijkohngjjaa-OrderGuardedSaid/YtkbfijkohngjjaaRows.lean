/-
  No cell of these rows narrows 'for every input' (looked for: loops, veiled, ifaces, maps, wideKeys, modest, calm, conditions, laid).
  DERIVED. THE GIVEN ROWS OF THIS SEAT. 10 by the template 'for every input the law returns true; each argument reads behind the call as it read before'; 0 by the template 'total and deterministic' (their statements: YtkbfijkohngjjaaTotals.lean).
  GIVEN WITH THE SEED: the statements are not yours to turn. If you find one false, say at which input.
  Laid BY PROGRAM, IN A SANDBOX (cutbox-rows.mjs): the forced cells as the released guide's own fill.sh prints them over the translation 1476bec4642753fb… (all of the seat's roots in one cut). By AI agents, Wed Nov 11 2026. No macro, syntax, notation, axiom, sorry.
-/
import Derived.Test.YtkbfijkohngjjaaChecked
import GoSem.Claim
import GoSem.ClaimJoined
import GoSem.ClaimMapViews
import Derived.JoinedTies
import Derived.KernelRfl
namespace Go.Proofs.Ytkbfijkohngjjaa
/- THE CELL 'sum', in the pinned program and in every row, IS THE sha256 OF THE DUMP (.gsa) THAT YtkbfijkohngjjaaProg.lean LOADS. Nothing in Lean hashes anything: it is a label: what it is worth is what the hold of that sum in a sandbox is worth. -/
noncomputable def Try.pinned : Pinned := { name := "ytkbfijkohngjjaa", sum := "1476bec4642753fbeb4ba0ccf644e230899bd510a1326fbc9a714582d9237304", checked := Try.checked }
namespace Rows
def none {H : Type} : Left H := { results := [], args := [] }

/-- 'rotalaw26.OrderBefores': WHATEVER THE INPUT: true; the input reads as it did. -/
def orderBeforesSpec : ChangeSpec := { name := "orderBefores", fn := fun _ => fun
  | [d] => { results := [.lit (.bool true)], args := [d] }
  | _ => none }
def orderBeforesRow : OpenClaim := { program := "ytkbfijkohngjjaa", sum := "1476bec4642753fbeb4ba0ccf644e230899bd510a1326fbc9a714582d9237304", func := "rota/rotalaw26.OrderBefores", spec := "orderBefores", unfollowed := true, recurses := true, plainKeys := false, apart := false }
def OrderBeforesSaid : Prop := orderBeforesRow.holds Try.pinned (OpenSpec.ofChange orderBeforesSpec)

/-- ITS FALSE NEIGHBOUR: 'it returns false'. Refute it at one input. -/
def orderBeforesWrong : ChangeSpec := { name := "orderBefores", fn := fun _ => fun
  | [d] => { results := [.lit (.bool false)], args := [d] }
  | _ => none }
def OrderBeforesWrongFalsely : Prop := orderBeforesRow.holds Try.pinned (OpenSpec.ofChange orderBeforesWrong)

/-- 'rotalaw26.OrderStrict': WHATEVER THE INPUT: true; the input reads as it did. -/
def orderStrictSpec : ChangeSpec := { name := "orderStrict", fn := fun _ => fun
  | [d] => { results := [.lit (.bool true)], args := [d] }
  | _ => none }
def orderStrictRow : OpenClaim := { program := "ytkbfijkohngjjaa", sum := "1476bec4642753fbeb4ba0ccf644e230899bd510a1326fbc9a714582d9237304", func := "rota/rotalaw26.OrderStrict", spec := "orderStrict", unfollowed := true, recurses := true, plainKeys := false, apart := false }
def OrderStrictSaid : Prop := orderStrictRow.holds Try.pinned (OpenSpec.ofChange orderStrictSpec)

/-- ITS FALSE NEIGHBOUR: 'it returns false'. Refute it at one input. -/
def orderStrictWrong : ChangeSpec := { name := "orderStrict", fn := fun _ => fun
  | [d] => { results := [.lit (.bool false)], args := [d] }
  | _ => none }
def OrderStrictWrongFalsely : Prop := orderStrictRow.holds Try.pinned (OpenSpec.ofChange orderStrictWrong)

/-- 'rotalaw26.OrderRules': WHATEVER THE INPUT: true; the input reads as it did. -/
def orderRulesSpec : ChangeSpec := { name := "orderRules", fn := fun _ => fun
  | [d1, d2] => { results := [.lit (.bool true)], args := [d1, d2] }
  | _ => none }
def orderRulesRow : OpenClaim := { program := "ytkbfijkohngjjaa", sum := "1476bec4642753fbeb4ba0ccf644e230899bd510a1326fbc9a714582d9237304", func := "rota/rotalaw26.OrderRules", spec := "orderRules", unfollowed := true, recurses := true, plainKeys := false, apart := false }
def OrderRulesSaid : Prop := orderRulesRow.holds Try.pinned (OpenSpec.ofChange orderRulesSpec)

/-- ITS FALSE NEIGHBOUR: 'it returns false'. Refute it at one input. -/
def orderRulesWrong : ChangeSpec := { name := "orderRules", fn := fun _ => fun
  | [d1, d2] => { results := [.lit (.bool false)], args := [d1, d2] }
  | _ => none }
def OrderRulesWrongFalsely : Prop := orderRulesRow.holds Try.pinned (OpenSpec.ofChange orderRulesWrong)

/-- 'rotalaw26.OrderArrows': WHATEVER THE INPUT: true; the input reads as it did. -/
def orderArrowsSpec : ChangeSpec := { name := "orderArrows", fn := fun _ => fun
  | [d1, d2] => { results := [.lit (.bool true)], args := [d1, d2] }
  | _ => none }
def orderArrowsRow : OpenClaim := { program := "ytkbfijkohngjjaa", sum := "1476bec4642753fbeb4ba0ccf644e230899bd510a1326fbc9a714582d9237304", func := "rota/rotalaw26.OrderArrows", spec := "orderArrows", unfollowed := true, recurses := true, plainKeys := false, apart := false }
def OrderArrowsSaid : Prop := orderArrowsRow.holds Try.pinned (OpenSpec.ofChange orderArrowsSpec)

/-- ITS FALSE NEIGHBOUR: 'it returns false'. Refute it at one input. -/
def orderArrowsWrong : ChangeSpec := { name := "orderArrows", fn := fun _ => fun
  | [d1, d2] => { results := [.lit (.bool false)], args := [d1, d2] }
  | _ => none }
def OrderArrowsWrongFalsely : Prop := orderArrowsRow.holds Try.pinned (OpenSpec.ofChange orderArrowsWrong)

/-- 'rotalaw26.OrderRaces': WHATEVER THE INPUT: true; the input reads as it did. -/
def orderRacesSpec : ChangeSpec := { name := "orderRaces", fn := fun _ => fun
  | [d1, d2] => { results := [.lit (.bool true)], args := [d1, d2] }
  | _ => none }
def orderRacesRow : OpenClaim := { program := "ytkbfijkohngjjaa", sum := "1476bec4642753fbeb4ba0ccf644e230899bd510a1326fbc9a714582d9237304", func := "rota/rotalaw26.OrderRaces", spec := "orderRaces", unfollowed := true, recurses := true, plainKeys := false, apart := false }
def OrderRacesSaid : Prop := orderRacesRow.holds Try.pinned (OpenSpec.ofChange orderRacesSpec)

/-- ITS FALSE NEIGHBOUR: 'it returns false'. Refute it at one input. -/
def orderRacesWrong : ChangeSpec := { name := "orderRaces", fn := fun _ => fun
  | [d1, d2] => { results := [.lit (.bool false)], args := [d1, d2] }
  | _ => none }
def OrderRacesWrongFalsely : Prop := orderRacesRow.holds Try.pinned (OpenSpec.ofChange orderRacesWrong)

/-- 'rotalaw26.OrderGuarded': WHATEVER THE INPUT: true; the input reads as it did. -/
def orderGuardedSpec : ChangeSpec := { name := "orderGuarded", fn := fun _ => fun
  | [d1, d2, d3] => { results := [.lit (.bool true)], args := [d1, d2, d3] }
  | _ => none }
def orderGuardedRow : OpenClaim := { program := "ytkbfijkohngjjaa", sum := "1476bec4642753fbeb4ba0ccf644e230899bd510a1326fbc9a714582d9237304", func := "rota/rotalaw26.OrderGuarded", spec := "orderGuarded", unfollowed := true, recurses := true, plainKeys := false, apart := false }
def OrderGuardedSaid : Prop := orderGuardedRow.holds Try.pinned (OpenSpec.ofChange orderGuardedSpec)

/-- ITS FALSE NEIGHBOUR: 'it returns false'. Refute it at one input. -/
def orderGuardedWrong : ChangeSpec := { name := "orderGuarded", fn := fun _ => fun
  | [d1, d2, d3] => { results := [.lit (.bool false)], args := [d1, d2, d3] }
  | _ => none }
def OrderGuardedWrongFalsely : Prop := orderGuardedRow.holds Try.pinned (OpenSpec.ofChange orderGuardedWrong)

/-- 'rotalaw26.OrderAlone': WHATEVER THE INPUT: true; the input reads as it did. -/
def orderAloneSpec : ChangeSpec := { name := "orderAlone", fn := fun _ => fun
  | [d] => { results := [.lit (.bool true)], args := [d] }
  | _ => none }
def orderAloneRow : OpenClaim := { program := "ytkbfijkohngjjaa", sum := "1476bec4642753fbeb4ba0ccf644e230899bd510a1326fbc9a714582d9237304", func := "rota/rotalaw26.OrderAlone", spec := "orderAlone", unfollowed := true, recurses := true, plainKeys := false, apart := false }
def OrderAloneSaid : Prop := orderAloneRow.holds Try.pinned (OpenSpec.ofChange orderAloneSpec)

/-- ITS FALSE NEIGHBOUR: 'it returns false'. Refute it at one input. -/
def orderAloneWrong : ChangeSpec := { name := "orderAlone", fn := fun _ => fun
  | [d] => { results := [.lit (.bool false)], args := [d] }
  | _ => none }
def OrderAloneWrongFalsely : Prop := orderAloneRow.holds Try.pinned (OpenSpec.ofChange orderAloneWrong)

/-- 'rotalaw26.OrderClocks': WHATEVER THE INPUT: true; the input reads as it did. -/
def orderClocksSpec : ChangeSpec := { name := "orderClocks", fn := fun _ => fun
  | [d1, d2] => { results := [.lit (.bool true)], args := [d1, d2] }
  | _ => none }
def orderClocksRow : OpenClaim := { program := "ytkbfijkohngjjaa", sum := "1476bec4642753fbeb4ba0ccf644e230899bd510a1326fbc9a714582d9237304", func := "rota/rotalaw26.OrderClocks", spec := "orderClocks", unfollowed := true, recurses := true, plainKeys := false, apart := false }
def OrderClocksSaid : Prop := orderClocksRow.holds Try.pinned (OpenSpec.ofChange orderClocksSpec)

/-- ITS FALSE NEIGHBOUR: 'it returns false'. Refute it at one input. -/
def orderClocksWrong : ChangeSpec := { name := "orderClocks", fn := fun _ => fun
  | [d1, d2] => { results := [.lit (.bool false)], args := [d1, d2] }
  | _ => none }
def OrderClocksWrongFalsely : Prop := orderClocksRow.holds Try.pinned (OpenSpec.ofChange orderClocksWrong)

/-- 'rotalaw26.OrderVector': WHATEVER THE INPUT: true; the input reads as it did. -/
def orderVectorSpec : ChangeSpec := { name := "orderVector", fn := fun _ => fun
  | [d] => { results := [.lit (.bool true)], args := [d] }
  | _ => none }
def orderVectorRow : OpenClaim := { program := "ytkbfijkohngjjaa", sum := "1476bec4642753fbeb4ba0ccf644e230899bd510a1326fbc9a714582d9237304", func := "rota/rotalaw26.OrderVector", spec := "orderVector", unfollowed := true, recurses := true, plainKeys := false, apart := false }
def OrderVectorSaid : Prop := orderVectorRow.holds Try.pinned (OpenSpec.ofChange orderVectorSpec)

/-- ITS FALSE NEIGHBOUR: 'it returns false'. Refute it at one input. -/
def orderVectorWrong : ChangeSpec := { name := "orderVector", fn := fun _ => fun
  | [d] => { results := [.lit (.bool false)], args := [d] }
  | _ => none }
def OrderVectorWrongFalsely : Prop := orderVectorRow.holds Try.pinned (OpenSpec.ofChange orderVectorWrong)

/-- 'rotalaw26.OrderOwn': WHATEVER THE INPUT: true; the input reads as it did. -/
def orderOwnSpec : ChangeSpec := { name := "orderOwn", fn := fun _ => fun
  | [d1, d2] => { results := [.lit (.bool true)], args := [d1, d2] }
  | _ => none }
def orderOwnRow : OpenClaim := { program := "ytkbfijkohngjjaa", sum := "1476bec4642753fbeb4ba0ccf644e230899bd510a1326fbc9a714582d9237304", func := "rota/rotalaw26.OrderOwn", spec := "orderOwn", unfollowed := true, recurses := true, plainKeys := false, apart := false }
def OrderOwnSaid : Prop := orderOwnRow.holds Try.pinned (OpenSpec.ofChange orderOwnSpec)

/-- ITS FALSE NEIGHBOUR: 'it returns false'. Refute it at one input. -/
def orderOwnWrong : ChangeSpec := { name := "orderOwn", fn := fun _ => fun
  | [d1, d2] => { results := [.lit (.bool false)], args := [d1, d2] }
  | _ => none }
def OrderOwnWrongFalsely : Prop := orderOwnRow.holds Try.pinned (OpenSpec.ofChange orderOwnWrong)

/- THE SECOND FORM. 'bulk': how many values and letters a reading holds, each counted each time it is reached (what is shared counts as often as it is met; a slice's spare places count too). A statement '..UptoSaid' is the law's where the arguments, and the package variables that the reading takes, are together of bulk at most 1048576: NARROWER than '..Said'. Prove '..Said' where nothing that the law and all that it calls make is longer than what came in: it says more and counts as full. Else prove '..UptoSaid'. A law counts once. -/
mutual
def uptoBulk {H : Type} : DataW H → Nat
  | .lit (.string bytes) => bytes.length + 1
  | .lit _ => 1
  | .nil => 1
  | .ptr d => uptoBulk d + 1
  | .slice elems spare => uptoBulkAll elems + uptoBulkAll spare + 1
  | .agg parts => uptoBulkAll parts + 1
  | .iface _ d => uptoBulk d + 1
  | .map entries => uptoBulkEntries entries + 1
  | .held _ => 1
def uptoBulkAll {H : Type} : List (DataW H) → Nat
  | [] => 0
  | d :: r => uptoBulk d + uptoBulkAll r
def uptoBulkEntries {H : Type} : List (Lit × DataW H) → Nat
  | [] => 0
  | x :: r => uptoBulkEntry x + uptoBulkEntries r
def uptoBulkEntry {H : Type} : Lit × DataW H → Nat
  | (.string bytes, d) => bytes.length + uptoBulk d + 1
  | (_, d) => uptoBulk d + 1
 end
def uptoSmall : (H : Type) → List (DataW H) → Bool := fun _ ds => decide (uptoBulkAll ds ≤ 1048576)
def OpenSpec.upto (s : _root_.Go.ChangeSpec) : _root_.Go.OpenSpec := { _root_.Go.OpenSpec.ofChange s with cond := some uptoSmall }

/-- 'rotalaw26.OrderBefores', WHERE WHAT IT READS IS OF BULK AT MOST 1048576: true; the input reads as it did. -/
def orderBeforesUptoRow : OpenClaim := { program := "ytkbfijkohngjjaa", sum := "1476bec4642753fbeb4ba0ccf644e230899bd510a1326fbc9a714582d9237304", func := "rota/rotalaw26.OrderBefores", spec := "orderBefores", unfollowed := true, recurses := true, plainKeys := false, apart := false, narrowed := true }
def OrderBeforesUptoSaid : Prop := orderBeforesUptoRow.holds Try.pinned (OpenSpec.upto orderBeforesSpec)

/-- 'rotalaw26.OrderStrict', WHERE WHAT IT READS IS OF BULK AT MOST 1048576: true; the input reads as it did. -/
def orderStrictUptoRow : OpenClaim := { program := "ytkbfijkohngjjaa", sum := "1476bec4642753fbeb4ba0ccf644e230899bd510a1326fbc9a714582d9237304", func := "rota/rotalaw26.OrderStrict", spec := "orderStrict", unfollowed := true, recurses := true, plainKeys := false, apart := false, narrowed := true }
def OrderStrictUptoSaid : Prop := orderStrictUptoRow.holds Try.pinned (OpenSpec.upto orderStrictSpec)

/-- 'rotalaw26.OrderRules', WHERE WHAT IT READS IS OF BULK AT MOST 1048576: true; the input reads as it did. -/
def orderRulesUptoRow : OpenClaim := { program := "ytkbfijkohngjjaa", sum := "1476bec4642753fbeb4ba0ccf644e230899bd510a1326fbc9a714582d9237304", func := "rota/rotalaw26.OrderRules", spec := "orderRules", unfollowed := true, recurses := true, plainKeys := false, apart := false, narrowed := true }
def OrderRulesUptoSaid : Prop := orderRulesUptoRow.holds Try.pinned (OpenSpec.upto orderRulesSpec)

/-- 'rotalaw26.OrderArrows', WHERE WHAT IT READS IS OF BULK AT MOST 1048576: true; the input reads as it did. -/
def orderArrowsUptoRow : OpenClaim := { program := "ytkbfijkohngjjaa", sum := "1476bec4642753fbeb4ba0ccf644e230899bd510a1326fbc9a714582d9237304", func := "rota/rotalaw26.OrderArrows", spec := "orderArrows", unfollowed := true, recurses := true, plainKeys := false, apart := false, narrowed := true }
def OrderArrowsUptoSaid : Prop := orderArrowsUptoRow.holds Try.pinned (OpenSpec.upto orderArrowsSpec)

/-- 'rotalaw26.OrderRaces', WHERE WHAT IT READS IS OF BULK AT MOST 1048576: true; the input reads as it did. -/
def orderRacesUptoRow : OpenClaim := { program := "ytkbfijkohngjjaa", sum := "1476bec4642753fbeb4ba0ccf644e230899bd510a1326fbc9a714582d9237304", func := "rota/rotalaw26.OrderRaces", spec := "orderRaces", unfollowed := true, recurses := true, plainKeys := false, apart := false, narrowed := true }
def OrderRacesUptoSaid : Prop := orderRacesUptoRow.holds Try.pinned (OpenSpec.upto orderRacesSpec)

/-- 'rotalaw26.OrderGuarded', WHERE WHAT IT READS IS OF BULK AT MOST 1048576: true; the input reads as it did. -/
def orderGuardedUptoRow : OpenClaim := { program := "ytkbfijkohngjjaa", sum := "1476bec4642753fbeb4ba0ccf644e230899bd510a1326fbc9a714582d9237304", func := "rota/rotalaw26.OrderGuarded", spec := "orderGuarded", unfollowed := true, recurses := true, plainKeys := false, apart := false, narrowed := true }
def OrderGuardedUptoSaid : Prop := orderGuardedUptoRow.holds Try.pinned (OpenSpec.upto orderGuardedSpec)

/-- 'rotalaw26.OrderAlone', WHERE WHAT IT READS IS OF BULK AT MOST 1048576: true; the input reads as it did. -/
def orderAloneUptoRow : OpenClaim := { program := "ytkbfijkohngjjaa", sum := "1476bec4642753fbeb4ba0ccf644e230899bd510a1326fbc9a714582d9237304", func := "rota/rotalaw26.OrderAlone", spec := "orderAlone", unfollowed := true, recurses := true, plainKeys := false, apart := false, narrowed := true }
def OrderAloneUptoSaid : Prop := orderAloneUptoRow.holds Try.pinned (OpenSpec.upto orderAloneSpec)

/-- 'rotalaw26.OrderClocks', WHERE WHAT IT READS IS OF BULK AT MOST 1048576: true; the input reads as it did. -/
def orderClocksUptoRow : OpenClaim := { program := "ytkbfijkohngjjaa", sum := "1476bec4642753fbeb4ba0ccf644e230899bd510a1326fbc9a714582d9237304", func := "rota/rotalaw26.OrderClocks", spec := "orderClocks", unfollowed := true, recurses := true, plainKeys := false, apart := false, narrowed := true }
def OrderClocksUptoSaid : Prop := orderClocksUptoRow.holds Try.pinned (OpenSpec.upto orderClocksSpec)

/-- 'rotalaw26.OrderVector', WHERE WHAT IT READS IS OF BULK AT MOST 1048576: true; the input reads as it did. -/
def orderVectorUptoRow : OpenClaim := { program := "ytkbfijkohngjjaa", sum := "1476bec4642753fbeb4ba0ccf644e230899bd510a1326fbc9a714582d9237304", func := "rota/rotalaw26.OrderVector", spec := "orderVector", unfollowed := true, recurses := true, plainKeys := false, apart := false, narrowed := true }
def OrderVectorUptoSaid : Prop := orderVectorUptoRow.holds Try.pinned (OpenSpec.upto orderVectorSpec)

/-- 'rotalaw26.OrderOwn', WHERE WHAT IT READS IS OF BULK AT MOST 1048576: true; the input reads as it did. -/
def orderOwnUptoRow : OpenClaim := { program := "ytkbfijkohngjjaa", sum := "1476bec4642753fbeb4ba0ccf644e230899bd510a1326fbc9a714582d9237304", func := "rota/rotalaw26.OrderOwn", spec := "orderOwn", unfollowed := true, recurses := true, plainKeys := false, apart := false, narrowed := true }
def OrderOwnUptoSaid : Prop := orderOwnUptoRow.holds Try.pinned (OpenSpec.upto orderOwnSpec)

end Rows
end Go.Proofs.Ytkbfijkohngjjaa
