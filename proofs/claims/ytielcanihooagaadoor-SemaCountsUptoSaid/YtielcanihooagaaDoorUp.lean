/- What the bound of an 'upto' statement gives: how long each slice is that came in. Conditions: none. -/
import Derived.Test.YtielcanihooagaaDoorRows
import Derived.Test.YtielcanihooagaaDoorKin
import Derived.Deep.CondSized
set_option linter.unusedVariables false
namespace Go.Proofs.YtielcanihooagaaDoor.Upto
open Go.ChangeShapes Go.WideShapes Go.Deep Go.Proofs.YtielcanihooagaaDoorW.PrintWords

theorem one_le {H : Type} (d : DataW H) : 1 ≤ Rows.uptoBulk d := by
  cases d with
  | lit l => cases l <;> simp [Rows.uptoBulk]
  | nil => simp [Rows.uptoBulk]
  | ptr d => simp [Rows.uptoBulk]
  | slice elems spare => simp [Rows.uptoBulk]
  | agg parts => simp [Rows.uptoBulk]
  | iface t d => simp [Rows.uptoBulk]
  | map entries => simp [Rows.uptoBulk]
  | held h => simp [Rows.uptoBulk]
theorem part_le {H : Type} {d : DataW H} {l : List (DataW H)} (h : d ∈ l) : Rows.uptoBulk d ≤ Rows.uptoBulkAll l := by
  induction l with
  | nil => cases h
  | cons x r ih =>
    simp only [Rows.uptoBulkAll]
    cases List.mem_cons.1 h with
    | inl e => subst e; omega
    | inr e => have := ih e; omega
theorem length_le {H : Type} (l : List (DataW H)) : l.length ≤ Rows.uptoBulkAll l := by
  induction l with
  | nil => simp [Rows.uptoBulkAll]
  | cons x r ih => have := one_le x; simp only [Rows.uptoBulkAll, List.length_cons]; omega
theorem slice_len {H : Type} {enc : TypeId × Value → H} {P : Program} {w : World} {t e : TypeId} (ht : P.underlying t = some (.slice e)) {B : Option Addr} {n c : Nat} {x : DataW H} {ps : List MemPlace}
    (hx : DataW.Trod enc P w 0 (fun _ => true) true t (.slice B n c) x ps) : n ≤ Rows.uptoBulk x := by
  obtain ⟨fuel, hf⟩ := hx
  rcases open_slice ht hf with ⟨h0, _⟩ | ⟨a, len, cap, m, n', D, Pl, h1, _, hl, hm, hmc, he, hel⟩
  · have h0' : [Value.slice B n c] = [Value.slice none 0 0] := h0
    injection h0' with h0' _
    injection h0' with _ h2 _
    omega
  · have h1' : [Value.slice B n c] = [Value.slice (some a) len cap] := h1
    injection h1' with h1' _
    injection h1' with _ h2 _
    obtain ⟨rfl, _⟩ := Prod.mk.inj he
    subst h2
    simp only [Rows.uptoBulk]
    have := length_le ((List.range n).map D)
    rw [List.length_map, List.length_range] at this
    omega
theorem arg_len {H : Type} {enc : TypeId × Value → H} {P : Program} {w : World} {t e : TypeId} (ht : P.underlying t = some (.slice e)) {B : Option Addr} {n c : Nat} {x : DataW H} {ps : List MemPlace}
    (hx : DataW.Trod enc P w 0 (fun _ => true) true t (.slice B n c) x ps) {ds : List (DataW H)} (hd : x ∈ ds) (hk : Rows.uptoSmall H ds = true) : n ≤ 1048576 := by
  have h1 : Rows.uptoBulkAll ds ≤ 1048576 := of_decide_eq_true hk
  have h2 := part_le hd
  have h3 := slice_len ht hx
  omega
end Go.Proofs.YtielcanihooagaaDoor.Upto
