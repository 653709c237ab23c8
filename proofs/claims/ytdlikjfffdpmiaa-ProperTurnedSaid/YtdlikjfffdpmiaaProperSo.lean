/- slices.Sort and slices.Compact of a row of numbers of the call's own: the row is sorted, is without its repetitions.
   Conditions: the row is the call's own. -/
import Derived.Test.YtdlikjfffdpmiaaQProperx0
import Derived.Test.YtdlikjfffdpmiaaShelf
import Derived.Sort.OwnSortedInts
import Derived.Lib.RowBridge
set_option linter.unusedVariables false
set_option linter.unusedSimpArgs false
namespace Go.Proofs.Ytdlikjfffdpmiaa.QProper
open Go.RowKit Go.Sort Go.Proofs.YtdlikjfffdpmiaaW.PrintWords Go.Proofs.YtdlikjfffdpmiaaW.PrintLast Go.Proofs.YtdlikjfffdpmiaaW.PrintMore

def sorted (l : List Int) : List Int := l.mergeSort fun x y => decide (x ≤ y)
theorem sorted_length (l : List Int) : (sorted l).length = l.length := List.length_mergeSort l
def slices_Sort_int.f (l0 : List Int) : Option (List Int) := if l0.length < 4611686018427387904 then some (sorted l0) else none

theorem own_form {w : World} {base n : Nat} {v : Value} {l : List Int} (h : w.ownsRow base 3 1 v n (encs (Value.int .i64) l)) (hl : l.length = n) :
    (v = .slice none 0 0 ∧ l = []) ∨ ∃ g cap cur, v = .slice (some ⟨g, 0, none⟩) l.length cap ∧ base ≤ g ∧ w.heap[g]? = some (.cells cur 3 (0, 0)) ∧ l.length ≤ cap ∧ cap ≤ maxLen ∧ cur.size = cap * 1 ∧ cur.toList.take l.length = l.map (Value.int .i64) := by
  subst hl
  rcases h.2 with ⟨h1, h2⟩ | ⟨g, cap, cur, h1, h2, h3, h4, h5, h6, h7⟩
  · exact .inl ⟨h1, List.length_eq_zero_iff.mp h2⟩
  · exact .inr ⟨g, cap, cur, h1, h2, h3, h4, h5, h6, by simpa [encs] using h7⟩

theorem below_put {w0 w : World} {g n : Nat} {os : Array Obj} {d : Array Int} (hB : Below w0.heap.size w0 w) (hg : w0.heap.size ≤ g) : Below w0.heap.size w0 (grow (putRow (Value.int .i64) (Sort.ahead w n) g 0 d) os) :=
  hB.grown (grownBy_sortedI d) hB.size (fun j hj => by cases hj; exact hg)
theorem kept_put {w : World} {g n : Nat} {os : Array Obj} {d : Array Int} {S : Nat → Prop} (hg : S g) : Kept w (grow (putRow (Value.int .i64) (Sort.ahead w n) g 0 d) os) S :=
  ⟨(grownBy_sortedI (w := w) (g := g) (n := n) (os := os) d).size, fun i hi hn => (grownBy_sortedI (w := w) (g := g) (n := n) (os := os) d).block i hi (fun e => hn (by cases e; exact hg))⟩

theorem slices_Sort_int.calls (P0_ : Nat → Prop) (u9000_ : Value) (l0 : List Int) (r : List Int) (w0 w : World) (hB : Below w0.heap.size w0 w) (ho0 : Kd.R (Kd.int .i64) 3 w w0.heap.size P0_ u9000_ l0) (h : slices_Sort_int.f l0 = some r) :
    Calls Try.prog 47 #[u9000_] w fun e w' => e = .returned (.tuple #[]) ∧ Kd.R (Kd.int .i64) 3 w' w0.heap.size (fun k_ => (P0_ k_ ∨ w.heap.size ≤ k_)) u9000_ r ∧ Below w0.heap.size w0 w' ∧ Kept w w' (fun k_ => P0_ k_) := by
  unfold slices_Sort_int.f at h
  by_cases hlen : l0.length < 4611686018427387904
  · rw [if_pos hlen] at h
    obtain rfl := Option.some.inj h
    have ho := Kd.own_of_R ho0
    rcases own_form ho rfl with ⟨rfl, rfl⟩ | ⟨g, cap, cur, rfl, hg, hb, h1, h2, h3, h4⟩
    · refine (Try.slices_Sort_int_none none 0 w).mono ?_
      rintro e w' ⟨rfl, rfl⟩
      exact ⟨rfl, by rw [show sorted [] = [] by simp [sorted]]; exact Kd.R_nil _ _ _ _ _, hB, Kept.refl _ _⟩
    · have hgl : g < w.heap.size := (Array.getElem?_eq_some_iff.1 hb).1
      refine (Try.slices_Sort_int g 0 cap l0 w (holds_of_blockI hb h4) hgl hlen).mono ?_
      rintro e w' ⟨rfl, n, os, rfl⟩
      have hPg : P0_ g := ho0.1 g rfl
      refine ⟨rfl, Kd.R_of_own ?_ (fun k hk => .inl (by have : g = k := by simpa [Value.ownBlock] using hk
                                                        subst this; exact hPg)), below_put hB hg, kept_put hPg⟩
      have := ownsRow_sortedI (w := w) (base := w0.heap.size) (n := n) (os := os) (ss := l0) (ts := sorted l0) (sorted_length l0) hg hb h1 h2 h3
      rw [sorted_length]
      exact this
  · rw [if_neg hlen] at h
    exact absurd h (by simp)

theorem compact_len : ∀ l : List Int, (Lib.compact l).length ≤ l.length := Lib.compact_length_le

theorem compact_row (P0_ : Nat → Prop) (u : Value) (l0 : List Int) (w0 w : World) (hB : Below w0.heap.size w0 w) (ho0 : Kd.R (Kd.int .i64) 3 w w0.heap.size P0_ u l0) :
    Calls Try.prog 65 #[u] w fun e w' => ∃ v, e = .returned v ∧ Kd.R (Kd.int .i64) 3 w' w0.heap.size (fun k_ => P0_ k_) v (Lib.compact l0) ∧ Below w0.heap.size w0 w' := by
  have ho := Kd.own_of_R ho0
  rcases own_form ho rfl with ⟨rfl, rfl⟩ | ⟨g, cap, cur, rfl, hg, hb, h1, h2, h3, h4⟩
  · refine (Try.slices_Compact_int_empty none 0 w).mono ?_
    rintro e w' ⟨rfl, rfl⟩
    exact ⟨_, rfl, Kd.R_nil _ _ _ _ _, hB⟩
  · have hgl : g < w.heap.size := (Array.getElem?_eq_some_iff.1 hb).1
    have hml : maxLen = 9223372036854775807 := rfl
    refine (Try.slices_Compact_int g 0 cap l0 w (holds_of_blockI hb h4) (by omega) h1).mono ?_
    rintro e w' ⟨rfl, n, rfl⟩
    have hPg : P0_ g := ho0.1 g rfl
    have hc := compact_len l0
    have e0 : putRow (Value.int .i64) (Sort.ahead w n) g 0 (Lib.compact l0 ++ List.replicate (l0.length - (Lib.compact l0).length) 0).toArray = grow (putRow (Value.int .i64) (Sort.ahead w n) g 0 (Lib.compact l0 ++ List.replicate (l0.length - (Lib.compact l0).length) 0).toArray) #[] := (grow_empty _).symm
    rw [e0]
    refine ⟨_, rfl, Kd.R_of_own ?_ (fun k hk => by have : g = k := by simpa [Value.ownBlock] using hk
                                                   subst this; exact hPg), below_put hB hg⟩
    have := ownsRow_sortedI (w := w) (base := w0.heap.size) (n := n) (os := #[]) (ss := l0) (ts := Lib.compact l0 ++ List.replicate (l0.length - (Lib.compact l0).length) 0) (by simp; omega) hg hb h1 h2 h3
    rcases this.2 with ⟨h0, _⟩ | ⟨g', cap', cur', hv, hg', hb', hn', hcap', hsz', ht'⟩
    · cases h0
    · cases hv
      refine ⟨by simp [encs], .inr ⟨g, cap, cur', rfl, hg', hb', by omega, hcap', hsz', ?_⟩⟩
      rw [Nat.mul_one] at ht' ⊢
      have e1 : cur'.toList.take (Lib.compact l0).length = (cur'.toList.take l0.length).take (Lib.compact l0).length := by rw [List.take_take]; congr 1; omega
      rw [e1, ht', List.map_append, List.take_append_of_le_length (by simp), List.take_of_length_le (by simp)]
      rfl
end Go.Proofs.Ytdlikjfffdpmiaa.QProper
