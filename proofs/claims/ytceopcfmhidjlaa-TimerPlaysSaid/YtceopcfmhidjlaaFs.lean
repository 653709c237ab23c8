/- A row of elements of k cells each, of the call's own, as the shelf's sort takes it and leaves it. Conditions: the kind's cells are a function of the element. -/
import Derived.Test.YtceopcfmhidjlaaWWords
import Derived.Test.YtceopcfmhidjlaaWMore
import Derived.Shelf.GgSortFunc.InsertionK
import Derived.Sort.OwnSorted
set_option linter.unusedVariables false
set_option linter.unusedSimpArgs false
namespace Go.Proofs.Ytceopcfmhidjlaa.Fs
open Go.RowKit Go.Sort Go.Proofs.YtceopcfmhidjlaaW.PrintWords Go.Proofs.YtceopcfmhidjlaaW.PrintMore

/-- The cells of an element are a function of it. -/
structure Flat {α : Type} (d : Kd α) (enc : α → List Value) : Prop where
  len : ∀ x, (enc x).length = d.sz
  one : ∀ x, ∀ v ∈ enc x, v.oneCell' = true
  mkM : ∀ (w : World) (base : Nat) (ok : Nat → Prop) (x : α), d.M w base ok x (enc x)
  op : ∀ {w : World} {base : Nat} {ok : Nat → Prop} {x : α} {cs : List Value}, d.M w base ok x cs → cs = enc x

section
variable {α : Type} [Inhabited α] {d : Kd α} {enc : α → List Value}
theorem flat_holds (F : Flat d enc) (hs : 0 < d.sz) {e base g cap : Nat} {ok : Nat → Prop} {w : World} {xs : List α} (h : d.R e w base ok (.slice (some ⟨g, 0, none⟩) xs.length cap) xs) : HoldsK enc d.sz w g 0 xs.toArray := by
  intro t ht
  rw [size_flatK] at ht
  have hx : xs.toArray.size = xs.length := by simp
  rw [hx] at ht
  have hq : t / d.sz < xs.length := Nat.div_lt_of_lt_mul (by rw [Nat.mul_comm]; exact ht)
  obtain ⟨c, hcl, hM, hc0, hf⟩ := Kd.R_elem h default ((t / d.sz : Nat) : Int) (Int.natCast_nonneg _) (Int.ofNat_lt.2 hq)
  rw [Int.toNat_natCast] at hM hc0 hf
  obtain rfl := F.op hM
  have hmod : t % d.sz < d.sz := Nat.mod_lt _ hs
  have hsum : t / d.sz * d.sz + t % d.sz = t := by rw [Nat.mul_comm]; exact Nat.div_add_mod t d.sz
  have e1 : xs.getD (t / d.sz) default = xs.toArray[t / d.sz]! := by
    simp [hq]
  rw [get_flatK _ _ _ _ (by rw [hx]; exact ht)]
  have hlen := F.len xs.toArray[t / d.sz]!
  have h2 := hc0 (t % d.sz) ((enc xs.toArray[t / d.sz]!)[t % d.sz]!) (by
    rw [e1]
    have hh : t % d.sz < (enc xs.toArray[t / d.sz]!).length := by omega
    rw [List.getElem?_eq_getElem hh]
    exact congrArg some (getElem!_pos (enc xs.toArray[t / d.sz]!) (t % d.sz) hh).symm)
  have h3 := hf (t % d.sz)
  rw [hsum] at h2 h3
  rw [Nat.zero_add]
  exact ⟨h2, h3⟩
theorem heap_sorted' {w : World} {g n : Nat} {os : Array Obj} {cur : Array Value} {e : TypeId} {fr : Nat × Nat} (F : Array Value) (hb : w.heap[g]? = some (.cells cur e fr)) :
    (grow (putRow id (Sort.ahead w n) g 0 F) os).heap[g]? = some (.cells (putCells id 0 F cur) e fr) := by
  have hg : g < w.heap.size := (Array.getElem?_eq_some_iff.1 hb).1
  rw [heap_grow_old _ _ (by simpa using hg)]
  simp [putRow, mapBlock, Sort.ahead, Array.getElem?_modify, hb, onCells]
theorem grownBy_sorted' {w : World} {g n : Nat} {os : Array Obj} (F : Array Value) : w.grownBy (grow (putRow id (Sort.ahead w n) g 0 F) os) (some g) := by
  refine ⟨rfl, rfl, rfl, by simp, fun k hk hne => ?_⟩
  rw [heap_grow_old _ _ (by simpa using hk)]
  have : g ≠ k := fun e => hne (by rw [e])
  simp [putRow, mapBlock, Sort.ahead, Array.getElem?_modify, this]
theorem take_putCells' (cur F : Array Value) (h : F.size ≤ cur.size) : (putCells id 0 F cur).toList.take F.size = F.toList := by
  apply List.ext_getElem?
  intro j
  by_cases hj : j < F.size
  · rw [List.getElem?_take_of_lt hj, Array.getElem?_toList]
    simp [putCells, hj, show j < cur.size by omega]
  · rw [List.getElem?_take_eq_none (by omega), List.getElem?_eq_none (by simp; omega)]
theorem flat_reps (F : Flat d enc) (hs : 0 < d.sz) (w : World) (base : Nat) (ok : Nat → Prop) (D : Array α) : Reps (d.M w base ok) d.sz D.toList (flatK enc d.sz D).toList := by
  refine ⟨by simp, fun j p hj => ?_⟩
  have hj' : j < D.size := by have := (List.getElem?_eq_some_iff.1 hj).1; simpa using this
  have ep : D[j]! = p := by
    have h2 := (List.getElem?_eq_some_iff.1 hj).2
    rw [getElem!_pos D j hj', ← h2]
    simp
  have key : ((flatK enc d.sz D).toList.drop (j * d.sz)).take d.sz = enc p := by
    have hle : j * d.sz + d.sz ≤ D.size * d.sz := by rw [← Nat.succ_mul]; exact Nat.mul_le_mul_right _ hj'
    apply List.ext_getElem?
    intro q
    by_cases hq : q < d.sz
    · rw [List.getElem?_take_of_lt hq, List.getElem?_drop, Array.getElem?_toList]
      have hlt : j * d.sz + q < D.size * d.sz := by omega
      rw [Array.getElem?_eq_getElem (by rw [size_flatK]; exact hlt), ← getElem!_pos (flatK enc d.sz D) (j * d.sz + q) (by rw [size_flatK]; exact hlt), get_flatK _ _ _ _ hlt]
      have e1 : (j * d.sz + q) / d.sz = j := by rw [Nat.mul_comm, Nat.mul_add_div hs, Nat.div_eq_of_lt hq, Nat.add_zero]
      have e2 : (j * d.sz + q) % d.sz = q := by rw [Nat.mul_comm, Nat.mul_add_mod]; exact Nat.mod_eq_of_lt hq
      rw [e1, e2, ep, List.getElem?_eq_getElem (by rw [F.len]; exact hq)]
      exact congrArg some (getElem!_pos (enc p) q (by rw [F.len]; exact hq))
    · rw [List.getElem?_take_eq_none (by omega), List.getElem?_eq_none (by rw [F.len]; omega)]
  rw [key]
  exact F.mkM w base ok p
theorem flat_back (F : Flat d enc) (hs : 0 < d.sz) {e base g cap n : Nat} {ok : Nat → Prop} {w : World} {xs : List α} {os : Array Obj} {D : Array α} (h : d.R e w base ok (.slice (some ⟨g, 0, none⟩) xs.length cap) xs) (hD : D.size = xs.length) :
    d.R e (sortWorldK enc d.sz w g 0 n D os) base ok (.slice (some ⟨g, 0, none⟩) xs.length cap) D.toList ∧ w.grownBy (sortWorldK enc d.sz w g 0 n D os) (some g) := by
  have hg := grownBy_sorted' (w := w) (g := g) (n := n) (os := os) (flatK enc d.sz D)
  refine ⟨⟨h.1, (flatK enc d.sz D).toList, ?_, flat_reps F hs _ _ _ D⟩, hg⟩
  obtain ⟨_, inner, ho, hr⟩ := h
  rcases ho.2 with ⟨h0, _⟩ | ⟨g', cap', cur, hv, hb, hh, hn, hc, hsz, ht⟩
  · cases h0
  · cases hv
    have hDl : D.toList.length = xs.length := by simpa using hD
    refine ⟨by rw [hDl]; simp [hD], .inr ⟨g, cap, _, by rw [hDl], hb, heap_sorted' _ hh, by rw [hDl]; exact hn, hc, by simp [putCells, hsz], ?_⟩⟩
    rw [hDl]
    have := take_putCells' cur (flatK enc d.sz D) (by rw [size_flatK, hD, hsz]; exact Nat.mul_le_mul_right _ hn)
    rw [size_flatK, hD] at this
    exact this
/-- A permutation of the whole, sorted. -/
theorem sorted_list {lt : α → α → Bool} {d' : Array α} (h : SortedIn lt 0 d'.size d') : d'.toList.Pairwise fun x y => lt y x = false := by
  rw [List.pairwise_iff_getElem]
  intro i j hi hj hij
  have hi' : i < d'.size := by simpa using hi
  have hj' : j < d'.size := by simpa using hj
  have := h i j (Nat.zero_le _) hij hj'
  rw [getElem!_pos d' j hj', getElem!_pos d' i hi'] at this
  simpa using this
end
end Go.Proofs.Ytceopcfmhidjlaa.Fs
