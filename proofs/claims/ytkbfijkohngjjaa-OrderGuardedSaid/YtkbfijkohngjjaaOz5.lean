/- slices.Index at []bool: the first place that is true. Conditions: each theorem's own.
   A row of elements of k cells each, of the call's own, as the shelf's sort takes it and leaves it. Conditions: the kind's cells are a function of the element.
   The arrows sorted by to, from, why: slices.SortFunc with the finder's comparison, off the kit's shelf. Conditions: numbers that the comparison's subtractions do not wrap.
   slices.Compact at the arrows: a sorted row becomes a strictly sorted one of the same members. Conditions: each theorem's own.
   order.Arrows: all arrows of a trace, or the place of what may not be. Conditions: none but that the arguments are there. -/
import Derived.Test.YtkbfijkohngjjaaOz1
import Derived.BigQuiet
import Derived.Test.YtkbfijkohngjjaaWAll
import Derived.Shelf.GgSortFunc.InsertionK
import Derived.Sort.OwnSorted
import Derived.Test.YtkbfijkohngjjaaShN
import Derived.Sort.Grow
import Derived.Test.YtkbfijkohngjjaaQOrderx3
import Derived.Laws.IdiomCopy
import Derived.Test.YtkbfijkohngjjaaOz3
import Derived.Test.YtkbfijkohngjjaaOz4
import Derived.Shelf.SlSortCmp.NoneTotal
set_option linter.unusedVariables false
set_option linter.unusedSimpArgs false
namespace Go.Proofs.Ytkbfijkohngjjaa.Od
open Go.RowKit Go.Proofs.Ytkbfijkohngjjaa.Ef Go.Proofs.Ytkbfijkohngjjaa.Mp Go.Proofs.Ytkbfijkohngjjaa.QOrder Go.Proofs.YtkbfijkohngjjaaW.PrintWords Go.Proofs.YtkbfijkohngjjaaW.PrintLast Go.Proofs.YtkbfijkohngjjaaW.PrintMore
theorem firstN_stop {p : Nat → Bool} {i : Nat} (h : firstN p i = none) (hp : p i = false) : firstN p (i + 1) = none := by
  unfold firstN
  rw [h]
  simp [hp]
set_option maxHeartbeats 4000000 in
set_option maxRecDepth 100000 in
theorem index_calls (g : Nat) (bs : List Bool) (W : World) (hb : W.heap[g]? = some (.cells (bs.map Value.bool).toArray 4 (0, 0))) (hn : bs.length ≤ 65536) :
    Calls Try.prog 38 #[.slice (some ⟨g, 0, none⟩) bs.length bs.length, .bool true] W fun e w' => e = .returned (.int .i64 (oi (firstN (fun j => bs.getD j false) bs.length))) ∧ Below W.heap.size W w' := by
  have hu66 := Try.underlying66
  have HB := Aside0.mk hb
  have HN := Aside0.mk hn
  clear hb hn
  go_enter Try.func38, Try.ntmps38
  go_wp2
  go_loopw [8] (fun v8 wr => ∃ i : Nat, v8 = .int .i64 (i : Int) ∧ Aside0 (i ≤ bs.length) ∧ Aside0 (firstN (fun j => bs.getD j false) i = none) ∧ Aside0 (Below W.heap.size W wr)) (fun v8 _ => bs.length - (intOf v8).toNat)
  case atStart => exact ⟨0, rfl, ⟨Nat.zero_le _⟩, ⟨rfl⟩, ⟨Below.refl _ _⟩⟩
  case round =>
    obtain ⟨i, rfl, HI, HF, HBl⟩ := hrel
    by_cases hlt : (i : Int) < (bs.length : Int)
    · have hi0 : (0 : Int) ≤ (i : Int) := by omega
      have hil : i < bs.length := by omega
      have HIL := Aside0.mk hil
      have HW := Aside0.mk (wrap_succ hil HN.out)
      have hc : wr.cell? ⟨g, i, none⟩ = some (.bool (bs.getD i false)) := (blk_cell (blk_below HB.out HBl.out) i).trans (wr_get hil)
      cases hbv : bs.getD i false with
      | true =>
        have HV := Aside0.mk hbv
        rw [hbv] at hc
        clear hbv hil
        go_wp2
        repeat (go_quiet (fail); try go_wp2)
        go_ret
        exact ⟨by have h : firstN (fun j => bs.getD j false) bs.length = some i := (firstN_iff.2 ⟨HIL.out, HV.out, fun j hj => firstN_none HF.out j hj⟩); first | (rw [h]; rfl) | (simp only [List.getD_eq_getElem?_getD] at h; rw [h]; rfl), by repeat (first | exact HBl.out | apply pw_below_drewN | apply below_drew)⟩
      | false =>
        have HV := Aside0.mk hbv
        rw [hbv] at hc
        clear hbv hil
        go_wp2
        repeat (go_quiet (fail); try go_wp2)
        go_roundw
        case rel => exact ⟨i + 1, by rw [HW.out], ⟨HIL.out⟩, ⟨firstN_stop HF.out HV.out⟩, ⟨by repeat (first | exact HBl.out | apply pw_below_drewN | apply below_drew)⟩⟩
        case measure => exact meas_lt HIL.out HW.out
    · have hi : i = bs.length := by have := HI.out; omega
      subst hi
      go_wp2
      go_ret
      exact ⟨by first | (rw [HF.out]; rfl) | (have h := HF.out; simp only [List.getD_eq_getElem?_getD] at h; rw [h]; rfl), HBl.out⟩
end Go.Proofs.Ytkbfijkohngjjaa.Od
set_option linter.unusedVariables false
set_option linter.unusedSimpArgs false
namespace Go.Proofs.Ytkbfijkohngjjaa.Fs
open Go.RowKit Go.Sort Go.Proofs.YtkbfijkohngjjaaW.PrintWords Go.Proofs.YtkbfijkohngjjaaW.PrintMore
/-- The cells of an element are a function of it. -/
structure Flat {α : Type} (d : Kd α) (enc : α → List Value) : Prop where
  len : ∀ x, (enc x).length = d.sz
  one : ∀ x, ∀ v ∈ enc x, v.oneCell' = true
  mkM : ∀ (w : World) (base : Nat) (ok : Nat → Prop) (x : α), d.M w base ok x (enc x)
  op : ∀ {w : World} {base : Nat} {ok : Nat → Prop} {x : α} {cs : List Value}, d.M w base ok x cs → cs = enc x
section
variable {α : Type} [Inhabited α] {d : Kd α} {enc : α → List Value}
theorem flat_holds (F : Flat d enc) (hs : 0 < d.sz) {e base g cap : Nat} {ok : Nat → Prop} {w : World} {xs : List α} (h : d.R e w base ok (.slice (some ⟨g, 0, none⟩) xs.length cap) xs) : HoldsK enc d.sz w g 0 xs.toArray := by
  intro t ht
  rw [size_flatK] at ht
  have hx : xs.toArray.size = xs.length := by simp
  rw [hx] at ht
  have hq : t / d.sz < xs.length := Nat.div_lt_of_lt_mul (by rw [Nat.mul_comm]; exact ht)
  obtain ⟨c, hcl, hM, hc0, hf⟩ := Kd.R_elem h default ((t / d.sz : Nat) : Int) (Int.natCast_nonneg _) (Int.ofNat_lt.2 hq)
  rw [Int.toNat_natCast] at hM hc0 hf
  obtain rfl := F.op hM
  have hmod : t % d.sz < d.sz := Nat.mod_lt _ hs
  have hsum : t / d.sz * d.sz + t % d.sz = t := by rw [Nat.mul_comm]; exact Nat.div_add_mod t d.sz
  have e1 : xs.getD (t / d.sz) default = xs.toArray[t / d.sz]! := by
    simp [hq]
  rw [get_flatK _ _ _ _ (by rw [hx]; exact ht)]
  have hlen := F.len xs.toArray[t / d.sz]!
  have h2 := hc0 (t % d.sz) ((enc xs.toArray[t / d.sz]!)[t % d.sz]!) (by
    rw [e1]
    have hh : t % d.sz < (enc xs.toArray[t / d.sz]!).length := by omega
    rw [List.getElem?_eq_getElem hh]
    exact congrArg some (getElem!_pos (enc xs.toArray[t / d.sz]!) (t % d.sz) hh).symm)
  have h3 := hf (t % d.sz)
  rw [hsum] at h2 h3
  rw [Nat.zero_add]
  exact ⟨h2, h3⟩
theorem heap_sorted' {w : World} {g n : Nat} {os : Array Obj} {cur : Array Value} {e : TypeId} {fr : Nat × Nat} (F : Array Value) (hb : w.heap[g]? = some (.cells cur e fr)) :
    (grow (putRow id (Sort.ahead w n) g 0 F) os).heap[g]? = some (.cells (putCells id 0 F cur) e fr) := by
  have hg : g < w.heap.size := (Array.getElem?_eq_some_iff.1 hb).1
  rw [heap_grow_old _ _ (by simpa using hg)]
  simp [putRow, mapBlock, Sort.ahead, Array.getElem?_modify, hb, onCells]
theorem grownBy_sorted' {w : World} {g n : Nat} {os : Array Obj} (F : Array Value) : w.grownBy (grow (putRow id (Sort.ahead w n) g 0 F) os) (some g) := by
  refine ⟨rfl, rfl, rfl, by simp, fun k hk hne => ?_⟩
  rw [heap_grow_old _ _ (by simpa using hk)]
  have : g ≠ k := fun e => hne (by rw [e])
  simp [putRow, mapBlock, Sort.ahead, Array.getElem?_modify, this]
theorem take_putCells' (cur F : Array Value) (h : F.size ≤ cur.size) : (putCells id 0 F cur).toList.take F.size = F.toList := by
  apply List.ext_getElem?
  intro j
  by_cases hj : j < F.size
  · rw [List.getElem?_take_of_lt hj, Array.getElem?_toList]
    simp [putCells, hj, show j < cur.size by omega]
  · rw [List.getElem?_take_eq_none (by omega), List.getElem?_eq_none (by simp; omega)]
theorem flat_reps (F : Flat d enc) (hs : 0 < d.sz) (w : World) (base : Nat) (ok : Nat → Prop) (D : Array α) : Reps (d.M w base ok) d.sz D.toList (flatK enc d.sz D).toList := by
  refine ⟨by simp, fun j p hj => ?_⟩
  have hj' : j < D.size := by have := (List.getElem?_eq_some_iff.1 hj).1; simpa using this
  have ep : D[j]! = p := by
    have h2 := (List.getElem?_eq_some_iff.1 hj).2
    rw [getElem!_pos D j hj', ← h2]
    simp
  have key : ((flatK enc d.sz D).toList.drop (j * d.sz)).take d.sz = enc p := by
    have hle : j * d.sz + d.sz ≤ D.size * d.sz := by rw [← Nat.succ_mul]; exact Nat.mul_le_mul_right _ hj'
    apply List.ext_getElem?
    intro q
    by_cases hq : q < d.sz
    · rw [List.getElem?_take_of_lt hq, List.getElem?_drop, Array.getElem?_toList]
      have hlt : j * d.sz + q < D.size * d.sz := by omega
      rw [Array.getElem?_eq_getElem (by rw [size_flatK]; exact hlt), ← getElem!_pos (flatK enc d.sz D) (j * d.sz + q) (by rw [size_flatK]; exact hlt), get_flatK _ _ _ _ hlt]
      have e1 : (j * d.sz + q) / d.sz = j := by rw [Nat.mul_comm, Nat.mul_add_div hs, Nat.div_eq_of_lt hq, Nat.add_zero]
      have e2 : (j * d.sz + q) % d.sz = q := by rw [Nat.mul_comm, Nat.mul_add_mod]; exact Nat.mod_eq_of_lt hq
      rw [e1, e2, ep, List.getElem?_eq_getElem (by rw [F.len]; exact hq)]
      exact congrArg some (getElem!_pos (enc p) q (by rw [F.len]; exact hq))
    · rw [List.getElem?_take_eq_none (by omega), List.getElem?_eq_none (by rw [F.len]; omega)]
  rw [key]
  exact F.mkM w base ok p
theorem flat_back (F : Flat d enc) (hs : 0 < d.sz) {e base g cap n : Nat} {ok : Nat → Prop} {w : World} {xs : List α} {os : Array Obj} {D : Array α} (h : d.R e w base ok (.slice (some ⟨g, 0, none⟩) xs.length cap) xs) (hD : D.size = xs.length) :
    d.R e (sortWorldK enc d.sz w g 0 n D os) base ok (.slice (some ⟨g, 0, none⟩) xs.length cap) D.toList ∧ w.grownBy (sortWorldK enc d.sz w g 0 n D os) (some g) := by
  have hg := grownBy_sorted' (w := w) (g := g) (n := n) (os := os) (flatK enc d.sz D)
  refine ⟨⟨h.1, (flatK enc d.sz D).toList, ?_, flat_reps F hs _ _ _ D⟩, hg⟩
  obtain ⟨_, inner, ho, hr⟩ := h
  rcases ho.2 with ⟨h0, _⟩ | ⟨g', cap', cur, hv, hb, hh, hn, hc, hsz, ht⟩
  · cases h0
  · cases hv
    have hDl : D.toList.length = xs.length := by simpa using hD
    refine ⟨by rw [hDl]; simp [hD], .inr ⟨g, cap, _, by rw [hDl], hb, heap_sorted' _ hh, by rw [hDl]; exact hn, hc, by simp [putCells, hsz], ?_⟩⟩
    rw [hDl]
    have := take_putCells' cur (flatK enc d.sz D) (by rw [size_flatK, hD, hsz]; exact Nat.mul_le_mul_right _ hn)
    rw [size_flatK, hD] at this
    exact this
/-- A permutation of the whole, sorted. -/
theorem sorted_list {lt : α → α → Bool} {d' : Array α} (h : SortedIn lt 0 d'.size d') : d'.toList.Pairwise fun x y => lt y x = false := by
  rw [List.pairwise_iff_getElem]
  intro i j hi hj hij
  have hi' : i < d'.size := by simpa using hi
  have hj' : j < d'.size := by simpa using hj
  have := h i j (Nat.zero_le _) hij hj'
  rw [getElem!_pos d' j hj', getElem!_pos d' i hi'] at this
  simpa using this
end
end Go.Proofs.Ytkbfijkohngjjaa.Fs
set_option linter.unusedVariables false
set_option linter.unusedSimpArgs false
namespace Go.Proofs.Ytkbfijkohngjjaa.Od
open Go.Sort Go.RowKit Go.Proofs.Ytkbfijkohngjjaa.Ef Go.Proofs.Ytkbfijkohngjjaa.Mp Go.Proofs.Ytkbfijkohngjjaa.Fs Go.Proofs.Ytkbfijkohngjjaa.QOrder Go.Proofs.YtkbfijkohngjjaaW.PrintWords Go.Proofs.YtkbfijkohngjjaaW.PrintLast Go.Proofs.YtkbfijkohngjjaaW.PrintMore
/-- Numbers that are small. -/
def Bd (a : S60) : Prop := (0 ≤ a.f0 ∧ a.f0 < 1000000) ∧ (0 ≤ a.f1 ∧ a.f1 < 1000000) ∧ (0 ≤ a.f2 ∧ a.f2 < 1000000)
abbrev AB := {a : S60 // Bd a}
instance : Inhabited AB := ⟨⟨⟨0, 0, 0⟩, by simp [Bd]⟩⟩
abbrev cS (a : S60) : Array Value := #[.int .i64 a.f0, .int .i64 a.f1, .int .i64 a.f2]
def eA (x : AB) : List Value := [.int .i64 x.1.f0, .int .i64 x.1.f1, .int .i64 x.1.f2]
def cmpA (x y : AB) : Int := if x.1.f1 ≠ y.1.f1 then x.1.f1 - y.1.f1 else if x.1.f0 ≠ y.1.f0 then x.1.f0 - y.1.f0 else x.1.f2 - y.1.f2
def kA : Kd AB := Kd.iso k60 (fun x : AB => x.1)
theorem reps_iso {α β : Type} {R : α → List Value → Prop} {sz : Nat} (f : β → α) {xs : List β} {inner : List Value} : Reps (fun x cs => R (f x) cs) sz xs inner ↔ Reps R sz (xs.map f) inner := by
  constructor
  · rintro ⟨h1, h2⟩
    refine ⟨by rw [List.length_map]; exact h1, fun j p hj => ?_⟩
    rw [List.getElem?_map] at hj
    cases hx : xs[j]? with
    | none => rw [hx] at hj; cases hj
    | some q => rw [hx] at hj; cases hj; exact h2 j q hx
  · rintro ⟨h1, h2⟩
    refine ⟨by rw [List.length_map] at h1; exact h1, fun j p hj => h2 j (f p) (by rw [List.getElem?_map, hj]; rfl)⟩
theorem R_iso {w : World} {base : Nat} {ok : Nat → Prop} {v : Value} {xs : List AB} : kA.R 60 w base ok v xs ↔ k60.R 60 w base ok v (xs.map (·.1)) := by
  constructor
  · rintro ⟨h0, inner, ho, hr⟩
    refine ⟨h0, inner, by rw [List.length_map]; exact ho, (reps_iso (fun x : AB => x.1)).1 hr⟩
  · rintro ⟨h0, inner, ho, hr⟩
    refine ⟨h0, inner, by rw [List.length_map] at ho; exact ho, (reps_iso (fun x : AB => x.1)).2 hr⟩
theorem flatA : Flat kA eA := {
  len := fun _ => rfl
  one := fun x v hv => by simp [eA] at hv; rcases hv with rfl | rfl | rfl <;> rfl
  mkM := fun w base ok x => k60_mkM w base ok x.1
  op := fun h => k60_openM h }
open Go.Sort in
set_option maxRecDepth 100000 in
set_option maxHeartbeats 4000000 in
theorem cmpA_calls (x y : AB) (w : World) : Calls Try.prog 40 #[.agg (cS x.1), .agg (cS y.1)] w fun e w' => e = .returned (.int .i64 (cmpA x y)) ∧ ∃ q os', w' = grow (w.drewN q) os' := by
  have hu60 := Try.underlying60
  obtain ⟨⟨a0, a1, a2⟩, ha⟩ := x
  obtain ⟨⟨b0, b1, b2⟩, hb⟩ := y
  unfold Bd at ha hb
  unfold cmpA
  simp only [] at ha hb ⊢
  have w0 : wrap64 (a0 - b0) = a0 - b0 := by rw [wrap64]; omega
  have w1 : wrap64 (a1 - b1) = a1 - b1 := by rw [wrap64]; omega
  have w2 : wrap64 (a2 - b2) = a2 - b2 := by rw [wrap64]; omega
  have HW := Aside0.mk (And.intro w0 (And.intro w1 w2))
  clear ha hb w0 w1 w2
  have e1 : (w.alloc (.cells #[.int .i64 a0, .int .i64 a1, .int .i64 a2] 60 (0, 0))).heap.size = w.heap.size + 1 := Array.size_push _
  have kx : ((w.alloc (.cells #[.int .i64 a0, .int .i64 a1, .int .i64 a2] 60 (0, 0))).alloc (.cells #[.int .i64 b0, .int .i64 b1, .int .i64 b2] 60 (0, 0))).heap[w.heap.size]? = some (.cells #[.int .i64 a0, .int .i64 a1, .int .i64 a2] 60 (0, 0)) := blk_below (blk_new w _) (below_alloc (Below.refl _ _) _)
  have ky : ((w.alloc (.cells #[.int .i64 a0, .int .i64 a1, .int .i64 a2] 60 (0, 0))).alloc (.cells #[.int .i64 b0, .int .i64 b1, .int .i64 b2] 60 (0, 0))).heap[w.heap.size + 1]? = some (.cells #[.int .i64 b0, .int .i64 b1, .int .i64 b2] 60 (0, 0)) := by
    have := blk_new (w.alloc (.cells #[.int .i64 a0, .int .i64 a1, .int .i64 a2] 60 (0, 0))) (.cells #[.int .i64 b0, .int .i64 b1, .int .i64 b2] 60 (0, 0))
    rw [e1] at this
    exact this
  have HG : Aside0 (∃ q os', ((w.alloc (.cells #[.int .i64 a0, .int .i64 a1, .int .i64 a2] 60 (0, 0))).alloc (.cells #[.int .i64 b0, .int .i64 b1, .int .i64 b2] 60 (0, 0))) = grow (w.drewN q) os') := ⟨0, _, by rw [alloc_eq_grow, alloc_eq_grow, grow_grow]; rfl⟩
  have x0 := (blk_cell kx 0).trans (show _ = some (Value.int .i64 a0) from rfl)
  have x1 := (blk_cell kx 1).trans (show _ = some (Value.int .i64 a1) from rfl)
  have x2 := (blk_cell kx 2).trans (show _ = some (Value.int .i64 a2) from rfl)
  have y0 := (blk_cell ky 0).trans (show _ = some (Value.int .i64 b0) from rfl)
  have y1 := (blk_cell ky 1).trans (show _ = some (Value.int .i64 b1) from rfl)
  have y2 := (blk_cell ky 2).trans (show _ = some (Value.int .i64 b2) from rfl)
  clear e1 kx ky
  by_cases c1 : a1 = b1
  · have c1b : (a1 != b1) = false := by simp [c1]
    rw [if_neg (by simp [c1])]
    by_cases c0 : a0 = b0
    · have c0b : (a0 != b0) = false := by simp [c0]
      rw [if_neg (by simp [c0])]
      clear c0 c1
      go_enter Try.func40, Try.ntmps40
      go_wp2
      go_ret
      exact ⟨by show Ending.returned (.int .i64 (wrap64 (a2 - b2))) = _; rw [HW.out.2.2], HG.out⟩
    · have c0b : (a0 != b0) = true := by simp [c0]
      rw [if_pos c0]
      clear c0 c1
      go_enter Try.func40, Try.ntmps40
      go_wp2
      go_ret
      exact ⟨by show Ending.returned (.int .i64 (wrap64 (a0 - b0))) = _; rw [HW.out.1], HG.out⟩
  · have c1b : (a1 != b1) = true := by simp [c1]
    rw [if_pos c1]
    clear c1
    go_enter Try.func40, Try.ntmps40
    go_wp2
    go_ret
    exact ⟨by show Ending.returned (.int .i64 (wrap64 (a1 - b1))) = _; rw [HW.out.2.1], HG.out⟩
theorem lt_cmpA (x y : AB) : Go.Proofs.ltOf cmpA x y = true ↔ ltA x.1 y.1 := by
  unfold Go.Proofs.ltOf cmpA ltA
  rw [decide_eq_true_eq]
  by_cases c1 : x.1.f1 = y.1.f1
  · rw [if_neg (by simp [c1])]
    by_cases c0 : x.1.f0 = y.1.f0
    · rw [if_neg (by simp [c0])]; omega
    · rw [if_pos c0]; omega
  · rw [if_pos c1]; omega
theorem lt_no (x y : AB) : Go.Proofs.ltOf cmpA x y = false ↔ ¬ ltA x.1 y.1 := by rw [← lt_cmpA, Bool.not_eq_true]
theorem swoA : Go.Sort.SWO (Go.Proofs.ltOf cmpA) := {
  irrefl := fun x => (lt_no _ _).2 (ltA_irrefl _)
  trans := fun x y z h1 h2 => (lt_cmpA _ _).2 (ltA_trans ((lt_cmpA _ _).1 h1) ((lt_cmpA _ _).1 h2))
  ntrans := fun x y z h1 h2 => by
    rw [lt_no] at *
    unfold ltA at *
    omega }
theorem sort_row {base g cap : Nat} {ok : Nat → Prop} {l : List S60} {w : World} (H : k60.R 60 w base ok (.slice (some ⟨g, 0, none⟩) l.length cap) l) (hb : ∀ a ∈ l, Bd a) (hl : l.length ≤ 1000000000000000000) :
    Calls Try.prog 39 #[.slice (some ⟨g, 0, none⟩) l.length cap, .func (.func 40) #[] #[]] w fun e w' => e = .returned (.tuple #[]) ∧ ∃ d : List S60, d.Perm l ∧ d.Pairwise (fun x y => ¬ ltA y x) ∧ k60.R 60 w' base ok (.slice (some ⟨g, 0, none⟩) l.length cap) d ∧ w.grownBy w' (some g) := by
  obtain ⟨la, rfl⟩ : ∃ la : List AB, la.map (·.1) = l := ⟨l.attach.map (fun a => ⟨a.1, hb a.1 a.2⟩), by rw [List.map_map]; simp⟩
  rw [List.length_map] at H hl ⊢
  have H2 := R_iso.2 H
  have hH := flat_holds flatA (by decide) H2
  have hgl : g < w.heap.size := (Kd.R_lt H2) g (by simp [Value.ownBlock])
  have eg : ∀ args w, (callFunc 40 args).run Try.prog w = .ok (.enter 40 args) w := enters_of Try.func40 (by kernel_rfl) rfl
  have hsz : la.toArray.size = la.length := by simp
  have hcon := AnyQ.slices_SortFunc Try.sortN 3 Try.isAgg60 Try.sizeOf60 eA (fun _ => rfl) flatA.one cmpA swoA 40 #[] g 0 cap la.toArray w eg (fun _ _ _ _ x y => cmpA_calls x y _) hH hgl (by rw [hsz]; omega)
  rw [hsz] at hcon
  refine Calls.mono hcon ?_
  rintro e w' ⟨he, d', n, os, hp, hs, rfl⟩
  have hd : d'.size = la.length := by rw [hp.1, hsz]
  have hb2 := flat_back flatA (by decide) (n := n) (os := os) (D := d') H2 hd
  have hr2 : k60.R 60 (sortWorldK eA 3 w g 0 n d' os) base ok (.slice (some ⟨g, 0, none⟩) la.length cap) (d'.toList.map (fun x : AB => x.1)) := R_iso.1 hb2.1
  refine ⟨he, d'.toList.map (fun x : AB => x.1), ?_, ?_, hr2, hb2.2⟩
  · have h2 := hp.2.2
    have q1 : (d'.extract 0 la.length).toList = d'.toList := by
      rw [← hd]; simp
    have q2 : (la.toArray.extract 0 la.length).toList = la := by simp
    rw [q1, q2] at h2
    exact h2.map _
  · have h3 := sorted_list (lt := Go.Proofs.ltOf cmpA) (d' := d') (by rw [hd]; exact hs)
    rw [List.pairwise_map]
    exact h3.imp (fun {a b} hab => (lt_no _ _).1 hab)
end Go.Proofs.Ytkbfijkohngjjaa.Od
set_option linter.unusedVariables false
set_option linter.unusedSimpArgs false
namespace Go.Proofs.Ytkbfijkohngjjaa.Od
open Go.RowKit Go.Instr Go.Proofs.Ytkbfijkohngjjaa.Ef Go.Proofs.Ytkbfijkohngjjaa.Mp Go.Proofs.Ytkbfijkohngjjaa.QOrder Go.Proofs.YtkbfijkohngjjaaW.PrintWords Go.Proofs.YtkbfijkohngjjaaW.PrintLast Go.Proofs.YtkbfijkohngjjaaW.PrintMore
abbrev ar (l : List S60) (i : Nat) : S60 := l.getD i z60
theorem at_rowA {w : World} {base g n cap : Nat} {ok : Nat → Prop} {xs : List S60} (h : k60.R 60 w base ok (.slice (some ⟨g, 0, none⟩) n cap) xs) (i : Nat) (hi : i < n) :
    w.cell? ⟨g, i * 3, none⟩ = some (.int .i64 (ar xs i).f0) ∧ w.cell? ⟨g, i * 3 + 1, none⟩ = some (.int .i64 (ar xs i).f1) ∧ w.cell? ⟨g, i * 3 + 2, none⟩ = some (.int .i64 (ar xs i).f2) := by
  obtain ⟨c, hcl, hM, hc0, _⟩ := Kd.R_elem h z60 (i : Int) (Int.natCast_nonneg i) (by omega)
  obtain rfl := k60_openM hM
  rw [Int.toNat_natCast] at hc0
  exact ⟨hc0 0 _ rfl, hc0 1 _ rfl, hc0 2 _ rfl⟩
theorem zero60 (w : World) : (zeroValue 60).run Try.prog w = .ok (.agg #[.int .i64 0, .int .i64 0, .int .i64 0]) w := by kernel_rfl
theorem zc_len (n : Nat) : (Builtin.zeroCells #[.int .i64 0, .int .i64 0, .int .i64 0] n).toList.length = n * 3 := by
  simp [Builtin.zeroCells]
theorem zc_one (n : Nat) : ∀ v ∈ (Builtin.zeroCells #[.int .i64 0, .int .i64 0, .int .i64 0] n).toList, v.oneCell' = true := by
  intro v hv
  unfold Builtin.zeroCells at hv
  rw [Array.toList_map, List.mem_map] at hv
  obtain ⟨i, _, rfl⟩ := hv
  have h3 : i % 3 < 3 := Nat.mod_lt _ (by decide)
  show (#[Value.int .i64 0, .int .i64 0, .int .i64 0][i % 3]!).oneCell' = true
  generalize i % 3 = q at *
  match q, h3 with
  | 0, _ => rfl
  | 1, _ => rfl
  | 2, _ => rfl
theorem clear_row {W : World} {base g n cap k : Nat} {ok : Nat → Prop} {xs : List S60} (H : k60.R 60 W base ok (.slice (some ⟨g, 0, none⟩) n cap) xs) (hk : k < n) :
    ∃ w1, (∀ ty, (Builtin.clear_ #[38] ty #[.slice (some ⟨g, k * 3, none⟩) (n - k) (cap - k)]).run Try.prog W = .ok (.tuple #[]) w1) ∧ k60.R 60 w1 base ok (.slice (some ⟨g, 0, none⟩) k cap) (xs.take k) ∧ W.grownBy w1 (some g) := by
  have hnx : n = xs.length := (Kd.R_reads' H).1
  obtain ⟨m, hm⟩ : ∃ m, n - k = m + 1 := ⟨n - k - 1, by omega⟩
  have hl := zc_len (n - k)
  obtain ⟨cur, hcur, hsz⟩ : ∃ cur : Array Value, W.heap[g]? = some (.cells cur 60 (0, 0)) ∧ n * 3 ≤ cur.size := by
    obtain ⟨_, inner, ho, _⟩ := H
    rcases ho.2 with ⟨h0, _⟩ | ⟨g', cap', cur, hv, hb, hh, hn, hc, hsz, ht⟩
    · cases h0
    · cases hv
      exact ⟨cur, hh, by rw [hsz]; exact Nat.mul_le_mul_right _ (by rw [hnx]; exact hn)⟩
  have hcell : ∀ j, j < (Builtin.zeroCells #[.int .i64 0, .int .i64 0, .int .i64 0] (n - k)).toList.length → (W.cell? ⟨g, k * 3 + 0 + j, none⟩).isSome = true := fun j hj => by
    rw [hl] at hj
    rw [blk_cell hcur, Array.getElem?_eq_getElem (by omega)]
    rfl
  have hrun := run_storeCells_cells (P := Try.prog) g (k * 3) (Builtin.zeroCells #[.int .i64 0, .int .i64 0, .int .i64 0] (n - k)).toList 0 W hcell (fun j hj => blk_frozen hcur _) (zc_one _)
  rw [Nat.add_zero] at hrun
  refine ⟨W.setCells g (k * 3) (Builtin.zeroCells #[.int .i64 0, .int .i64 0, .int .i64 0] (n - k)).toList, ?_, ?_, ?_⟩
  · intro ty
    rw [hm] at hrun ⊢
    unfold Builtin.clear_
    simp only [List.getElem?_toArray, List.getElem?_cons_zero, Sem.run_bind, run_underlying Try.underlying38, Result.andThen_ok, zero60]
    show ((storeCells ⟨g, k * 3, none⟩ (Builtin.zeroCells #[.int .i64 0, .int .i64 0, .int .i64 0] (m + 1)).toList).run Try.prog W).andThen _ = _
    rw [hrun]
    rfl
  · have Ht := Kd.R_take H (m := k) (by omega)
    obtain ⟨h0, inner, ho, hr⟩ := Ht
    refine ⟨h0, inner, ?_, hr.imp_ (fun _ _ hp => by obtain rfl := k60_openM hp; exact k60_mkM _ _ _ _)⟩
    have hkl : (xs.take k).length = k := by rw [List.length_take]; omega
    rw [hkl] at ho ⊢
    obtain ⟨ho1, ho2⟩ := ho
    refine ⟨ho1, ?_⟩
    rcases ho2 with h1 | ⟨g', cap', cur1, hv, hb, hh, hn, hc, hsz1, ht⟩
    · cases h1.1
    · cases hv
      rw [hcur] at hh
      cases hh
      obtain ⟨cur2, c1, c2, c3⟩ := setCells_row (Builtin.zeroCells #[.int .i64 0, .int .i64 0, .int .i64 0] (n - k)).toList (k * 3) W cur hcur (by rw [hl, ← Nat.add_mul]; rw [show k + (n - k) = n by omega]; exact hsz)
      refine .inr ⟨g, cap, cur2, rfl, hb, c1, hn, hc, by rw [c2]; exact hsz1, ?_⟩
      rw [← ht, c3, List.append_assoc, List.take_append_of_le_length (by rw [List.length_take]; show k * 3 ≤ min (k * 3) cur.toList.length; rw [Array.length_toList]; have : k * 3 ≤ n * 3 := Nat.mul_le_mul_right _ (Nat.le_of_lt hk); omega)]
      show (cur.toList.take (k * 3)).take (k * 3) = cur.toList.take (k * 3)
      rw [List.take_take, Nat.min_self]
  · obtain ⟨s1, s2, s3, s4⟩ := setCells_same g (Builtin.zeroCells #[.int .i64 0, .int .i64 0, .int .i64 0] (n - k)).toList (k * 3) W
    exact ⟨s1, s2, s3, by rw [s4]; exact Nat.le_refl _, fun i _ hi => setCells_far _ _ i (fun e => hi (by rw [e]))⟩
/-! ### plain -/
theorem ltA_tri (a b : S60) : ltA a b ∨ a = b ∨ ltA b a := by
  obtain ⟨a0, a1, a2⟩ := a
  obtain ⟨b0, b1, b2⟩ := b
  unfold ltA
  simp only [S60.mk.injEq]
  omega
theorem sorted_snoc {P : List S60} {z y : S60} (h : SortedA (P ++ [z])) (hy : ltA z y) : SortedA ((P ++ [z]) ++ [y]) := by
  unfold SortedA at *
  rw [List.pairwise_append]
  refine ⟨h, by simp, fun a ha b hb => ?_⟩
  rw [List.mem_singleton] at hb
  subst hb
  rw [List.mem_append, List.mem_singleton] at ha
  rcases ha with ha | rfl
  · exact ltA_trans ((List.pairwise_append.1 h).2.2 a ha z (by simp)) hy
  · exact hy
theorem ar_at {l : List S60} {i : Nat} (h : i < l.length) : ar l i = l[i] := by simp [ar, List.getD_eq_getElem?_getD, h]
theorem next_lt {d : List S60} (hs : d.Pairwise (fun x y => ¬ ltA y x)) {i : Nat} (hi : i + 1 < d.length) (hne : ar d (i + 1) ≠ ar d i) : ltA (ar d i) (ar d (i + 1)) := by
  rw [ar_at hi, ar_at (by omega)] at *
  have := List.pairwise_iff_getElem.1 hs i (i + 1) (by omega) hi (Nat.lt_succ_self _)
  rcases ltA_tri d[i] d[i + 1] with h | h | h
  · exact h
  · exact absurd h.symm hne
  · exact absurd h this
theorem take_snocA {d : List S60} {i : Nat} (h : i < d.length) : d.take (i + 1) = d.take i ++ [ar d i] := by rw [List.take_succ_eq_append_getElem h, ar_at h]
theorem pre_start {d : List S60} (h : 0 < d.length) : SortedA (d.take (0 + 1)) := by
  rw [take_snocA h]
  simp [SortedA]
theorem pre_step {d : List S60} (hs : d.Pairwise (fun x y => ¬ ltA y x)) {j : Nat} (hj : j + 1 < d.length) (h : SortedA (d.take (j + 1))) (hne : ar d (j + 1) ≠ ar d j) : SortedA (d.take (j + 1 + 1)) := by
  rw [take_snocA hj]
  rw [take_snocA (show j < d.length by omega)] at h ⊢
  exact sorted_snoc h (next_lt hs hj hne)
/-- Behind the first k0 + 1 + j2 of d: p of c are kept. -/
structure Kp (d c : List S60) (k0 j2 p : Nat) : Prop where
  len : c.length = d.length
  sorted : SortedA (c.take p)
  mem : ∀ a, a ∈ c.take p ↔ a ∈ d.take (k0 + j2 + 1)
  last : ∃ Q, c.take p = Q ++ [ar d (k0 + j2)]
  rest : ∀ i, k0 + j2 ≤ i → ar c i = ar d i
  le : p ≤ k0 + j2
  pos : 1 ≤ p
theorem Kp.start {d : List S60} {j : Nat} (hj : j + 1 < d.length) (h : SortedA (d.take (j + 1))) (he : ar d (j + 1) = ar d j) : Kp d d (j + 1) 0 (j + 1) := by
  refine ⟨rfl, h, fun a => ?_, ⟨d.take j, ?_⟩, fun _ _ => rfl, Nat.le_refl _, Nat.succ_le_succ (Nat.zero_le _)⟩
  · rw [show j + 1 + 0 + 1 = (j + 1) + 1 from rfl, take_snocA hj, List.mem_append, List.mem_singleton, he, take_snocA (show j < d.length by omega), List.mem_append, List.mem_singleton]
    constructor
    · exact .inl
    · rintro (q | q)
      · exact q
      · exact .inr q
  · rw [take_snocA (show j < d.length by omega), show j + 1 + 0 = j + 1 from rfl, he]
theorem Kp.same {d c : List S60} {k0 j2 p : Nat} (h : Kp d c k0 j2 p) (hj : k0 + j2 + 1 < d.length) (he : ar d (k0 + j2 + 1) = ar d (k0 + j2)) : Kp d c k0 (j2 + 1) p := by
  obtain ⟨Q, hQ⟩ := h.last
  refine ⟨h.len, h.sorted, fun a => ?_, ⟨Q, by rw [hQ, show k0 + (j2 + 1) = k0 + j2 + 1 from rfl, he]⟩, fun i hi => h.rest i (by omega), by have := h.le; omega, h.pos⟩
  rw [h.mem a, show k0 + (j2 + 1) + 1 = (k0 + j2 + 1) + 1 from rfl, take_snocA hj, List.mem_append, List.mem_singleton]
  constructor
  · exact .inl
  · rintro (q | q)
    · exact q
    · rw [q, he, take_snocA (show k0 + j2 < d.length by omega), List.mem_append, List.mem_singleton]
      exact .inr rfl
theorem Kp.more {d c : List S60} {k0 j2 p : Nat} (hs : d.Pairwise (fun x y => ¬ ltA y x)) (h : Kp d c k0 j2 p) (hj : k0 + j2 + 1 < d.length) (hne : ar d (k0 + j2 + 1) ≠ ar d (k0 + j2)) : Kp d (c.set p (ar d (k0 + j2 + 1))) k0 (j2 + 1) (p + 1) := by
  obtain ⟨Q, hQ⟩ := h.last
  have hp : p < c.length := by have := h.le; have := h.len; omega
  have e : (c.set p (ar d (k0 + j2 + 1))).take (p + 1) = c.take p ++ [ar d (k0 + j2 + 1)] := by
    rw [List.take_succ_eq_append_getElem (by rw [List.length_set]; exact hp), List.getElem_set_self, List.take_set_of_le (Nat.le_refl _)]
  refine ⟨by rw [List.length_set]; exact h.len, by rw [e, hQ]; exact sorted_snoc (hQ ▸ h.sorted) (next_lt hs hj hne), fun a => ?_, ⟨c.take p, e⟩, fun i hi => ?_, by have := h.le; omega, by omega⟩
  · rw [e, List.mem_append, h.mem a, show k0 + (j2 + 1) + 1 = (k0 + j2 + 1) + 1 from rfl, take_snocA hj, List.mem_append]
  · have h1 := h.rest i (by omega)
    have h2 := h.le
    unfold ar at h1 ⊢
    rw [← h1]
    simp [List.getD_eq_getElem?_getD, List.getElem?_set_ne (show p ≠ i by omega)]
theorem meas_j {j n : Nat} (h : j + 1 < n) : n - (intOf (Value.int IntKind.i64 ((j : Int) + 1 + 1))).toNat < n - (intOf (Value.int IntKind.i64 ((j : Int) + 1))).toNat := by
  show n - ((j : Int) + 1 + 1).toNat < n - ((j : Int) + 1).toNat
  omega
/-! ### the walk -/
attribute [local go_sem high] eqA60
set_option maxHeartbeats 8000000 in
set_option maxRecDepth 100000 in
theorem compact_calls {base g cap : Nat} {ok : Nat → Prop} {d : List S60} {w : World} (H : k60.R 60 w base ok (.slice (some ⟨g, 0, none⟩) d.length cap) d) (hs : d.Pairwise (fun x y => ¬ ltA y x)) (hl : d.length ≤ 1000000000000000000) :
    Calls Try.prog 41 #[.slice (some ⟨g, 0, none⟩) d.length cap] w fun e w' => ∃ m o, e = .returned (.slice (some ⟨g, 0, none⟩) m cap) ∧ SortedA o ∧ (∀ a, a ∈ o ↔ a ∈ d) ∧ k60.R 60 w' base ok (.slice (some ⟨g, 0, none⟩) m cap) o ∧ w.grownBy w' (some g) := by
  have hu38 := Try.underlying38
  have hu60 := Try.underlying60
  have HH := Aside0.mk H
  have HS := Aside0.mk hs
  have HL := Aside0.mk hl
  obtain ⟨n, hn⟩ : ∃ n, d.length = n := ⟨_, rfl⟩
  rw [hn] at HH
  have HN := Aside0.mk hn
  rw [hn]
  clear H hs hl hn
  have HC := Aside0.mk (show n ≤ cap from (Kd.R_reads' HH.out).2.1)
  by_cases h2 : (n : Int) < 2
  · have H2 := Aside0.mk h2
    go_enter Try.func41, Try.ntmps41
    go_wp2
    go_ret
    refine ⟨n, d, rfl, ?_, fun a => Iff.rfl, HH.out, grown_of_below (Below.refl _ _) _⟩
    have hd : d.length < 2 := by have := HN.out; have := H2.out; omega
    match d, hd with
    | [], _ => exact List.Pairwise.nil
    | [a], _ => exact List.pairwise_singleton _ _
  · have H2 := Aside0.mk h2
    go_enter Try.func41, Try.ntmps41
    go_wp2
    go_loopw [3] (fun v3 wr => ∃ j : Nat, v3 = .int .i64 ((j : Int) + 1) ∧ Aside0 (j < n) ∧ Aside0 (SortedA (d.take (j + 1))) ∧ Aside0 (k60.R 60 wr base ok (.slice (some ⟨g, 0, none⟩) n cap) d) ∧ Aside0 (w.grownBy wr (some g))) (fun v3 _ => n - (intOf v3).toNat)
    case atStart => exact ⟨0, rfl, ⟨by have := H2.out; omega⟩, ⟨pre_start (by have := HN.out; have := H2.out; omega)⟩, HH, ⟨grown_of_below (Below.refl _ _) _⟩⟩
    case round =>
      clear HH
      obtain ⟨j, rfl, HJ, HP, HR, HG⟩ := hrel
      by_cases hlt : (j : Int) + 1 < (n : Int)
      · have hj0 : (0 : Int) ≤ (j : Int) + 1 := by omega
        have hj1 : (0 : Int) ≤ (j : Int) := by omega
        have hj2 : (j : Int) < (n : Int) := by omega
        have hjn : j + 1 < n := by omega
        have HJN := Aside0.mk hjn
        have hl9 : (n : Int) ≤ 1000000000000000000 := by have := HL.out; have := HN.out; omega
        obtain ⟨x0, x1, x2⟩ := at_rowA HR.out (j + 1) hjn
        obtain ⟨y0, y1, y2⟩ := at_rowA HR.out j (by omega)
        obtain ⟨x, hx⟩ : ∃ x, ar d (j + 1) = x := ⟨_, rfl⟩
        obtain ⟨y, hy⟩ : ∃ y, ar d j = y := ⟨_, rfl⟩
        rw [hx] at x0 x1 x2
        rw [hy] at y0 y1 y2
        have HX := Aside0.mk hx
        have HY := Aside0.mk hy
        have HW := Aside0.mk (show wrap64 ((j : Int) + 1 + 1) = (j : Int) + 1 + 1 by rw [wrap64]; omega)
        clear hx hy
        by_cases he : x = y
        · have HE := Aside0.mk he
          have hb : (x.f0 == y.f0 && (x.f1 == y.f1 && (x.f2 == y.f2))) = true := by simp [he]
          have hc1 : j + 1 ≤ cap := by have := HC.out; omega
          have hc2 : ¬ cap = j + 1 := by have := HC.out; omega
          have hc3 : (j : Int) + 1 ≤ (cap : Int) := by omega
          have hc4 : (j : Int) + 1 ≤ (n : Int) := by omega
          clear he
          go_wp2
          go_quiet (fail)
          go_wp2
          have HR2 : Aside0 (k60.R 60 (wr.drewN nq) base ok (.slice (some ⟨g, 0, none⟩) n cap) d) := ⟨Kd.R_below HR.out (pw_below_drewN (Below.refl _ _) _)⟩
          have HG2 : Aside0 (w.grownBy (wr.drewN nq) (some g)) := ⟨HG.out.trans (grown_of_below (pw_below_drewN (Below.refl _ _) _) _)⟩
          clear x0 x1 x2 y0 y1 y2 hb HR HG HW
          generalize wr.drewN nq = w2 at *
          have HC1 := Aside0.mk hc1
          go_loopw [3, 5] (fun v3 v5 wr => ∃ (p j2 : Nat) (c : List S60), v3 = .int .i64 (p : Int) ∧ v5 = .int .i64 ((j2 : Int) + 1) ∧ Aside0 (j + 1 + j2 < n) ∧ Aside0 (Kp d c (j + 1) j2 p) ∧ Aside0 (k60.R 60 wr base ok (.slice (some ⟨g, 0, none⟩) n cap) c) ∧ Aside0 (w.grownBy wr (some g))) (fun _ v5 _ => n - (intOf v5).toNat)
          case atStart => exact ⟨j + 1, 0, d, rfl, rfl, ⟨HJN.out⟩, ⟨Kp.start (by have := HN.out; have := HJN.out; omega) HP.out (by rw [HX.out, HY.out, HE.out])⟩, HR2, HG2⟩
          case round =>
            clear HR2 HG2 hc1 hc2 hc3 hc4 hj0 hj1 hj2 hjn hlt
            obtain ⟨p, j2, c, rfl, rfl, HJ2, HK, HR3, HG3⟩ := hrel
            have hp0 : (0 : Int) ≤ (p : Int) := by omega
            have hpn : (p : Int) < (n : Int) := by have := HK.out.le; have := HJ2.out; omega
            have hpn2 : p < n := by have := HK.out.le; have := HJ2.out; omega
            by_cases hl2 : (j2 : Int) + 1 < ((n - (j + 1) : Nat) : Int)
            · have hq0 : (0 : Int) ≤ (j2 : Int) + 1 := by omega
              have hq1 : (0 : Int) ≤ (j2 : Int) := by omega
              have hq2 : (j2 : Int) < ((n - (j + 1) : Nat) : Int) := by omega
              have hqn : j + 1 + (j2 + 1) < n := by omega
              have HQN := Aside0.mk hqn
              obtain ⟨x0, x1, x2⟩ := at_rowA HR3.out (j + 1 + (j2 + 1)) hqn
              obtain ⟨y0, y1, y2⟩ := at_rowA HR3.out (j + 1 + j2) (by omega)
              rw [HK.out.rest _ (by omega)] at x0 x1 x2 y0 y1 y2
              obtain ⟨x', hx⟩ : ∃ x, ar d (j + 1 + (j2 + 1)) = x := ⟨_, rfl⟩
              obtain ⟨y', hy⟩ : ∃ y, ar d (j + 1 + j2) = y := ⟨_, rfl⟩
              rw [hx] at x0 x1 x2
              rw [hy] at y0 y1 y2
              rw [show (j + 1 + (j2 + 1)) * 3 = (j + 1) * 3 + (j2 + 1) * 3 by omega] at x0 x1 x2
              rw [show (j + 1 + j2) * 3 = (j + 1) * 3 + j2 * 3 by omega] at y0 y1 y2
              have HX2 := Aside0.mk hx
              have HY2 := Aside0.mk hy
              have HW := Aside0.mk (show wrap64 ((j2 : Int) + 1 + 1) = (j2 : Int) + 1 + 1 by rw [wrap64]; omega)
              have HWp := Aside0.mk (show wrap64 ((p : Int) + 1) = (p : Int) + 1 by rw [wrap64]; omega)
              clear hx hy hqn
              by_cases he : x' = y'
              · have HE2 := Aside0.mk he
                have hb : (x'.f0 == y'.f0 && (x'.f1 == y'.f1 && (x'.f2 == y'.f2))) = true := by simp [he]
                clear he
                go_wp2
                go_quiet (fail)
                go_wp2
                go_roundw
                case rel => exact ⟨p, j2 + 1, c, rfl, by first | rfl | (rw [HW.out]; rfl), ⟨HQN.out⟩, ⟨HK.out.same (by have := HN.out; have := HQN.out; omega) (by rw [HY2.out, ← HE2.out]; exact HX2.out)⟩, ⟨Kd.R_below HR3.out (pw_below_drewN (Below.refl _ _) _)⟩, ⟨HG3.out.trans (grown_of_below (pw_below_drewN (Below.refl _ _) _) _)⟩⟩
                case measure => first | exact meas_j (by have := HQN.out; omega) | (rw [HW.out]; exact meas_j (by have := HQN.out; omega))
              · have HE2 := Aside0.mk he
                have hb : (x'.f0 == y'.f0 && (x'.f1 == y'.f1 && (x'.f2 == y'.f2))) = false := by
                  cases hq : (x'.f0 == y'.f0 && (x'.f1 == y'.f1 && (x'.f2 == y'.f2))) with
                  | false => rfl
                  | true =>
                    simp only [Bool.and_eq_true, beq_iff_eq] at hq
                    exact absurd (by cases x'; cases y'; simp at hq ⊢; exact hq) he
                clear he
                go_wp2
                go_quiet (fail)
                go_upto_region 12 with (fail)
                have HR4 : Aside0 (k60.R 60 (wr.drewN nq) base ok (.slice (some ⟨g, 0, none⟩) n cap) c) := ⟨Kd.R_below HR3.out (pw_below_drewN (Below.refl _ _) _)⟩
                have HG4 : Aside0 (w.grownBy (wr.drewN nq) (some g)) := ⟨HG3.out.trans (grown_of_below (pw_below_drewN (Below.refl _ _) _) _)⟩
                clear x0 x1 x2 y0 y1 y2 hb HR3 HG3
                generalize wr.drewN nq = w3 at *
                obtain ⟨x0, x1, x2⟩ := at_rowA HR4.out (j + 1 + (j2 + 1)) HQN.out
                rw [HK.out.rest _ (by omega), HX2.out] at x0 x1 x2
                rw [show (j + 1 + (j2 + 1)) * 3 = (j + 1) * 3 + (j2 + 1) * 3 by omega] at x0 x1 x2
                obtain ⟨cc, hcl, hcM, hcc, _⟩ := Kd.R_elem HR4.out z60 (p : Int) hp0 hpn
                obtain rfl := k60_openM hcM
                have HCC := Aside0.mk hcc
                clear hcc hcM
                go_wp2_with ((with_reducible refine gate_store (t := 60) (p := 51) (v := .tmp 50) rfl ?_); refine Kd.R_store k60 (w0 := w3) base rfl rfl 60 (.tmp 51) (.tmp 50) rfl 60 (p : Int) 0 c x' (.agg #[.int .i64 x'.f0, .int .i64 x'.f1, .int .i64 x'.f2]) [.int .i64 x'.f0, .int .i64 x'.f1, .int .i64 x'.f2] _ _ (fun _ => False) rfl ?ho rfl rfl (by kernel_rfl) (by simp [Value.oneCell']) HR4.out hp0 hpn hcl HCC.out (by show 0 + 3 ≤ 3; omega) ?hM (fun _ h => h.elim) (Below.refl _ _) ?_; (case ho => show _ = (p : Int).toNat * 3 + 0; rw [Int.toNat_natCast]; rfl); (case hM => exact k60_mkM _ _ _ x'); intro w4 hrow hb4 hg4; rw [Int.toNat_natCast] at hrow; have HR5 := Aside0.mk hrow; have HG5 := Aside0.mk (HG4.out.trans hg4); clear hrow hb4 hg4 x0 x1 x2)
                go_roundw
                case rel => exact ⟨p + 1, j2 + 1, c.set p x', by first | rfl | (rw [HWp.out]; rfl), by first | rfl | (rw [HW.out]; rfl), ⟨HQN.out⟩, ⟨by have h9 := HK.out.more HS.out (by have := HN.out; have := HQN.out; omega) (by rw [HY2.out, show j + 1 + j2 + 1 = j + 1 + (j2 + 1) from rfl, HX2.out]; exact HE2.out); rw [show j + 1 + j2 + 1 = j + 1 + (j2 + 1) from rfl, HX2.out] at h9; exact h9⟩, HR5, HG5⟩
                case measure => first | exact meas_j (by have := HQN.out; omega) | (rw [HW.out]; exact meas_j (by have := HQN.out; omega))
            · have hj2 : j + 1 + j2 + 1 = n := by have := HJ2.out; omega
              have HJ9 := Aside0.mk hj2
              obtain ⟨w5, hcl5, hR5, hG5⟩ := clear_row HR3.out hpn2
              have HR5 := Aside0.mk hR5
              have HG5 := Aside0.mk hG5
              have hd1 : p ≤ cap := by have := HC.out; omega
              have hd2 : ¬ cap = p := by have := HC.out; omega
              have hd3 : (p : Int) ≤ (cap : Int) := by omega
              have hd4 : (p : Int) ≤ (n : Int) := by omega
              clear hR5 hG5 hj2
              go_wp2
              go_ret
              have hmem : ∀ a, a ∈ c.take p ↔ a ∈ d := fun a => by
                rw [HK.out.mem a, HJ9.out, ← HN.out, List.take_length]
              first
                | exact ⟨p, c.take p, rfl, HK.out.sorted, hmem, HR5.out, HG3.out.trans HG5.out⟩
                | exact ⟨p, rfl, c.take p, HK.out.sorted, hmem, HR5.out, HG3.out.trans HG5.out⟩
        · have HE := Aside0.mk he
          have hb : (x.f0 == y.f0 && (x.f1 == y.f1 && (x.f2 == y.f2))) = false := by
            cases hq : (x.f0 == y.f0 && (x.f1 == y.f1 && (x.f2 == y.f2))) with
            | false => rfl
            | true =>
              simp only [Bool.and_eq_true, beq_iff_eq] at hq
              exact absurd (by cases x; cases y; simp at hq ⊢; exact hq) he
          clear he
          go_wp2
          go_quiet (fail)
          go_wp2
          go_roundw
          case rel => exact ⟨j + 1, by first | rfl | (rw [HW.out]; rfl), ⟨HJN.out⟩, ⟨pre_step HS.out (by have := HN.out; have := HJN.out; omega) HP.out (by rw [HX.out, HY.out]; exact HE.out)⟩, ⟨Kd.R_below HR.out (pw_below_drewN (Below.refl _ _) _)⟩, ⟨HG.out.trans (grown_of_below (pw_below_drewN (Below.refl _ _) _) _)⟩⟩
          case measure => first | exact meas_j (by have := HJN.out; omega) | (rw [HW.out]; exact meas_j (by have := HJN.out; omega))
      · have hj : j + 1 = n := by have := HJ.out; omega
        go_wp2
        go_ret
        refine ⟨n, rfl, d, ?_, fun a => Iff.rfl, HR.out, HG.out⟩
        have := HP.out
        rw [hj, ← HN.out, List.take_length] at this
        exact this
end Go.Proofs.Ytkbfijkohngjjaa.Od
set_option linter.unusedVariables false
set_option linter.unusedSimpArgs false
namespace Go.Proofs.Ytkbfijkohngjjaa.Od
open Go.RowKit Go.Proofs.Ytkbfijkohngjjaa.Ef Go.Proofs.Ytkbfijkohngjjaa.Mp Go.Proofs.Ytkbfijkohngjjaa.QOrder Go.Proofs.YtkbfijkohngjjaaW.PrintWords Go.Proofs.YtkbfijkohngjjaaW.PrintLast Go.Proofs.YtkbfijkohngjjaaW.PrintMore
/-- What the finder has proposed in the end. -/
theorem all_P {l : List S36} {caps : List Int} : ∀ f t w, (orP (orP (orP (orP (P0 l) (flowP l caps)) (acqP l)) (otherP l)) (condP l) f t w ↔ allP l caps f t w) := by
  intro f t w
  unfold orP allP
  constructor
  · rintro ((((a | a) | a) | a) | a)
    · exact .inl a
    · exact .inr (.inl a)
    · exact .inr (.inr (.inl a))
    · exact .inr (.inr (.inr (.inl a)))
    · exact .inr (.inr (.inr (.inr a)))
  · rintro (a | a | a | a | a)
    · exact .inl (.inl (.inl (.inl a)))
    · exact .inl (.inl (.inl (.inr a)))
    · exact .inl (.inl (.inr a))
    · exact .inl (.inr a)
    · exact .inr a
theorem why_small {l : List S36} {caps : List Int} {f w : Int} {t : Nat} (h : allP l caps f t w) : 0 ≤ w ∧ w < 10 := by
  rcases h with h | h | h | h | h
  · have := h.2.2; omega
  · rcases h with ⟨_, _, _, h⟩ | ⟨_, _, _, h⟩
    · cases hp : place l l.length 16 ((E l t).f4, (E l t).f5) with
      | none => rw [hp] at h; have := h.2; omega
      | some s => rw [hp] at h; have := h.2; omega
    · cases hp : place l l.length 17 ((E l t).f4, wrap64 ((E l t).f5 - cap caps (E l t).f4)) with
      | none => rw [hp] at h; exact h.elim
      | some s => rw [hp] at h; have := h.2; omega
  · obtain ⟨_, h⟩ := h
    cases hp : (idx l l.length 27 (E l t).f4)[(idx l t 26 (E l t).f4).length]? with
    | none => rw [hp] at h; have := h.2; omega
    | some s => rw [hp] at h; have := h.2; omega
  · rcases h with ⟨_, k, _, _, h⟩ | ⟨i, _, _, h⟩
    · omega
    · unfold leads at h; omega
  · obtain ⟨_, s, _, _, h⟩ := h
    omega
theorem told_bd {l : List S36} {caps : List Int} {wr : List Bool} {o : List S60} (h : Told l.length (allP l caps) wr o) (hn : l.length ≤ 65536) : ∀ a ∈ o, Bd a := by
  intro a ha
  obtain ⟨t, h1, h2, h3, h4, h5⟩ := (h.o a).1 ha
  have := why_small h5
  unfold Bd
  omega
theorem told_first {l : List S36} {caps : List Int} {wr : List Bool} {o : List S60} (h : Told l.length (allP l caps) wr o) : ∀ j, j < l.length → (wr.getD j false = true ↔ bad l caps j) := h.wr
theorem told_arr {l : List S36} {caps : List Int} {wr : List Bool} {o : List S60} (h : Told l.length (allP l caps) wr o) (a : S60) : a ∈ o ↔ isArr l caps a := h.o a
set_option maxHeartbeats 2000000 in
theorem compact_none (w : World) : Calls Try.prog 41 #[.slice none 0 0] w fun e w' => e = .returned (.slice none 0 0) ∧ Below w.heap.size w w' := by
  go_enter Try.func41, Try.ntmps41
  go_wp2
  go_ret
  exact ⟨rfl, Below.refl _ _⟩
theorem sort_none (w : World) : Calls Try.prog 39 #[.slice none 0 0, .func (.func 40) #[] #[]] w fun e w' => e = .returned (.tuple #[]) ∧ w' = w := by
  exact AnyF.slices_SortFunc_none Try.sortN none 0 _ w
theorem R_cases {w : World} {base : Nat} {ok : Nat → Prop} {v : Value} {xs : List S60} (h : k60.R 60 w base ok v xs) : (v = .slice none 0 0 ∧ xs = []) ∨ ∃ g cap, v = .slice (some ⟨g, 0, none⟩) xs.length cap := by
  obtain ⟨_, inner, ho, _⟩ := h
  rcases ho.2 with h1 | ⟨g, cap, cur, hv, _⟩
  · left
    obtain ⟨h2, h3⟩ := h1
    first
      | exact ⟨h3, List.eq_nil_of_length_eq_zero h2⟩
      | exact ⟨h2, List.eq_nil_of_length_eq_zero h3⟩
  · exact .inr ⟨g, cap, hv⟩
end Go.Proofs.Ytkbfijkohngjjaa.Od
namespace Go.Proofs.Ytkbfijkohngjjaa.QOrder
open Go.RowKit Go.Proofs.Ytkbfijkohngjjaa.Ef Go.Proofs.Ytkbfijkohngjjaa.Mp Go.Proofs.Ytkbfijkohngjjaa.Od Go.Proofs.YtkbfijkohngjjaaW.PrintWords Go.Proofs.YtkbfijkohngjjaaW.PrintLast Go.Proofs.YtkbfijkohngjjaaW.PrintMore
noncomputable def order_Arrows.f (l0 : List S36) (l1 : List Int) : Option (List S60 × Int × Int) := some (arrowsF l0 l1)
set_option maxHeartbeats 8000000 in
set_option maxRecDepth 100000 in
theorem order_Arrows.calls (A0 : Option Addr) (c0 : Nat) (l0 : List S36) (A1 : Option Addr) (c1 : Nat) (l1 : List Int) (r1 : List S60) (r2 : Int) (r3 : Int) (w : World) (hr0 : Kd.C k36 w A0 l0.length l0) (hc0 : l0.length ≤ c0) (hr1 : Kd.C (Kd.int .i64) w A1 l1.length l1) (hc1 : l1.length ≤ c1) (h : order_Arrows.f l0 l1 = some (r1, r2, r3)) :
    Calls Try.prog 18 #[.slice A0 l0.length c0, .slice A1 l1.length c1] w fun e w' => ∃ v0_ : Value, e = .returned (.tuple #[v0_, .int .i64 r2, .int .i64 r3]) ∧ Kd.R k60 60 w' w.heap.size (fun _ => True) v0_ r1 ∧ Below w.heap.size w w' := by
  have hu75 := Try.underlying75
  replace h : arrowsF l0 l1 = (r1, r2, r3) := Option.some.inj h
  by_cases hn : 65536 < (l0.length : Int)
  · rw [arrowsF_full (by omega)] at h
    cases h
    go_enter Try.func18, Try.ntmps18
    go_wp2
    go_ret3
    exact ⟨_, rfl, Kd.R_nil _ _ _ _ _, Below.refl _ _⟩
  · have hn2 : l0.length ≤ 65536 := by omega
    have HNb := Aside0.mk hn2
    have hnn : l0.length * l0.length ≤ 65536 * 65536 := Nat.mul_le_mul hn2 hn2
    have HNN := Aside0.mk hnn
    have HRd := Aside0.mk (read_calls w l0 l1 A0 A1 c0 c1 hr0 hc0 hr1 hc1 hn2)
    have HA := Aside0.mk h
    clear hr0 hc0 hr1 hc1 h hn2 hnn
    go_enter Try.func18, Try.ntmps18
    go_upto_region 7 with (first
      | (go_at_call 34; (refine HRd.out.mono ?_); rintro e w1 ⟨F, rfl, hf⟩; have HF1 := Aside0.mk hf; have HFl := Aside0.mk (flows_calls w1 hf (by have := HNb.out; have := HNN.out; omega)); clear hf)
      | (go_at_call 35; (refine HFl.out.mono ?_); rintro e w2 ⟨rfl, hf, hk⟩; have HK2 := Aside0.mk hk; have HOt := Aside0.mk (others_calls w2 hf (by have := HNb.out; have := HNN.out; omega)); clear hf hk)
      | (go_at_call 36; (refine HOt.out.mono ?_); rintro e w3 ⟨rfl, hf, hk⟩; have HK3 := Aside0.mk hk; have HCo := Aside0.mk (conditions_calls w3 hf (by have := HNb.out; have := HNN.out; omega)); clear hf hk)
      | (go_at_call 37; (refine HCo.out.mono ?_); rintro e w4 ⟨rfl, hf, hk⟩; have HF4 := Aside0.mk hf; clear hf hk))
    obtain ⟨vo, o, wr, hx⟩ := HF4.out
    have HX := Aside0.mk hx
    have HT := Aside0.mk (hx.told.imp (fun f t w _ => all_P f t w))
    have d5 : w4.cell? ⟨F.gf, 5, none⟩ = some (.slice (some ⟨F.gw, 0, none⟩) l0.length l0.length) := HF4.out.cells.2.2.2.2.1
    have HIx := Aside0.mk (index_calls F.gw wr w4 hx.bw (by rw [HT.out.len]; exact HNb.out))
    rw [HT.out.len] at HIx
    have d8 : w4.cell? ⟨F.gf, 8, none⟩ = some vo := (blk_cell hx.bf 8).trans rfl
    have HB4 := Aside0.mk hx.ro.hb
    clear hx
    cases hf : firstN (fun j => wr.getD j false) l0.length with
    | some j =>
      have HFi := Aside0.mk hf
      rw [hf] at HIx
      clear hf
      have hj0 : (0 : Int) ≤ oi (some j) := by show (0 : Int) ≤ (j : Int); omega
      have hr := arrowsF_bad (l := l0) (caps := l1) HNb.out (firstN_some HFi.out).1 ((told_first HT.out j (firstN_some HFi.out).1).1 (firstN_some HFi.out).2.1) (fun i hi hb => by have h1 := (firstN_some HFi.out).2.2 i hi; have h2 := (told_first HT.out i (by have := (firstN_some HFi.out).1; omega)).2 hb; rw [h2] at h1; cases h1)
      rw [HA.out] at hr
      cases hr
      have hoi : oi (some j) = (j : Int) := rfl
      rw [hoi] at HIx hj0
      clear hoi
      go_wp2_with (go_at_call 38; (refine HIx.out.mono ?_); rintro e w5 ⟨rfl, hb5⟩; have HB5 := Aside0.mk hb5; clear hb5)
      go_ret3
      exact ⟨_, rfl, Kd.R_nil _ _ _ _ _, below_step HB4.out HB5.out⟩
    | none =>
      have HFi := Aside0.mk hf
      rw [hf] at HIx
      clear hf
      have hoi : oi none = -1 := rfl
      rw [hoi] at HIx
      clear hoi
      have hnb : ∀ j, j < l0.length → ¬ bad l0 l1 j := fun j hj hb => by have h1 := firstN_none HFi.out j hj; have h2 := (told_first HT.out j hj).2 hb; rw [h2] at h1; cases h1
      have HNB := Aside0.mk hnb
      clear hnb
      have hlen : o.length ≤ 1000000000000000000 := by have h1 := HX.out.len; have h2 := HNb.out; have h3 := HNN.out; omega
      have HLen := Aside0.mk hlen
      clear hlen
      have HRow := Aside0.mk HX.out.out
      rcases R_cases HX.out.out with ⟨rfl, rfl⟩ | ⟨g, cap, rfl⟩
      · have hr := arrowsF_ok (l := l0) (caps := l1) (o := []) HNb.out HNB.out List.Pairwise.nil (told_arr HT.out)
        rw [HA.out] at hr
        cases hr
        go_wp2_with (first
          | (go_at_call 38; (refine HIx.out.mono ?_); rintro e w5 ⟨rfl, hb5⟩; have HB5 := Aside0.mk hb5; replace d8 := pw_cell_below hb5 d8; clear hb5)
          | (go_at_call 39; (refine (sort_none _).mono ?_); rintro e w6 ⟨rfl, rfl⟩)
          | (go_at_call 41; (refine (compact_none _).mono ?_); rintro e w7 ⟨rfl, hb7⟩; have HB7 := Aside0.mk hb7; clear hb7))
        go_ret3
        exact ⟨_, rfl, Kd.R_nil _ _ _ _ _, below_step (below_step HB4.out HB5.out) HB7.out⟩
      · have HBd := Aside0.mk (told_bd HT.out HNb.out)
        have HGo := Aside0.mk (HRow.out.1 g (by simp [Value.ownBlock]))
        have HGb := Aside0.mk (show w.heap.size ≤ g from Nat.le_trans HX.out.ro.hgf.1 (Nat.le_of_lt (Nat.lt_of_lt_of_le HX.out.ro.hgf.2 HGo.out.2)))
        have HGne := Aside0.mk (show some F.gf ≠ some g from fun e => by have h1 := HX.out.ro.hgf.2; have h2 := HGo.out.2; cases e; omega)
        have HBf := Aside0.mk HX.out.bf
        clear HX
        go_wp2_with (first
          | (go_at_call 38; (refine HIx.out.mono ?_); rintro e w5 ⟨rfl, hb5⟩; have HB5 := Aside0.mk (below_step HB4.out hb5); have HRw5 := Aside0.mk (Kd.R_below HRow.out hb5); have HBf5 := Aside0.mk (blk_below HBf.out hb5); replace d8 := pw_cell_below hb5 d8; clear hb5)
          | (go_at_call 39; (refine (sort_row HRw5.out HBd.out HLen.out).mono ?_); rintro e w6 ⟨rfl, d, hp, hs, hr, hg⟩; have HP := Aside0.mk hp; have HSo := Aside0.mk hs; have HR6 := Aside0.mk hr; have HB6 := Aside0.mk (below_mput HB5.out hg HGb.out HB5.out.size); have HBf6 := Aside0.mk (blk_grown HBf5.out hg HGne.out); have HL6 := Aside0.mk (hp.length_eq); clear hp hs hr hg d8; have d8 : w6.cell? ⟨F.gf, 8, none⟩ = some (.slice (some ⟨g, 0, none⟩) o.length cap) := (blk_cell HBf6.out 8).trans rfl)
          | (go_at_call 41; (rw [← HL6.out]); (refine (compact_calls (by rw [HL6.out]; exact HR6.out) HSo.out (by rw [HL6.out]; exact HLen.out)).mono ?_); rintro e w7 ⟨m, o2, rfl, hso, hmem, hr, hg⟩; have HSo2 := Aside0.mk hso; have HMem := Aside0.mk hmem; have HR7 := Aside0.mk hr; have HB7 := Aside0.mk (below_mput HB6.out hg HGb.out HB6.out.size); clear hso hmem hr hg))
        have hr := arrowsF_ok (l := l0) (caps := l1) (o := o2) HNb.out HNB.out HSo2.out (fun a => (HMem.out a).trans (HP.out.mem_iff.trans (told_arr HT.out a)))
        rw [HA.out] at hr
        cases hr
        go_ret3
        exact ⟨_, rfl, Kd.R_mono HR7.out (fun _ _ => trivial), HB7.out⟩
end Go.Proofs.Ytkbfijkohngjjaa.QOrder
