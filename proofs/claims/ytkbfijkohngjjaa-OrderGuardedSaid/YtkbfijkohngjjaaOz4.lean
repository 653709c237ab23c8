/- What read holds in memory while it goes over the events. Conditions: each theorem's own.
   Plain: what read has noted of the first i events. Conditions: each theorem's own.
   order.read notes what the events are by themselves. Conditions: each theorem's own. -/
import Derived.Test.YtkbfijkohngjjaaOz1
import Derived.Test.YtkbfijkohngjjaaOz3
import Derived.Deep.RegionLaw
import Derived.Deep.RegionHeldLaw
import Derived.Deep.DeepCutAuto
set_option linter.unusedVariables false
set_option linter.unusedSimpArgs false
namespace Go.Proofs.Ytkbfijkohngjjaa.Od
open Go.RowKit Go.Proofs.Ytkbfijkohngjjaa.Ef Go.Proofs.Ytkbfijkohngjjaa.Mp Go.Proofs.Ytkbfijkohngjjaa.QOrder Go.Proofs.YtkbfijkohngjjaaW.PrintWords Go.Proofs.YtkbfijkohngjjaaW.PrintLast Go.Proofs.YtkbfijkohngjjaaW.PrintMore
section
open Go.Instr
variable {κ : Type} [DecidableEq κ] {P : Program} {K E T : TypeId} {enc : κ → Value} (HK : KeyOk P K enc) (hT : P.underlying T = some (.map K E))
include HK hT
/-- m[k] = v, the entries' stamps kept. -/
theorem run_putS {w : World} {b : Nat} {l : List (κ × Value)} (hM : MapS enc w b l) (k : κ) (v : Value) :
    ∃ w', (Instr.mapUpdate T (.map (some b)) (enc k) v).run P w = .ok () w' ∧ MapS enc w' b (Mp.ins k v l) ∧ w.grownBy w' (some b) ∧ w'.heap.size = w.heap.size := by
  obtain ⟨es, clock, hb, he, hs1, hs2⟩ := hM
  unfold Instr.mapUpdate
  have hg : (getObj b).run P w = .ok (.map es clock) w := by simp [getObj, Sem.run, hb]
  have hs : ∀ o : Obj, (setObj b o).run P w = .ok () (setO w b o) := fun o => by simp [setObj, Sem.run, hb, setO]
  simp only [Sem.run_bind, run_underlying hT, Result.andThen_ok, hg, HK.check, HK.find k es.toList l w he]
  cases hl : Mp.look k l 0 with
  | none =>
    obtain ⟨h1, _⟩ := look_none l k 0 hl
    simp only [hs]
    refine ⟨_, rfl, ⟨_, _, setO_at hb _, ?_, fun x hx => ?_, ?_⟩, setO_grown _ _ _, setO_size _ _ _⟩
    · rw [h1 v, Array.toList_push, List.map_append, List.map_append, he]
      rfl
    · rw [Array.toList_push, List.mem_append] at hx
      rcases hx with hx | hx
      · exact Nat.lt_succ_of_lt (hs1 x hx)
      · rw [List.mem_singleton.1 hx]; exact Nat.lt_succ_self _
    · rw [Array.toList_push, List.map_append, List.nodup_append]
      refine ⟨hs2, by simp, fun a ha c hc e1 => ?_⟩
      obtain ⟨x, hx, rfl⟩ := List.mem_map.1 ha
      simp only [List.map_cons, List.map_nil, List.mem_singleton] at hc
      have := hs1 x hx
      omega
  | some p =>
    obtain ⟨i, u⟩ := p
    obtain ⟨_, h2, h3, _⟩ := look_at l k 0 i u hl
    rw [Nat.sub_zero] at h2 h3
    have hi : i < es.size := by
      have := congrArg List.length he
      have hl2 := (List.getElem?_eq_some_iff.1 h2).1
      simp at this
      omega
    have hk : ((es[i]?).map (·.key)).getD (enc k) = enc k := by
      have e1 : (es.toList.map pr)[i]? = (l.map (en enc))[i]? := by rw [he]
      rw [List.getElem?_map, List.getElem?_map, h2, Array.getElem?_toList, Array.getElem?_eq_getElem hi] at e1
      rw [Array.getElem?_eq_getElem hi]
      simp only [Option.map_some, Option.some.injEq, pr, en, Prod.mk.injEq] at e1
      simp [e1.1]
    simp only [hk, Sem.run_bind, HK.stays, Result.andThen_ok, hs]
    have hjl : es.toList[i]? = some es[i] := by rw [Array.getElem?_toList, Array.getElem?_eq_getElem hi]
    have hm : (es.modify i fun e => { e with key := enc k, val := v }).toList = es.toList.set i { es[i] with key := enc k, val := v } := by rw [Array.toList_modify, modify_set _ _ _ es[i] hjl]
    refine ⟨_, rfl, ⟨_, _, setO_at hb _, ?_, fun x hx => ?_, ?_⟩, setO_grown _ _ _, setO_size _ _ _⟩
    · rw [hm, List.map_set, he, h3 v, List.map_set]
      rfl
    · rw [hm] at hx
      rcases List.mem_or_eq_of_mem_set hx with q | q
      · exact hs1 x q
      · rw [q]; exact hs1 es[i] (List.mem_of_getElem? hjl)
    · rw [hm, List.map_set]
      have : (es.toList.map (·.born)).set i es[i].born = es.toList.map (·.born) := by
        obtain ⟨h1, h2⟩ := List.getElem?_eq_some_iff.1 hjl
        have := @List.set_getElem_self _ (es.toList.map (·.born)) i (by simpa using h1)
        rw [List.getElem_map, h2] at this
        exact this
      show ((es.toList.map (·.born)).set i es[i].born).Nodup
      rw [this]
      exact hs2
end
/-- Whose a block is: the row of those ahead, an object's row of acquires, of releases. -/
inductive Tr where
  | a
  | q (c : Int)
  | r (c : Int)
/-- The finder that read makes: its parts lie one behind the other. -/
def fnd (n0 : Nat) (vl vc va : Value) : Fnd := ⟨n0 + 5, n0 + 2, n0, n0 + 1, n0 + 3, n0 + 4, vl, vc, va⟩
structure RD (w : World) (n : Nat) (vl vc va : Value) (al : List Int) (wrl : List Bool) (mt ms mr : List ((Int × Int) × Value)) (ma mb : List (Int × Value)) (cA cB : Int → List Int) (own : Nat → Option Tr) (W : World) : Prop where
  b : Below w.heap.size w W
  bf : W.heap[w.heap.size + 5]? = some (.cells ((fnd w.heap.size vl vc va).cells n (.slice none 0 0)) 75 (0, 0))
  bw : W.heap[w.heap.size + 2]? = some (.cells (wrl.map Value.bool).toArray 4 (0, 0))
  ha : (Kd.int .i64).Q 3 W w.heap.size (fun q => own q = some Tr.a) va al
  ht : MapOf enc2 W (w.heap.size + 6) mt
  hs : MapOf enc2 W w.heap.size ms
  hr : MapOf enc2 W (w.heap.size + 1) mr
  hma : MapS (Value.int .i64) W (w.heap.size + 3) ma ∧ (ma.map (·.1)).Nodup
  hmb : MapS (Value.int .i64) W (w.heap.size + 4) mb ∧ (mb.map (·.1)).Nodup
  ra : Rows (Kd.int .i64) 3 W w.heap.size own Tr.q ma cA
  rb : Rows (Kd.int .i64) 3 W w.heap.size own Tr.r mb cB
  om : ∀ k, k < w.heap.size + 7 → own k = none
section
variable {w W W2 : World} {n : Nat} {vl vc va : Value} {al : List Int} {wrl : List Bool} {mt ms mr : List ((Int × Int) × Value)} {ma mb : List (Int × Value)} {cA cB : Int → List Int} {own : Nat → Option Tr}
theorem RD.lt (h : RD w n vl vc va al wrl mt ms mr ma mb cA cB own W) : w.heap.size + 7 ≤ W.heap.size := by have := h.ht.lt; omega
theorem RD.below (h : RD w n vl vc va al wrl mt ms mr ma mb cA cB own W) (hb : Below W.heap.size W W2) : RD w n vl vc va al wrl mt ms mr ma mb cA cB own W2 :=
  ⟨below_step h.b hb, blk_below h.bf hb, blk_below h.bw hb, Kd.Q_below h.ha hb, h.ht.below hb, h.hs.below hb, h.hr.below hb, ⟨h.hma.1.below hb, h.hma.2⟩, ⟨h.hmb.1.below hb, h.hmb.2⟩, h.ra.below hb, h.rb.below hb, h.om⟩
theorem RD.reown (h : RD w n vl vc va al wrl mt ms mr ma mb cA cB own W) (x : Option Tr) : RD w n vl vc va al wrl mt ms mr ma mb cA cB (Od.reown own W.heap.size x) W :=
  { h with
    ha := Kd.Q_mono (Kd.Q_bound h.ha) (fun k q => by unfold Od.reown; rw [if_pos q.2.2.1]; exact q.1)
    ra := h.ra.reown x
    rb := h.rb.reown x
    om := fun k hk => by unfold Od.reown; rw [if_pos (by have := h.lt; omega)]; exact h.om k hk }
theorem RD.tag (h : RD w n vl vc va al wrl mt ms mr ma mb cA cB own W) {g : Nat} {x : Tr} (hg : own g = some x) : w.heap.size + 7 ≤ g := by
  by_cases c : g < w.heap.size + 7
  · rw [h.om g c] at hg; cases hg
  · omega
theorem RD.last (h : RD w n vl vc va al wrl mt ms mr ma mb cA cB own W) {mt2 : List ((Int × Int) × Value)} (hm : MapOf enc2 W2 (w.heap.size + 6) mt2) (hg : W.grownBy W2 (some (w.heap.size + 6))) : RD w n vl vc va al wrl mt2 ms mr ma mb cA cB own W2 :=
  ⟨below_mput h.b hg (by omega) h.b.size, blk_grown h.bf hg (fun e => by have := Option.some.inj e; omega), blk_grown h.bw hg (fun e => by have := Option.some.inj e; omega), Kd.Q_grown h.ha hg (fun k hk e => by have := h.tag hk; have := Option.some.inj e; omega), hm, h.hs.grown hg (fun e => by have := Option.some.inj e; omega), h.hr.grown hg (fun e => by have := Option.some.inj e; omega),
   ⟨h.hma.1.grown hg (fun e => by have := Option.some.inj e; omega), h.hma.2⟩, ⟨h.hmb.1.grown hg (fun e => by have := Option.some.inj e; omega), h.hmb.2⟩, h.ra.grown hg (fun q k e hk => by have := h.tag hk; have := Option.some.inj e; omega), h.rb.grown hg (fun q k e hk => by have := h.tag hk; have := Option.some.inj e; omega), h.om⟩
theorem RD.send (h : RD w n vl vc va al wrl mt ms mr ma mb cA cB own W) {ms2 : List ((Int × Int) × Value)} (hm : MapOf enc2 W2 w.heap.size ms2) (hg : W.grownBy W2 (some w.heap.size)) : RD w n vl vc va al wrl mt ms2 mr ma mb cA cB own W2 :=
  ⟨below_mput h.b hg (by omega) h.b.size, blk_grown h.bf hg (fun e => by have := Option.some.inj e; omega), blk_grown h.bw hg (fun e => by have := Option.some.inj e; omega), Kd.Q_grown h.ha hg (fun k hk e => by have := h.tag hk; have := Option.some.inj e; omega), h.ht.grown hg (fun e => by have := Option.some.inj e; omega), hm, h.hr.grown hg (fun e => by have := Option.some.inj e; omega),
   ⟨h.hma.1.grown hg (fun e => by have := Option.some.inj e; omega), h.hma.2⟩, ⟨h.hmb.1.grown hg (fun e => by have := Option.some.inj e; omega), h.hmb.2⟩, h.ra.grown hg (fun q k e hk => by have := h.tag hk; have := Option.some.inj e; omega), h.rb.grown hg (fun q k e hk => by have := h.tag hk; have := Option.some.inj e; omega), h.om⟩
theorem RD.recv (h : RD w n vl vc va al wrl mt ms mr ma mb cA cB own W) {mr2 : List ((Int × Int) × Value)} (hm : MapOf enc2 W2 (w.heap.size + 1) mr2) (hg : W.grownBy W2 (some (w.heap.size + 1))) : RD w n vl vc va al wrl mt ms mr2 ma mb cA cB own W2 :=
  ⟨below_mput h.b hg (by omega) h.b.size, blk_grown h.bf hg (fun e => by have := Option.some.inj e; omega), blk_grown h.bw hg (fun e => by have := Option.some.inj e; omega), Kd.Q_grown h.ha hg (fun k hk e => by have := h.tag hk; have := Option.some.inj e; omega), h.ht.grown hg (fun e => by have := Option.some.inj e; omega), h.hs.grown hg (fun e => by have := Option.some.inj e; omega), hm,
   ⟨h.hma.1.grown hg (fun e => by have := Option.some.inj e; omega), h.hma.2⟩, ⟨h.hmb.1.grown hg (fun e => by have := Option.some.inj e; omega), h.hmb.2⟩, h.ra.grown hg (fun q k e hk => by have := h.tag hk; have := Option.some.inj e; omega), h.rb.grown hg (fun q k e hk => by have := h.tag hk; have := Option.some.inj e; omega), h.om⟩
theorem RD.mark (h : RD w n vl vc va al wrl mt ms mr ma mb cA cB own W) (t : Nat) : RD w n vl vc va al (wrl.set t true) mt ms mr ma mb cA cB own (W.setCell ⟨w.heap.size + 2, t, none⟩ (.bool true)) := by
  have hb := blk_put h.bw t (.bool true) wr_set
  have hg : W.grownBy (W.setCell ⟨w.heap.size + 2, t, none⟩ (.bool true)) (some (w.heap.size + 2)) := (set_step h.bw t (.bool true) rfl).2
  exact ⟨below_mput h.b hg (by omega) h.b.size, blk_grown h.bf hg (fun e => by have := Option.some.inj e; omega), hb, Kd.Q_grown h.ha hg (fun k hk e => by have := h.tag hk; have := Option.some.inj e; omega), h.ht.grown hg (fun e => by have := Option.some.inj e; omega), h.hs.grown hg (fun e => by have := Option.some.inj e; omega), h.hr.grown hg (fun e => by have := Option.some.inj e; omega),
   ⟨h.hma.1.grown hg (fun e => by have := Option.some.inj e; omega), h.hma.2⟩, ⟨h.hmb.1.grown hg (fun e => by have := Option.some.inj e; omega), h.hmb.2⟩, h.ra.grown hg (fun q k e hk => by have := h.tag hk; have := Option.some.inj e; omega), h.rb.grown hg (fun q k e hk => by have := h.tag hk; have := Option.some.inj e; omega), h.om⟩
/-- The row of those ahead is made longer, and stored. -/
theorem RD.ahead (h : RD w n vl vc va al wrl mt ms mr ma mb cA cB own W) {va2 : Value} {al2 : List Int} (hg : W.grownBy W2 va.ownBlock) (hrow : (Kd.int .i64).Q 3 W2 w.heap.size (fun q => Od.reown own W.heap.size (some Tr.a) q = some Tr.a) va2 al2) :
    RD w n vl vc va2 al2 wrl mt ms mr ma mb cA cB (Od.reown own W.heap.size (some Tr.a)) (W2.setCell ⟨w.heap.size + 5, 2, none⟩ va2) := by
  have H := h.reown (some Tr.a)
  have ho : ∀ g, va.ownBlock = some g → w.heap.size + 7 ≤ g ∧ Od.reown own W.heap.size (some Tr.a) g = some Tr.a := fun g e => ⟨h.tag (h.ha.1 g e), H.ha.1 g e⟩
  have hlt : ∀ k, k < w.heap.size + 7 → some k ≠ va.ownBlock := fun k hk e => by have := (ho k e.symm).1; omega
  have hbf := blk_grown h.bf hg (hlt _ (by omega))
  have hb := blk_put hbf 2 va2 (show _ = (fnd w.heap.size vl vc va2).cells n (.slice none 0 0) from by unfold fnd Fnd.cells; rfl)
  have hg2 : W2.grownBy (W2.setCell ⟨w.heap.size + 5, 2, none⟩ va2) (some (w.heap.size + 5)) := (set_step hbf 2 va2 rfl).2
  have hB : Below w.heap.size w W2 := h.b.grown hg h.b.size (fun k e => by have := (ho k e).1; omega)
  refine ⟨below_mput hB hg2 (by omega) hB.size, hb, blk_grown (blk_grown h.bw hg (hlt _ (by omega))) hg2 (fun e => by have := Option.some.inj e; omega), Kd.Q_grown hrow hg2 (fun k hk e => by have := H.tag hk; have := Option.some.inj e; omega), (h.ht.grown hg (hlt _ (by omega))).grown hg2 (fun e => by have := Option.some.inj e; omega), (h.hs.grown hg (hlt _ (by omega))).grown hg2 (fun e => by have := Option.some.inj e; omega), (h.hr.grown hg (hlt _ (by omega))).grown hg2 (fun e => by have := Option.some.inj e; omega),
   ⟨(h.hma.1.grown hg (hlt _ (by omega))).grown hg2 (fun e => by have := Option.some.inj e; omega), h.hma.2⟩, ⟨(h.hmb.1.grown hg (hlt _ (by omega))).grown hg2 (fun e => by have := Option.some.inj e; omega), h.hmb.2⟩, ?_, ?_, H.om⟩
  · exact (H.ra.grown hg (fun q k e hk => by rw [(ho q e).2] at hk; cases hk)).grown hg2 (fun q k e hk => by have := H.tag hk; have := Option.some.inj e; omega)
  · exact (H.rb.grown hg (fun q k e hk => by rw [(ho q e).2] at hk; cases hk)).grown hg2 (fun q k e hk => by have := H.tag hk; have := Option.some.inj e; omega)
/-- One acquire more. -/
theorem RD.acq (h : RD w n vl vc va al wrl mt ms mr ma mb cA cB own W) {c : Int} {v v2 : Value} {xs : List Int} {W3 : World} (hv : (Kd.int .i64).Q 3 W w.heap.size (fun q => own q = some (Tr.q c)) v (cA c)) (hg : W.grownBy W2 v.ownBlock)
    (hrow : (Kd.int .i64).Q 3 W2 w.heap.size (fun q => Od.reown own W.heap.size (some (Tr.q c)) q = some (Tr.q c)) v2 xs) (hm : MapS (Value.int .i64) W3 (w.heap.size + 3) (Mp.ins c v2 ma)) (hg2 : W2.grownBy W3 (some (w.heap.size + 3))) :
    RD w n vl vc va al wrl mt ms mr (Mp.ins c v2 ma) mb (fun k => if k = c then xs else cA k) cB (Od.reown own W.heap.size (some (Tr.q c))) W3 := by
  have H := h.reown (some (Tr.q c))
  have ho : ∀ g, v.ownBlock = some g → w.heap.size + 7 ≤ g ∧ Od.reown own W.heap.size (some (Tr.q c)) g = some (Tr.q c) := fun g e => ⟨h.tag (hv.1 g e), by unfold Od.reown; rw [if_pos (Kd.Q_lt hv g e)]; exact hv.1 g e⟩
  have hlt : ∀ k, k < w.heap.size + 7 → some k ≠ v.ownBlock := fun k hk e => by have := (ho k e.symm).1; omega
  have hB : Below w.heap.size w W2 := h.b.grown hg h.b.size (fun k e => by have := (ho k e).1; omega)
  refine ⟨below_mput hB hg2 (by omega) hB.size, blk_grown (blk_grown h.bf hg (hlt _ (by omega))) hg2 (fun e => by have := Option.some.inj e; omega), blk_grown (blk_grown h.bw hg (hlt _ (by omega))) hg2 (fun e => by have := Option.some.inj e; omega), Kd.Q_grown (Kd.Q_grown H.ha hg (fun k hk e => by rw [(ho k e.symm).2] at hk; cases hk)) hg2 (fun k hk e => by have := H.tag hk; have := Option.some.inj e; omega), (h.ht.grown hg (hlt _ (by omega))).grown hg2 (fun e => by have := Option.some.inj e; omega), (h.hs.grown hg (hlt _ (by omega))).grown hg2 (fun e => by have := Option.some.inj e; omega), (h.hr.grown hg (hlt _ (by omega))).grown hg2 (fun e => by have := Option.some.inj e; omega),
   ⟨hm, (ins_keys c v2 ma).2.1 h.hma.2⟩, ⟨(h.hmb.1.grown hg (hlt _ (by omega))).grown hg2 (fun e => by have := Option.some.inj e; omega), h.hmb.2⟩, ?_, ?_, H.om⟩
  · exact (Rows.appended h.ra (fun a b e => by cases e; rfl) hv hg hrow).grown hg2 (fun q k e hk => by have := H.tag hk; have := Option.some.inj e; omega)
  · exact (H.rb.grown hg (fun q k e hk => by rw [(ho q e).2] at hk; cases hk)).grown hg2 (fun q k e hk => by have := H.tag hk; have := Option.some.inj e; omega)
/-- One release more. -/
theorem RD.rel (h : RD w n vl vc va al wrl mt ms mr ma mb cA cB own W) {c : Int} {v v2 : Value} {xs : List Int} {W3 : World} (hv : (Kd.int .i64).Q 3 W w.heap.size (fun q => own q = some (Tr.r c)) v (cB c)) (hg : W.grownBy W2 v.ownBlock)
    (hrow : (Kd.int .i64).Q 3 W2 w.heap.size (fun q => Od.reown own W.heap.size (some (Tr.r c)) q = some (Tr.r c)) v2 xs) (hm : MapS (Value.int .i64) W3 (w.heap.size + 4) (Mp.ins c v2 mb)) (hg2 : W2.grownBy W3 (some (w.heap.size + 4))) :
    RD w n vl vc va al wrl mt ms mr ma (Mp.ins c v2 mb) cA (fun k => if k = c then xs else cB k) (Od.reown own W.heap.size (some (Tr.r c))) W3 := by
  have H := h.reown (some (Tr.r c))
  have ho : ∀ g, v.ownBlock = some g → w.heap.size + 7 ≤ g ∧ Od.reown own W.heap.size (some (Tr.r c)) g = some (Tr.r c) := fun g e => ⟨h.tag (hv.1 g e), by unfold Od.reown; rw [if_pos (Kd.Q_lt hv g e)]; exact hv.1 g e⟩
  have hlt : ∀ k, k < w.heap.size + 7 → some k ≠ v.ownBlock := fun k hk e => by have := (ho k e.symm).1; omega
  have hB : Below w.heap.size w W2 := h.b.grown hg h.b.size (fun k e => by have := (ho k e).1; omega)
  refine ⟨below_mput hB hg2 (by omega) hB.size, blk_grown (blk_grown h.bf hg (hlt _ (by omega))) hg2 (fun e => by have := Option.some.inj e; omega), blk_grown (blk_grown h.bw hg (hlt _ (by omega))) hg2 (fun e => by have := Option.some.inj e; omega), Kd.Q_grown (Kd.Q_grown H.ha hg (fun k hk e => by rw [(ho k e.symm).2] at hk; cases hk)) hg2 (fun k hk e => by have := H.tag hk; have := Option.some.inj e; omega), (h.ht.grown hg (hlt _ (by omega))).grown hg2 (fun e => by have := Option.some.inj e; omega), (h.hs.grown hg (hlt _ (by omega))).grown hg2 (fun e => by have := Option.some.inj e; omega), (h.hr.grown hg (hlt _ (by omega))).grown hg2 (fun e => by have := Option.some.inj e; omega),
   ⟨(h.hma.1.grown hg (hlt _ (by omega))).grown hg2 (fun e => by have := Option.some.inj e; omega), h.hma.2⟩, ⟨hm, (ins_keys c v2 mb).2.1 h.hmb.2⟩, ?_, ?_, H.om⟩
  · exact (H.ra.grown hg (fun q k e hk => by rw [(ho q e).2] at hk; cases hk)).grown hg2 (fun q k e hk => by have := H.tag hk; have := Option.some.inj e; omega)
  · exact (Rows.appended h.rb (fun a b e => by cases e; rfl) hv hg hrow).grown hg2 (fun q k e hk => by have := H.tag hk; have := Option.some.inj e; omega)
end
end Go.Proofs.Ytkbfijkohngjjaa.Od
set_option linter.unusedVariables false
set_option linter.unusedSimpArgs false
namespace Go.Proofs.Ytkbfijkohngjjaa.Od
open Go.RowKit Go.Proofs.Ytkbfijkohngjjaa.Ef Go.Proofs.Ytkbfijkohngjjaa.Mp Go.Proofs.Ytkbfijkohngjjaa.QOrder Go.Proofs.YtkbfijkohngjjaaW.PrintWords Go.Proofs.YtkbfijkohngjjaaW.PrintLast Go.Proofs.YtkbfijkohngjjaaW.PrintMore
/-- The last place ahead of i of a goroutine. -/
def lastG (l : List S36) (i : Nat) (g : Int × Int) : Option Nat := if g = (0, 0) then none else lastN (fun k => decide (gk (E l k).f2 = g)) i
def vi (o : Option Nat) : Option Value := o.map (fun (s : Nat) => Value.int .i64 (s : Int))
theorem lastG_succ (l : List S36) (i : Nat) (g : Int × Int) : lastG l (i + 1) g = if g ≠ (0, 0) ∧ gk (E l i).f2 = g then some i else lastG l i g := by
  unfold lastG
  by_cases c : g = (0, 0)
  · simp [c]
  · rw [if_neg c, if_neg c]
    conv => lhs; unfold lastN
    by_cases e : gk (E l i).f2 = g
    · rw [if_pos (decide_eq_true e), if_pos ⟨c, e⟩]
    · rw [if_neg (by simp [e]), if_neg (fun q => e q.2)]
theorem nob_gk {g : S34} : nob g = decide (gk g = (0, 0)) := by
  cases g
  unfold nob gk
  simp only [Prod.mk.injEq, Bool.decide_and]
  rfl
theorem ahead_lastG (l : List S36) (i : Nat) : aheadN l i = lastG l i (gk (E l i).f2) := by
  unfold aheadN lastG
  rw [nob_gk]
  by_cases c : gk (E l i).f2 = (0, 0)
  · rw [if_pos (decide_eq_true c), if_pos c]
  · rw [if_neg (by simp [c]), if_neg c]
    congr 1
    funext k
    exact samG_gk
theorem aheads_snoc (l : List S36) (i : Nat) : aheads l (i + 1) = aheads l i ++ [ahead l i] := by
  unfold aheads
  rw [List.range_succ, List.map_append]
  rfl
/-- What has been noted. -/
structure RS (l : List S36) (i : Nat) (al : List Int) (wrl : List Bool) (mt ms mr : List ((Int × Int) × Value)) (ma mb : List (Int × Value)) (cA cB : Int → List Int) : Prop where
  al : al = aheads l i
  len : wrl.length = l.length
  wr : ∀ j, j < l.length → wrl.getD j false = (decide (j < i) && readWrong l j)
  mt : ∀ g, Mp.get g mt = vi (lastG l i g)
  ms : ∀ k, Mp.get k ms = vi (place l i 16 k)
  mr : ∀ k, Mp.get k mr = vi (place l i 17 k)
  na : ma.length ≤ i
  nb : mb.length ≤ i
  ca : ∀ a, cA a = castN (idx l i 26 a)
  cb : ∀ a, cB a = castN (idx l i 27 a)
theorem castN_snoc (x : List Nat) (i : Nat) : castN (x ++ [i]) = castN x ++ [(i : Int)] := by simp [castN]
theorem place_same {l : List S36} {i : Nat} {kind : Int} (h : (E l i).f3 ≠ kind) (k : Int × Int) : place l (i + 1) kind k = place l i kind k := by
  rw [place_succ]
  cases place l i kind k with
  | some s => rfl
  | none =>
    have : ¬ (1 ≤ k.2 ∧ isK l kind k.1 k.2 i = true) := fun q => by
      have := q.2
      unfold isK at this
      simp [h] at this
    simp only [if_neg this]
theorem place_bad {l : List S36} {i : Nat} {kind : Int} (h : (E l i).f5 < 1 ∨ (place l i kind ((E l i).f4, (E l i).f5)).isSome = true) (k : Int × Int) : place l (i + 1) kind k = place l i kind k := by
  rw [place_succ]
  cases hp : place l i kind k with
  | some s => rfl
  | none =>
    have : ¬ (1 ≤ k.2 ∧ isK l kind k.1 k.2 i = true) := fun q => by
      have hq := q.2
      unfold isK at hq
      simp only [Bool.and_eq_true, beq_iff_eq] at hq
      obtain ⟨⟨_, h4⟩, h5⟩ := hq
      rcases h with h | h
      · have := q.1; omega
      · have e : ((E l i).f4, (E l i).f5) = k := by rw [h4, h5]
        rw [e, hp] at h
        cases h
    simp only [if_neg this]
theorem place_new {l : List S36} {i : Nat} {kind : Int} (hk : (E l i).f3 = kind) (h1 : 1 ≤ (E l i).f5) (h2 : place l i kind ((E l i).f4, (E l i).f5) = none) (k : Int × Int) : place l (i + 1) kind k = if k = ((E l i).f4, (E l i).f5) then some i else place l i kind k := by
  rw [place_succ]
  by_cases e : k = ((E l i).f4, (E l i).f5)
  · rw [if_pos e, e, h2]
    have : 1 ≤ (E l i).f5 ∧ isK l kind (E l i).f4 (E l i).f5 i = true := ⟨h1, by unfold isK; simp [hk]⟩
    simp only [if_pos this]
  · rw [if_neg e]
    cases hp : place l i kind k with
    | some s => rfl
    | none =>
      have : ¬ (1 ≤ k.2 ∧ isK l kind k.1 k.2 i = true) := fun q => by
        have hq := q.2
        unfold isK at hq
        simp only [Bool.and_eq_true, beq_iff_eq] at hq
        exact e (by rw [hq.1.2, hq.2])
      simp only [if_neg this]
theorem idx_same {l : List S36} {i : Nat} {kind : Int} (h : (E l i).f3 ≠ kind) (a : Int) : idx l (i + 1) kind a = idx l i kind a := by
  rw [idx_succ, if_neg]
  unfold isO
  simp [h]
theorem idx_new {l : List S36} {i : Nat} {kind : Int} (h : (E l i).f3 = kind) (a : Int) : idx l (i + 1) kind a = if a = (E l i).f4 then idx l i kind a ++ [i] else idx l i kind a := by
  rw [idx_succ]
  unfold isO
  by_cases e : a = (E l i).f4
  · simp [h, e]
  · have : ¬ (E l i).f4 = a := fun q => e q.symm
    simp [h, e, this]
section
variable {l : List S36} {i : Nat} {al : List Int} {wrl : List Bool} {mt mt2 ms mr m2 : List ((Int × Int) × Value)} {ma mb : List (Int × Value)} {cA cB : Int → List Int}
/-- The first half of a round: the last of the goroutine's, the one ahead. -/
structure RH (l : List S36) (i : Nat) (al : List Int) (wrl : List Bool) (mt ms mr : List ((Int × Int) × Value)) (ma mb : List (Int × Value)) (cA cB : Int → List Int) : Prop where
  al : al = aheads l (i + 1)
  len : wrl.length = l.length
  wr : ∀ j, j < l.length → wrl.getD j false = (decide (j < i) && readWrong l j)
  mt : ∀ g, Mp.get g mt = vi (lastG l (i + 1) g)
  ms : ∀ k, Mp.get k ms = vi (place l i 16 k)
  mr : ∀ k, Mp.get k mr = vi (place l i 17 k)
  na : ma.length ≤ i
  nb : mb.length ≤ i
  ca : ∀ a, cA a = castN (idx l i 26 a)
  cb : ∀ a, cB a = castN (idx l i 27 a)
theorem RS.nobody (h : RS l i al wrl mt ms mr ma mb cA cB) (hg : gk (E l i).f2 = (0, 0)) : RH l i (al ++ [-1]) wrl mt ms mr ma mb cA cB :=
  ⟨by rw [h.al, aheads_snoc]; unfold Od.ahead; rw [ahead_lastG]; unfold lastG; rw [if_pos hg]; rfl, h.len, h.wr, fun g => by rw [h.mt, lastG_succ, if_neg (fun q => q.1 (q.2.symm.trans hg))], h.ms, h.mr, h.na, h.nb, h.ca, h.cb⟩
theorem RS.somebody (h : RS l i al wrl mt ms mr ma mb cA cB) (hg : gk (E l i).f2 ≠ (0, 0)) : RH l i (al ++ [oi (lastG l i (gk (E l i).f2))]) wrl (Mp.ins (gk (E l i).f2) (.int .i64 (i : Int)) mt) ms mr ma mb cA cB :=
  ⟨by rw [h.al, aheads_snoc]; unfold Od.ahead; rw [ahead_lastG], h.len, h.wr, fun g => by
    rw [get_ins, h.mt, lastG_succ]
    by_cases e : g = gk (E l i).f2
    · rw [if_pos e, if_pos ⟨by rw [e]; exact hg, e.symm⟩]; rfl
    · rw [if_neg e, if_neg (fun q => e q.2.symm)], h.ms, h.mr, h.na, h.nb, h.ca, h.cb⟩
theorem wr_next (h : ∀ j, j < l.length → wrl.getD j false = (decide (j < i) && readWrong l j)) (hr : readWrong l i = false) : ∀ j, j < l.length → wrl.getD j false = (decide (j < i + 1) && readWrong l j) := by
  intro j hj
  rw [h j hj]
  by_cases e : j = i
  · subst e; simp [hr]
  · by_cases c : j < i
    · simp [c, show j < i + 1 by omega]
    · simp [c, show ¬ j < i + 1 by omega]
theorem wr_mark (hl : wrl.length = l.length) (hi : i < l.length) (h : ∀ j, j < l.length → wrl.getD j false = (decide (j < i) && readWrong l j)) (hr : readWrong l i = true) : ∀ j, j < l.length → (wrl.set i true).getD j false = (decide (j < i + 1) && readWrong l j) := by
  intro j hj
  rw [getD_set (by omega)]
  by_cases e : j = i
  · subst e; rw [if_pos rfl, hr]; simp
  · rw [if_neg e, h j hj]
    by_cases c : j < i
    · simp [c, show j < i + 1 by omega]
    · simp [c, show ¬ j < i + 1 by omega]
theorem read_other (h1 : (E l i).f3 ≠ 16) (h2 : (E l i).f3 ≠ 17) : readWrong l i = false := by
  unfold readWrong
  simp [h1, h2]
theorem RH.other (h : RH l i al wrl mt ms mr ma mb cA cB) (h1 : (E l i).f3 ≠ 16) (h2 : (E l i).f3 ≠ 17) (h3 : (E l i).f3 ≠ 26) (h4 : (E l i).f3 ≠ 27) : RS l (i + 1) al wrl mt ms mr ma mb cA cB :=
  ⟨h.al, h.len, wr_next h.wr (read_other h1 h2), h.mt, fun k => by rw [h.ms, place_same h1], fun k => by rw [h.mr, place_same h2], by have := h.na; omega, by have := h.nb; omega, fun a => by rw [h.ca, idx_same h3], fun a => by rw [h.cb, idx_same h4]⟩
theorem RH.sendBad (h : RH l i al wrl mt ms mr ma mb cA cB) (hi : i < l.length) (h1 : (E l i).f3 = 16) (hb : (E l i).f5 < 1 ∨ (place l i 16 ((E l i).f4, (E l i).f5)).isSome = true) : RS l (i + 1) al (wrl.set i true) mt ms mr ma mb cA cB :=
  ⟨h.al, by rw [List.length_set]; exact h.len, wr_mark h.len hi h.wr (by unfold readWrong; rcases hb with hb | hb; (· simp [h1, hb]); (· simp [h1, hb])), h.mt, fun k => by rw [h.ms, place_bad hb], fun k => by rw [h.mr, place_same (by rw [h1]; decide)], by have := h.na; omega, by have := h.nb; omega, fun a => by rw [h.ca, idx_same (by rw [h1]; decide)], fun a => by rw [h.cb, idx_same (by rw [h1]; decide)]⟩
theorem vi_ins {c : Int × Int} {i : Nat} {m : List ((Int × Int) × Value)} {p q : Int × Int → Option Nat} (h : ∀ k, Mp.get k m = vi (p k)) (hq : ∀ k, q k = if k = c then some i else p k) : ∀ k, Mp.get k (Mp.ins c (.int .i64 (i : Int)) m) = vi (q k) := by
  intro k
  rw [get_ins, hq, h]
  by_cases e : k = c
  · rw [if_pos e, if_pos e]; rfl
  · rw [if_neg e, if_neg e]
theorem RH.send (h : RH l i al wrl mt ms mr ma mb cA cB) (h1 : (E l i).f3 = 16) (h5 : 1 ≤ (E l i).f5) (hp : place l i 16 ((E l i).f4, (E l i).f5) = none) : RS l (i + 1) al wrl mt (Mp.ins ((E l i).f4, (E l i).f5) (.int .i64 (i : Int)) ms) mr ma mb cA cB :=
  ⟨h.al, h.len, wr_next h.wr (by unfold readWrong; rw [hp]; simp [h1]; omega), h.mt, vi_ins h.ms (place_new h1 h5 hp), fun k => by rw [h.mr, place_same (by rw [h1]; decide)], by have := h.na; omega, by have := h.nb; omega, fun a => by rw [h.ca, idx_same (by rw [h1]; decide)], fun a => by rw [h.cb, idx_same (by rw [h1]; decide)]⟩
theorem RH.recvBad (h : RH l i al wrl mt ms mr ma mb cA cB) (hi : i < l.length) (h1 : (E l i).f3 = 17) (hb : (E l i).f5 < 0 ∨ (0 < (E l i).f5 ∧ (place l i 17 ((E l i).f4, (E l i).f5)).isSome = true)) : RS l (i + 1) al (wrl.set i true) mt ms mr ma mb cA cB :=
  ⟨h.al, by rw [List.length_set]; exact h.len, wr_mark h.len hi h.wr (by unfold readWrong; rcases hb with hb | hb; (· simp [h1, hb]); (· simp [h1, hb.1, hb.2])), h.mt, fun k => by rw [h.ms, place_same (by rw [h1]; decide)], fun k => by rw [h.mr, place_bad (hb.elim (fun q => .inl (by omega)) (fun q => .inr q.2))], by have := h.na; omega, by have := h.nb; omega, fun a => by rw [h.ca, idx_same (by rw [h1]; decide)], fun a => by rw [h.cb, idx_same (by rw [h1]; decide)]⟩
theorem RH.recv (h : RH l i al wrl mt ms mr ma mb cA cB) (h1 : (E l i).f3 = 17) (h5 : 0 < (E l i).f5) (hp : place l i 17 ((E l i).f4, (E l i).f5) = none) : RS l (i + 1) al wrl mt ms (Mp.ins ((E l i).f4, (E l i).f5) (.int .i64 (i : Int)) mr) ma mb cA cB :=
  ⟨h.al, h.len, wr_next h.wr (by unfold readWrong; rw [hp]; simp [h1]; omega), h.mt, fun k => by rw [h.ms, place_same (by rw [h1]; decide)], vi_ins h.mr (place_new h1 (by omega) hp), by have := h.na; omega, by have := h.nb; omega, fun a => by rw [h.ca, idx_same (by rw [h1]; decide)], fun a => by rw [h.cb, idx_same (by rw [h1]; decide)]⟩
theorem RH.recv0 (h : RH l i al wrl mt ms mr ma mb cA cB) (h1 : (E l i).f3 = 17) (h5 : (E l i).f5 = 0) : RS l (i + 1) al wrl mt ms mr ma mb cA cB :=
  ⟨h.al, h.len, wr_next h.wr (by unfold readWrong; simp [h1, h5]), h.mt, fun k => by rw [h.ms, place_same (by rw [h1]; decide)], fun k => by rw [h.mr, place_bad (.inl (by omega))], by have := h.na; omega, by have := h.nb; omega, fun a => by rw [h.ca, idx_same (by rw [h1]; decide)], fun a => by rw [h.cb, idx_same (by rw [h1]; decide)]⟩
theorem RH.acq (h : RH l i al wrl mt ms mr ma mb cA cB) (h1 : (E l i).f3 = 26) (v : Value) : RS l (i + 1) al wrl mt ms mr (Mp.ins (E l i).f4 v ma) mb (fun k => if k = (E l i).f4 then cA (E l i).f4 ++ [(i : Int)] else cA k) cB :=
  ⟨h.al, h.len, wr_next h.wr (read_other (by rw [h1]; decide) (by rw [h1]; decide)), h.mt, fun k => by rw [h.ms, place_same (by rw [h1]; decide)], fun k => by rw [h.mr, place_same (by rw [h1]; decide)], by have := h.na; have := (ins_keys (E l i).f4 v ma).2.2; omega, by have := h.nb; omega, fun a => by
    rw [idx_new h1]
    by_cases e : a = (E l i).f4
    · rw [if_pos e, if_pos e, castN_snoc, h.ca, e]
    · rw [if_neg e, if_neg e, h.ca], fun a => by rw [h.cb, idx_same (by rw [h1]; decide)]⟩
theorem RH.rel (h : RH l i al wrl mt ms mr ma mb cA cB) (h1 : (E l i).f3 = 27) (v : Value) : RS l (i + 1) al wrl mt ms mr ma (Mp.ins (E l i).f4 v mb) cA (fun k => if k = (E l i).f4 then cB (E l i).f4 ++ [(i : Int)] else cB k) :=
  ⟨h.al, h.len, wr_next h.wr (read_other (by rw [h1]; decide) (by rw [h1]; decide)), h.mt, fun k => by rw [h.ms, place_same (by rw [h1]; decide)], fun k => by rw [h.mr, place_same (by rw [h1]; decide)], by have := h.na; omega, by have := h.nb; have := (ins_keys (E l i).f4 v mb).2.2; omega, fun a => by rw [h.ca, idx_same (by rw [h1]; decide)], fun a => by
    rw [idx_new h1]
    by_cases e : a = (E l i).f4
    · rw [if_pos e, if_pos e, castN_snoc, h.cb, e]
    · rw [if_neg e, if_neg e, h.cb]⟩
end
end Go.Proofs.Ytkbfijkohngjjaa.Od
set_option linter.unusedVariables false
set_option linter.unusedSimpArgs false
namespace Go.Proofs.Ytkbfijkohngjjaa.Od
open Go.RowKit Go.Proofs.Ytkbfijkohngjjaa.Ef Go.Proofs.Ytkbfijkohngjjaa.Mp Go.Proofs.Ytkbfijkohngjjaa.QOrder Go.Proofs.YtkbfijkohngjjaaW.PrintWords Go.Proofs.YtkbfijkohngjjaaW.PrintLast Go.Proofs.YtkbfijkohngjjaaW.PrintMore
attribute [local go_sem high] eqA34
theorem make_bools (n : Nat) (hn : n ≤ 65536) (W : World) : (Instr.makeSlice 66 (.int .i64 (n : Int)) (.int .i64 (n : Int))).run Try.prog W = .ok (.slice (some ⟨W.heap.size, 0, none⟩) n n) (W.alloc (.cells (madeCells #[.bool false] n) 4)) := by
  obtain ⟨i0, hi, hzz⟩ := Option.map_eq_some_iff.1 info4
  simp only [Prod.mk.injEq] at hzz
  obtain ⟨hz0, hz1, hz2⟩ := hzz
  have h := run_make (P := Try.prog) W 66 4 i0 (.bool false) Try.underlying66 hi hz0 .i64 .i64 (n : Int) (n : Int) (by omega) (by omega) (by rw [hz2]; omega) (by omega)
  rw [h, hz1, Nat.mul_one]
  rfl
theorem made_bools (n : Nat) : madeCells #[.bool false] n = ((List.replicate n false).map Value.bool).toArray := by
  apply Array.ext'
  rw [toList_madeCells_one]
  simp
/-- The world behind what read makes first. -/
def w7 (w : World) (n : Nat) (vl vc : Value) : World :=
  ((((((w.alloc (.map #[] 0)).alloc (.map #[] 0)).alloc (.cells (madeCells #[.bool false] n) 4)).alloc (.map #[] 0)).alloc (.map #[] 0)).alloc (.cells ((fnd w.heap.size vl vc (.slice none 0 0)).cells n (.slice none 0 0)) 75)).alloc (.map #[] 0)
theorem rd_init (w : World) (n : Nat) (vl vc : Value) : RD w n vl vc (.slice none 0 0) [] (List.replicate n false) [] [] [] [] [] (fun _ => []) (fun _ => []) (fun _ => none) (w7 w n vl vc) := by
  have hh : (w7 w n vl vc).heap = w.heap ++ #[.map #[] 0, .map #[] 0, .cells (madeCells #[.bool false] n) 4 (0, 0), .map #[] 0, .map #[] 0, .cells ((fnd w.heap.size vl vc (.slice none 0 0)).cells n (.slice none 0 0)) 75 (0, 0), .map #[] 0] := by
    apply Array.ext'
    show (((((((w.heap.push _).push _).push _).push _).push _).push _).push _).toList = _
    simp
  have hat : ∀ k, (w7 w n vl vc).heap[w.heap.size + k]? = (#[.map #[] 0, .map #[] 0, .cells (madeCells #[.bool false] n) 4 (0, 0), .map #[] 0, .map #[] 0, .cells ((fnd w.heap.size vl vc (.slice none 0 0)).cells n (.slice none 0 0)) 75 (0, 0), .map #[] 0] : Array Obj)[k]? := fun k => by
    rw [hh, Array.getElem?_append_right (Nat.le_add_right _ _), Nat.add_sub_cancel_left]
  have hb : Below w.heap.size w (w7 w n vl vc) := below_alloc (below_alloc (below_alloc (below_alloc (below_alloc (below_alloc (below_alloc (Below.refl _ _) _) _) _) _) _) _) _
  have g0 : (w7 w n vl vc).heap[w.heap.size]? = some (.map #[] 0) := (hat 0).trans rfl
  have g1 : (w7 w n vl vc).heap[w.heap.size + 1]? = some (.map #[] 0) := (hat 1).trans rfl
  have g2 : (w7 w n vl vc).heap[w.heap.size + 2]? = some (.cells (madeCells #[.bool false] n) 4 (0, 0)) := (hat 2).trans rfl
  have g3 : (w7 w n vl vc).heap[w.heap.size + 3]? = some (.map #[] 0) := (hat 3).trans rfl
  have g4 : (w7 w n vl vc).heap[w.heap.size + 4]? = some (.map #[] 0) := (hat 4).trans rfl
  have g5 : (w7 w n vl vc).heap[w.heap.size + 5]? = some (.cells ((fnd w.heap.size vl vc (.slice none 0 0)).cells n (.slice none 0 0)) 75 (0, 0)) := (hat 5).trans rfl
  have g6 : (w7 w n vl vc).heap[w.heap.size + 6]? = some (.map #[] 0) := (hat 6).trans rfl
  exact ⟨hb, g5, by rw [g2, made_bools], Kd.Q_nil _ _ _ _ _, ⟨_, _, g6, rfl⟩, ⟨_, _, g0, rfl⟩, ⟨_, _, g1, rfl⟩, ⟨⟨_, _, g3, rfl, by simp, by simp⟩, List.nodup_nil⟩, ⟨⟨_, _, g4, rfl, by simp, by simp⟩, List.nodup_nil⟩, fun k => rfl, fun k => rfl, fun _ _ => rfl⟩
theorem rs_init (l : List S36) : RS l 0 [] (List.replicate l.length false) [] [] [] [] [] (fun _ => []) (fun _ => []) :=
  ⟨rfl, List.length_replicate, fun j hj => by simp [List.getD_eq_getElem?_getD, hj], fun g => by unfold lastG; by_cases c : g = (0, 0) <;> simp [c, lastN, vi, get_nil], fun k => by unfold place; by_cases c : 1 ≤ k.2 <;> simp [c, firstN, vi, get_nil], fun k => by unfold place; by_cases c : 1 ≤ k.2 <;> simp [c, firstN, vi, get_nil], Nat.le_refl _, Nat.le_refl _, fun a => rfl, fun a => rfl⟩
theorem lookv_some {l : List S36} {n : Nat} {kind : Int} {k : Int × Int} {m : List ((Int × Int) × Value)} (hm : ∀ k, Mp.get k m = vi (place l n kind k)) {s : Nat} (h : place l n kind k = some s) : (if true = true then Value.tuple #[(Mp.get k m).getD (.int .i64 0), .bool (Mp.get k m).isSome] else (Mp.get k m).getD (.int .i64 0)) = .tuple #[.int .i64 (s : Int), .bool true] := by
  rw [if_pos rfl, hm, h]
  rfl
theorem lookv_none {l : List S36} {n : Nat} {kind : Int} {k : Int × Int} {m : List ((Int × Int) × Value)} (hm : ∀ k, Mp.get k m = vi (place l n kind k)) (h : place l n kind k = none) : (if true = true then Value.tuple #[(Mp.get k m).getD (.int .i64 0), .bool (Mp.get k m).isSome] else (Mp.get k m).getD (.int .i64 0)) = .tuple #[.int .i64 0, .bool false] := by
  rw [if_pos rfl, hm, h]
  rfl
theorem place_pos {l : List S36} {n : Nat} {kind : Int} {k : Int × Int} {s : Nat} (h : place l n kind k = some s) : 0 < k.2 := by
  unfold place at h
  by_cases c : 1 ≤ k.2
  · omega
  · rw [if_neg c] at h; cases h
theorem rd_done {w W : World} {l : List S36} {caps : List Int} {A Ac : Option Addr} {c cc : Nat} {va : Value} {al : List Int} {wrl : List Bool} {mt ms mr : List ((Int × Int) × Value)} {ma mb : List (Int × Value)} {cA cB : Int → List Int} {own : Nat → Option Tr}
    (h : RD w l.length (.slice A l.length c) (.slice Ac caps.length cc) va al wrl mt ms mr ma mb cA cB own W) (hs : RS l l.length al wrl mt ms mr ma mb cA cB) (hr : Kd.C k36 w A l.length l) (hc : l.length ≤ c) (hrc : Kd.C (Kd.int .i64) w Ac caps.length caps) (hcc : caps.length ≤ cc) (hn : l.length ≤ 65536) :
    FS w W.heap.size (fnd w.heap.size (.slice A l.length c) (.slice Ac caps.length cc) va) l caps (fun _ => False) (P0 l) 0 W := by
  have hlt := h.lt
  have hold : ∀ k x, own k = some x → k < W.heap.size → old (fnd w.heap.size (.slice A l.length c) (.slice Ac caps.length cc) va) W.heap.size k := fun k x hk hl => ⟨hl, fun e => by have := h.tag hk; unfold fnd at e; simp only [] at e; omega, fun e => by have := h.tag hk; unfold fnd at e; simp only [] at e; omega⟩
  refine ⟨.slice none 0 0, [], wrl, ⟨h.b, Nat.le_refl _, ⟨by unfold fnd; simp only []; omega, by unfold fnd; simp only []; omega⟩, ⟨by unfold fnd; simp only []; omega, by unfold fnd; simp only []; omega, by unfold fnd; simp only []; omega⟩, hn, ⟨A, c, rfl, hc, hr⟩, ⟨Ac, cc, rfl, hcc, hrc⟩, ?_, ?_, ⟨ms, h.hs, hs.ms⟩, ⟨mr, h.hr, hs.mr⟩, ⟨ma, h.hma.1, hs.na, fun p hp => get_of_mem h.hma.2 hp, fun a => ?_⟩, ⟨mb, h.hmb.1, hs.nb, fun p hp => get_of_mem h.hmb.2 hp, fun a => ?_⟩⟩, h.bf, h.bw, Kd.R_nil _ _ _ _ _, ⟨hs.len, fun j hj => ?_, fun a => ?_⟩, Nat.le_refl _⟩
  · rw [← hs.al]
    exact Kd.Q_mono (Kd.Q_bound h.ha) (fun k q => hold k _ q.1 q.2.2.1)
  · intro b hb
    refine ⟨?_, ?_, ?_⟩ <;> (unfold fnd at *; simp only [] at *; omega)
  · rw [← hs.ca a]
    exact (h.ra a).mono (fun k hk hl _ => hold k _ hk hl)
  · rw [← hs.cb a]
    exact (h.rb a).mono (fun k hk hl _ => hold k _ hk hl)
  · rw [hs.wr j hj]
    constructor
    · intro q
      rw [Bool.and_eq_true] at q
      exact ⟨l.length, 0, ⟨q.2, rfl, rfl⟩, by omega⟩
    · rintro ⟨f, w, ⟨q, _, _⟩, _⟩
      rw [q]
      simp [hj]
  · constructor
    · intro q; cases q
    · rintro ⟨t, a1, a2, a3, a4, ⟨_, a5, _⟩⟩
      rw [a5] at a4
      omega
theorem nob_gk' {g : S34} : decide (gk g = (0, 0)) = (g.f0 == 0 && (g.f1 == 0)) := nob_gk.symm
theorem ahead_zero {l : List S36} {i : Nat} (h : gk (E l i).f2 = (0, 0)) : ahead l i = -1 := by
  unfold ahead
  rw [ahead_lastG]
  unfold lastG
  rw [if_pos h]
  rfl
set_option maxHeartbeats 8000000 in
set_option maxRecDepth 100000 in
theorem read_calls (w : World) (l : List S36) (caps : List Int) (A Ac : Option Addr) (c cc : Nat) (hr : Kd.C k36 w A l.length l) (hc : l.length ≤ c) (hrc : Kd.C (Kd.int .i64) w Ac caps.length caps) (hcc : caps.length ≤ cc) (hn : l.length ≤ 65536) :
    Calls Try.prog 34 #[.slice A l.length c, .slice Ac caps.length cc] w fun e w' => ∃ F, e = .returned (.pointer (some ⟨F.gf, 0, none⟩)) ∧ FS w w'.heap.size F l caps (fun _ => False) (P0 l) 0 w' := by
  have hu75 := Try.underlying75
  have hu36 := Try.underlying36
  have hu22 := Try.underlying22
  have hu34 := Try.underlying34
  have hu58 := Try.underlying58
  have hu66 := Try.underlying66
  have hu72 := Try.underlying72
  have hu73 := Try.underlying73
  have hu85 := Try.underlying85
  have hu90 := Try.underlying90
  have HR := Aside0.mk hr
  have HRc := Aside0.mk hrc
  have HCC := Aside0.mk hcc
  have HC := Aside0.mk hc
  have HN := Aside0.mk hn
  have hmm := @run_makeMap Try.prog
  have hmk := make_bools l.length hn
  clear hr hc hrc hcc hn
  go_enter Try.func34, Try.ntmps34
  go_upto_region 3 with (fail)
  have HRD := Aside0.mk (rd_init w l.length (.slice A l.length c) (.slice Ac caps.length cc))
  simp only [Nat.add_assoc, Nat.reduceAdd]
  show Code.wp _ _ _ _ (w7 w l.length (.slice A l.length c) (.slice Ac caps.length cc))
  generalize w7 w l.length (.slice A l.length c) (.slice Ac caps.length cc) = wi at *
  clear hmm hmk
  go_wp2
  go_loopw [31] (fun v31 wr => ∃ i : Nat, v31 = .int .i64 (i : Int) ∧ Aside0 (i ≤ l.length) ∧ ∃ (va : Value) (al : List Int) (wrl : List Bool) (mt ms mr : List ((Int × Int) × Value)) (ma mb : List (Int × Value)) (cA cB : Int → List Int) (own : Nat → Option Tr), Aside0 (RD w l.length (.slice A l.length c) (.slice Ac caps.length cc) va al wrl mt ms mr ma mb cA cB own wr) ∧ Aside0 (RS l i al wrl mt ms mr ma mb cA cB)) (fun v31 _ => l.length - (intOf v31).toNat)
  case atStart => exact ⟨0, rfl, ⟨Nat.zero_le _⟩, _, _, _, _, _, _, _, _, _, _, _, HRD, ⟨rs_init l⟩⟩
  case round =>
    clear HRD
    obtain ⟨i, rfl, HI, va, al, wrl, mt, ms, mr, ma, mb, cA, cB, own, HD, HSp⟩ := hrel
    by_cases hlt : (i : Int) < (l.length : Int)
    · have hi0 : (0 : Int) ≤ (i : Int) := by omega
      have hil : i < l.length := by omega
      have HIL := Aside0.mk hil
      have HW := Aside0.mk (wrap_succ hil HN.out)
      have HLT := Aside0.mk hlt
      obtain ⟨x, HX⟩ : ∃ x, Aside0 (E l i = x) := ⟨_, ⟨rfl⟩⟩
      obtain ⟨ad, e1, hx0, hx1, hx2, hx3, hx4, hx5, hx6, hx7⟩ := at_ev HR.out HD.out.b hil HX.out
      cases e1
      clear hil
      obtain ⟨bz, hbz⟩ : ∃ bz, (x.f2.f0 == 0 && (x.f2.f1 == 0)) = bz := ⟨_, rfl⟩
      go_upto_if 39 with (first
      | ((with_reducible refine gate_dst (N := 8) rfl ?_); refine box_event ?hg (N := 8) ?hd (cs := zE) (t := 36) ?hr ?_; (case hd => rfl); (case hg => rfl); (case hr => first | (go_simp; done) | (go_simp; rfl)); intro bl hbl w5 hbox hb; have HB5 := Aside0.mk hb; have BK5 := Aside0.mk hbox; have HBL := Aside0.mk (show wr.heap.size ≤ bl by omega); clear hb hbox hbl hx0 hx1 hx2 hx3 hx4 hx5 hx6 hx7)
      | ((with_reducible refine gate_store (t := 36) (p := 8) (v := .tmp 35) rfl ?_); refine step_store rfl rfl rfl BK5.out rfl (u := .agg (cE x)) (seg := (cE x).toList) rfl rfl (by kernel_rfl) (by simp [Value.oneCell']) (Nat.le_refl 8) (cur' := cE x) rfl ?_; intro w6 hb6 hg6 hs6; have HB6 := Aside0.mk (below_mput HB5.out hg6 (show wr.heap.size ≤ bl by have := HBL.out; omega) HB5.out.size); have BX := Aside0.mk hb6; have n2 : w6.cell? ⟨bl, 2, none⟩ = some (.int .i64 x.f2.f0) := (blk_cell hb6 2).trans rfl; have n3 : w6.cell? ⟨bl, 3, none⟩ = some (.int .i64 x.f2.f1) := (blk_cell hb6 3).trans rfl; clear hb6 hg6 hs6 BK5 HB5))
      have HD6 := Aside0.mk (HD.out.below HB6.out)
      go_cut [9] (fun v9 wc => ∃ (mt2 : List ((Int × Int) × Value)), v9 = .int .i64 (ahead l i) ∧ Aside0 (RD w l.length (.slice (some ad) l.length c) (.slice Ac caps.length cc) va al wrl mt2 ms mr ma mb cA cB own wc) ∧ Aside0 (RH l i (al ++ [ahead l i]) wrl mt2 ms mr ma mb cA cB) ∧ Aside0 (wc.heap[bl]? = some (.cells (cE x) 36 (0, 0))))
      case first =>
        have hlk : ∀ (o : Option Nat), lastG l i (gk x.f2) = o → (Instr.lookup 85 (.map (some (w.heap.size + 6))) (.agg #[.int .i64 x.f2.f0, .int .i64 x.f2.f1]) true).run Try.prog w6 = .ok (.tuple #[(vi o).getD (.int .i64 0), .bool (vi o).isSome]) w6 := fun o ho => by
          have := run_look keyG Try.underlying85 (zero3 w6) HD6.out.ht (gk x.f2) true
          rw [if_pos rfl, HSp.out.mt, ho] at this
          exact this
        by_cases hg : gk x.f2 = (0, 0)
        · have HG := Aside0.mk hg
          have hb : bz = true := by rw [← hbz, ← nob_gk'] ; simp [hg]
          subst hb
          clear hlk hg
          go_wp2
          go_meet
          case rel => exact ⟨mt, by rw [ahead_zero (by rw [HX.out]; exact HG.out)], HD6, ⟨by rw [ahead_zero (by rw [HX.out]; exact HG.out)]; exact HSp.out.nobody (by rw [HX.out]; exact HG.out)⟩, BX⟩
        · have HG := Aside0.mk hg
          have hb : bz = false := by rw [← hbz, ← nob_gk']; simp [hg]
          subst hb
          clear hg
          obtain ⟨w7, l1, hm7, hg7, hs7⟩ := run_put keyG Try.underlying85 HD6.out.ht (gk x.f2) (.int .i64 (i : Int))
          have HD7 := Aside0.mk (HD6.out.last hm7 hg7)
          have BX7 := Aside0.mk (blk_grown BX.out hg7 (not_map BX.out HD6.out.ht))
          have HH7 := Aside0.mk (HSp.out.somebody (by rw [HX.out]; exact HG.out))
          rw [HX.out] at HH7
          replace l1 : (Instr.mapUpdate 85 (.map (some (w.heap.size + 6))) (.agg #[.int .i64 x.f2.f0, .int .i64 x.f2.f1]) (.int .i64 (i : Int))).run Try.prog w6 = .ok () w7 := l1
          clear hm7 hg7 hs7
          have hah : ahead l i = oi (lastG l i (gk x.f2)) := by unfold ahead; rw [ahead_lastG, HX.out]
          have HAH := Aside0.mk hah
          clear hah
          cases hlast : lastG l i (gk x.f2) with
          | none =>
            have l0 := hlk none hlast
            have HLa := Aside0.mk hlast
            simp only [vi, Option.map_none, Option.getD_none, Option.isSome_none] at l0
            clear hlk hlast
            go_wp2
            go_meet
            case rel => exact ⟨_, by rw [HAH.out, HLa.out]; rfl, HD7, ⟨by rw [HAH.out]; exact HH7.out⟩, BX7⟩
          | some k =>
            have l0 := hlk (some k) hlast
            have HLa := Aside0.mk hlast
            simp only [vi, Option.map_some, Option.getD_some, Option.isSome_some] at l0
            clear hlk hlast
            go_wp2
            go_meet
            case rel => exact ⟨_, by rw [HAH.out, HLa.out]; rfl, HD7, ⟨by rw [HAH.out]; exact HH7.out⟩, BX7⟩
      case rest =>
        clear n2 n3 BX HD6 hbz
        obtain ⟨mt2, rfl, HD7, HH7, BX7⟩ := hcut
        obtain ⟨az, HAZ⟩ : ∃ az, Aside0 (ahead l i = az) := ⟨_, ⟨rfl⟩⟩
        rw [HAZ.out] at HH7 ⊢
        have d2 : wc.cell? ⟨w.heap.size + 5, 2, none⟩ = some va := (blk_cell HD7.out.bf 2).trans rfl
        go_upto_region 13 with ((with_reducible refine gate_builtin (b := .append) (xs := #[.tmp 57, .tmp 59]) rfl ?_); at_builtin; refine Kd.Q_append (Kd.int .i64) (w0 := wc) (W := wc) w.heap.size rfl (.tmp 57) (.tmp 59) 58 3 (.int .i64 0) 8 rfl Try.underlying58 info3 rfl (by decide) (by decide) va al az [.int .i64 az] (fun q => reown own wc.heap.size (some Tr.a) q = some Tr.a) (fun _ => False) rfl rfl ?aP (fun _ h => h.elim) ?aF ?aO (Below.refl _ _) ?aS ?aL ?_; (case aP => exact rfl); (case aF => exact fun k hk => by unfold reown; rw [if_neg (by omega)]); (case aO => exact (HD7.out.reown (some Tr.a)).ha); (case aS => exact HD7.out.b.size); (case aL => rw [HSp.out.al]; unfold aheads; rw [List.length_map, List.length_range]; have h1 := HN.out; have h2 := HIL.out; omega); intro v1 w8 hrow hb8 hg8 hat; obtain ⟨A8, n8, c8, rfl⟩ : ∃ A n c, v1 = .slice A n c := (by obtain ⟨A, c, e, _⟩ := Kd.Q_slice hrow; exact ⟨A, _, c, e⟩); have HRow := Aside0.mk hrow; have HG8 := Aside0.mk hg8; have hne : some (w.heap.size + 5) ≠ va.ownBlock := (fun e => by have := HD7.out.tag (HD7.out.ha.1 _ e.symm); omega); have BF8 := Aside0.mk (blk_grown HD7.out.bf hg8 hne); have BX8 := Aside0.mk (blk_grown BX7.out hg8 (Kd.Q_ne HD7.out.ha BX7.out (by decide))); clear hrow hb8 hg8 hat hne d2; have z2 : w8.frozen? ⟨w.heap.size + 5, 2, none⟩ = false := blk_frozen BF8.out 2; have d2 : w8.cell? ⟨w.heap.size + 5, 2, none⟩ = some va := (blk_cell BF8.out 2).trans rfl)
        have HD9 := Aside0.mk (HD7.out.ahead HG8.out HRow.out)
        have BX9 := Aside0.mk (blk_far BX8.out (p := ⟨w.heap.size + 5, 2, none⟩) (blk_ne BX8.out BF8.out (by decide)) (.slice A8 n8 c8))
        clear d2 z2 HRow HG8 BX8 BF8 BX7 HD7
        generalize w8.setCell ⟨w.heap.size + 5, 2, none⟩ (.slice A8 n8 c8) = w9 at *
        obtain ⟨own9, HO9⟩ : ∃ o, Aside0 (reown own wc.heap.size (some Tr.a) = o) := ⟨_, ⟨rfl⟩⟩
        rw [HO9.out] at HD9
        obtain ⟨al9, HA9⟩ : ∃ o, Aside0 (al ++ [az] = o) := ⟨_, ⟨rfl⟩⟩
        rw [HA9.out] at HD9 HH7
        clear HO9 HSp
        have n5 : w9.cell? ⟨bl, 5, none⟩ = some (.int .i64 x.f4) := (blk_cell BX9.out 5).trans rfl
        have n6 : w9.cell? ⟨bl, 6, none⟩ = some (.int .i64 x.f5) := (blk_cell BX9.out 6).trans rfl
        go_upto_region 14 with (first
          | ((with_reducible refine gate_dst (N := 12) rfl ?_); refine box_event ?hg (N := 12) ?hd (cs := #[.int .i64 0, .int .i64 0]) (t := 90) ?hr ?_; (case hd => rfl); (case hg => rfl); (case hr => first | (go_simp; done) | (go_simp; rfl)); intro bk hbk w10 hbox hb; have HB10a := Aside0.mk hb; have BK10 := Aside0.mk hbox; have HBK := Aside0.mk (show w9.heap.size ≤ bk by omega); clear hb hbox hbk n5 n6)
          | ((with_reducible refine gate_store (t := 90) (p := 12) (v := .tmp 67) rfl ?_); refine step_store rfl rfl rfl BK10.out rfl (u := .agg #[.int .i64 x.f4, .int .i64 x.f5]) (seg := [.int .i64 x.f4, .int .i64 x.f5]) rfl rfl (by kernel_rfl) (by simp [Value.oneCell']) (Nat.le_refl 2) (cur' := #[.int .i64 x.f4, .int .i64 x.f5]) rfl ?_; intro w11 hb11 hg11 hs11; have HB11 := Aside0.mk (below_mput HB10a.out hg11 HBK.out HB10a.out.size); have BK := Aside0.mk hb11; clear hb11 hg11 hs11 BK10 HB10a))
        have HD11 := Aside0.mk (HD9.out.below HB11.out)
        have BX11 := Aside0.mk (blk_below BX9.out HB11.out)
        have k0 : w11.cell? ⟨bk, 0, none⟩ = some (.int .i64 x.f4) := (blk_cell BK.out 0).trans rfl
        have k1 : w11.cell? ⟨bk, 1, none⟩ = some (.int .i64 x.f5) := (blk_cell BK.out 1).trans rfl
        obtain ⟨kd, HKD⟩ : ∃ kd, Aside0 (x.f3 = kd) := ⟨_, ⟨rfl⟩⟩
        have n4 : w11.cell? ⟨bl, 4, none⟩ = some (.int .i64 kd) := by rw [← HKD.out]; exact (blk_cell BX11.out 4).trans rfl
        have n5 : w11.cell? ⟨bl, 5, none⟩ = some (.int .i64 x.f4) := (blk_cell BX11.out 5).trans rfl
        have n6 : w11.cell? ⟨bl, 6, none⟩ = some (.int .i64 x.f5) := (blk_cell BX11.out 6).trans rfl
        have d3 : w11.cell? ⟨w.heap.size + 5, 3, none⟩ = some (.map (some w.heap.size)) := (blk_cell HD11.out.bf 3).trans rfl
        have d4 : w11.cell? ⟨w.heap.size + 5, 4, none⟩ = some (.map (some (w.heap.size + 1))) := (blk_cell HD11.out.bf 4).trans rfl
        have d5 : w11.cell? ⟨w.heap.size + 5, 5, none⟩ = some (.slice (some ⟨w.heap.size + 2, 0, none⟩) l.length l.length) := (blk_cell HD11.out.bf 5).trans rfl
        have d6 : w11.cell? ⟨w.heap.size + 5, 6, none⟩ = some (.map (some (w.heap.size + 3))) := (blk_cell HD11.out.bf 6).trans rfl
        have d7 : w11.cell? ⟨w.heap.size + 5, 7, none⟩ = some (.map (some (w.heap.size + 4))) := (blk_cell HD11.out.bf 7).trans rfl
        have dw : w11.cell? ⟨w.heap.size + 2, i, none⟩ = some (.bool (wrl.getD i false)) := (blk_cell HD11.out.bw i).trans (wr_get (by rw [HH7.out.len]; exact HIL.out))
        have zw : w11.frozen? ⟨w.heap.size + 2, i, none⟩ = false := blk_frozen HD11.out.bw i
        have BKB := Aside0.mk BK.out
        clear HD9 BX9 BK
        by_cases k16 : kd = 16
        · subst k16
          go_upto_region 16 with (fail)
          cases hp : place l i 16 (x.f4, x.f5) with
          | some s =>
            have HP := Aside0.mk hp
            go_still_tail 10, (by kernel_rfl)
            refine still_value (W := w11.drew) rfl (exec_look (ok := true) (v := .tuple #[.int .i64 (s : Int), .bool true]) keyK Try.underlying72 rfl (zero3 _) HD11.out.hs.drew (x.f4, x.f5) rfl rfl (lookv_some HH7.out.ms hp)) ?_
            repeat still_step
            refine wpStill_nil ?_
            change wpList _ _ _ _ _ w11.drew
            have HD12 := Aside0.mk (HD11.out.below (below_drew (Below.refl _ _)))
            have BX12 := Aside0.mk (blk_below BX11.out (below_drew (Below.refl _ _)))
            have BK12 := Aside0.mk (blk_below BKB.out (below_drew (Below.refl _ _)))
            clear d3 d4 d5 d6 d7 dw zw n4 n5 n6 k0 k1
            clear hp HD11 BX11 BKB
            generalize w11.drew = w12 at *
            have n6 : w12.cell? ⟨bl, 6, none⟩ = some (.int .i64 x.f5) := (blk_cell BX12.out 6).trans rfl
            have d5 : w12.cell? ⟨w.heap.size + 5, 5, none⟩ = some (.slice (some ⟨w.heap.size + 2, 0, none⟩) l.length l.length) := (blk_cell HD12.out.bf 5).trans rfl
            have dw : w12.cell? ⟨w.heap.size + 2, i, none⟩ = some (.bool (wrl.getD i false)) := (blk_cell HD12.out.bw i).trans (wr_get (by rw [HH7.out.len]; exact HIL.out))
            have zw : w12.frozen? ⟨w.heap.size + 2, i, none⟩ = false := blk_frozen HD12.out.bw i
            go_wp2
            have HM := Aside0.mk (HD12.out.mark i)
            go_roundw
            case rel => exact ⟨i + 1, by rw [HW.out], ⟨HIL.out⟩, _, _, _, _, _, _, _, _, _, _, _, ⟨HM.out⟩, ⟨HH7.out.sendBad HIL.out (by rw [HX.out]; exact HKD.out) (.inr (by rw [HX.out, HP.out]; rfl))⟩⟩
            case measure => exact meas_lt (Int.ofNat_lt.1 HLT.out) HW.out
          | none =>
            have HP := Aside0.mk hp
            go_still_tail 10, (by kernel_rfl)
            refine still_value (W := w11.drew) rfl (exec_look (ok := true) (v := .tuple #[.int .i64 0, .bool false]) keyK Try.underlying72 rfl (zero3 _) HD11.out.hs.drew (x.f4, x.f5) rfl rfl (lookv_none HH7.out.ms hp)) ?_
            repeat still_step
            refine wpStill_nil ?_
            change wpList _ _ _ _ _ w11.drew
            have HD12 := Aside0.mk (HD11.out.below (below_drew (Below.refl _ _)))
            have BX12 := Aside0.mk (blk_below BX11.out (below_drew (Below.refl _ _)))
            have BK12 := Aside0.mk (blk_below BKB.out (below_drew (Below.refl _ _)))
            clear d3 d4 d5 d6 d7 dw zw n4 n5 n6 k0 k1
            clear hp HD11 BX11 BKB
            generalize w11.drew = w12 at *
            have n6 : w12.cell? ⟨bl, 6, none⟩ = some (.int .i64 x.f5) := (blk_cell BX12.out 6).trans rfl
            have d5 : w12.cell? ⟨w.heap.size + 5, 5, none⟩ = some (.slice (some ⟨w.heap.size + 2, 0, none⟩) l.length l.length) := (blk_cell HD12.out.bf 5).trans rfl
            have dw : w12.cell? ⟨w.heap.size + 2, i, none⟩ = some (.bool (wrl.getD i false)) := (blk_cell HD12.out.bw i).trans (wr_get (by rw [HH7.out.len]; exact HIL.out))
            have zw : w12.frozen? ⟨w.heap.size + 2, i, none⟩ = false := blk_frozen HD12.out.bw i
            by_cases hz : x.f5 < 1
            · have HZ := Aside0.mk hz
              have hz1 : decide (x.f5 < 1) = true := decide_eq_true hz
              go_wp2
              have HM := Aside0.mk (HD12.out.mark i)
              go_roundw
              case rel => exact ⟨i + 1, by rw [HW.out], ⟨HIL.out⟩, _, _, _, _, _, _, _, _, _, _, _, ⟨HM.out⟩, ⟨HH7.out.sendBad HIL.out (by rw [HX.out]; exact HKD.out) (.inl (by rw [HX.out]; exact HZ.out))⟩⟩
              case measure => exact meas_lt (Int.ofNat_lt.1 HLT.out) HW.out
            · have HZ := Aside0.mk (show 1 ≤ x.f5 by omega)
              have hz1 : decide (x.f5 < 1) = false := decide_eq_false hz
              have k0 : w12.cell? ⟨bk, 0, none⟩ = some (.int .i64 x.f4) := (blk_cell BK12.out 0).trans rfl
              have k1 : w12.cell? ⟨bk, 1, none⟩ = some (.int .i64 x.f5) := (blk_cell BK12.out 1).trans rfl
              have dq : w12.cell? ⟨w.heap.size + 5, 3, none⟩ = some (.map (some (w.heap.size))) := (blk_cell HD12.out.bf 3).trans rfl
              go_upto_region 19 with (fail)
              go_still_tail 6, (by kernel_rfl)
              change wpList _ _ _ _ _ w12.drew
              have HD13 := Aside0.mk (HD12.out.below (below_drew (Below.refl _ _)))
              clear k0 k1 dq n6 d5 dw zw HD12 BX12 BK12
              generalize w12.drew = w13 at *
              refine step_put keyK Try.underlying72 rfl rfl HD13.out.hs (x.f4, x.f5) (.int .i64 (i : Int)) rfl rfl rfl ?_
              intro w14 hm hg hs
              have HD14 := Aside0.mk (HD13.out.send hm hg)
              clear hm hg hs
              go_wp2
              go_roundw
              case rel => exact ⟨i + 1, by rw [HW.out], ⟨HIL.out⟩, _, _, _, _, _, _, _, _, _, _, _, ⟨HD14.out⟩, ⟨by have := HH7.out.send (by rw [HX.out]; exact HKD.out) (by rw [HX.out]; exact HZ.out) (by rw [HX.out]; exact HP.out); rw [HX.out] at this; exact this⟩⟩
              case measure => exact meas_lt (Int.ofNat_lt.1 HLT.out) HW.out
        · have q16 : (kd == 16) = false := by simp [k16]
          by_cases k17 : kd = 17
          · subst k17
            clear q16 k16
            go_upto_region 21 with (fail)
            cases hp : place l i 17 (x.f4, x.f5) with
            | some s =>
              have HP := Aside0.mk hp
              go_still_tail 10, (by kernel_rfl)
              refine still_value (W := w11.drew) rfl (exec_look (ok := true) (v := .tuple #[.int .i64 (s : Int), .bool true]) keyK Try.underlying72 rfl (zero3 _) HD11.out.hr.drew (x.f4, x.f5) rfl rfl (lookv_some HH7.out.mr hp)) ?_
              repeat still_step
              refine wpStill_nil ?_
              change wpList _ _ _ _ _ w11.drew
              have HD12 := Aside0.mk (HD11.out.below (below_drew (Below.refl _ _)))
              have BX12 := Aside0.mk (blk_below BX11.out (below_drew (Below.refl _ _)))
              have BK12 := Aside0.mk (blk_below BKB.out (below_drew (Below.refl _ _)))
              clear d3 d4 d5 d6 d7 dw zw n4 n5 n6 k0 k1
              clear hp HD11 BX11 BKB
              generalize w11.drew = w12 at *
              have n6 : w12.cell? ⟨bl, 6, none⟩ = some (.int .i64 x.f5) := (blk_cell BX12.out 6).trans rfl
              have d5 : w12.cell? ⟨w.heap.size + 5, 5, none⟩ = some (.slice (some ⟨w.heap.size + 2, 0, none⟩) l.length l.length) := (blk_cell HD12.out.bf 5).trans rfl
              have dw : w12.cell? ⟨w.heap.size + 2, i, none⟩ = some (.bool (wrl.getD i false)) := (blk_cell HD12.out.bw i).trans (wr_get (by rw [HH7.out.len]; exact HIL.out))
              have zw : w12.frozen? ⟨w.heap.size + 2, i, none⟩ = false := blk_frozen HD12.out.bw i
              have HZ := Aside0.mk (show 0 < x.f5 from place_pos HP.out)
              have hz := HZ.out
              have hz1 : decide (x.f5 < 0) = false := decide_eq_false (by omega)
              have hz2 : decide (0 < x.f5) = true := decide_eq_true hz
              have hz3 : ¬ x.f5 < 0 := by omega
              go_wp2
              have HM := Aside0.mk (HD12.out.mark i)
              go_roundw
              case rel => exact ⟨i + 1, by rw [HW.out], ⟨HIL.out⟩, _, _, _, _, _, _, _, _, _, _, _, ⟨HM.out⟩, ⟨HH7.out.recvBad HIL.out (by rw [HX.out]; exact HKD.out) (.inr ⟨(by rw [HX.out]; exact HZ.out), by rw [HX.out, HP.out]; rfl⟩)⟩⟩
              case measure => exact meas_lt (Int.ofNat_lt.1 HLT.out) HW.out
            | none =>
              have HP := Aside0.mk hp
              go_still_tail 10, (by kernel_rfl)
              refine still_value (W := w11.drew) rfl (exec_look (ok := true) (v := .tuple #[.int .i64 0, .bool false]) keyK Try.underlying72 rfl (zero3 _) HD11.out.hr.drew (x.f4, x.f5) rfl rfl (lookv_none HH7.out.mr hp)) ?_
              repeat still_step
              refine wpStill_nil ?_
              change wpList _ _ _ _ _ w11.drew
              have HD12 := Aside0.mk (HD11.out.below (below_drew (Below.refl _ _)))
              have BX12 := Aside0.mk (blk_below BX11.out (below_drew (Below.refl _ _)))
              have BK12 := Aside0.mk (blk_below BKB.out (below_drew (Below.refl _ _)))
              clear d3 d4 d5 d6 d7 dw zw n4 n5 n6 k0 k1
              clear hp HD11 BX11 BKB
              generalize w11.drew = w12 at *
              have n6 : w12.cell? ⟨bl, 6, none⟩ = some (.int .i64 x.f5) := (blk_cell BX12.out 6).trans rfl
              have d5 : w12.cell? ⟨w.heap.size + 5, 5, none⟩ = some (.slice (some ⟨w.heap.size + 2, 0, none⟩) l.length l.length) := (blk_cell HD12.out.bf 5).trans rfl
              have dw : w12.cell? ⟨w.heap.size + 2, i, none⟩ = some (.bool (wrl.getD i false)) := (blk_cell HD12.out.bw i).trans (wr_get (by rw [HH7.out.len]; exact HIL.out))
              have zw : w12.frozen? ⟨w.heap.size + 2, i, none⟩ = false := blk_frozen HD12.out.bw i
              by_cases hz : x.f5 < 0
              · have HZ := Aside0.mk hz
                have hz1 : decide (x.f5 < 0) = true := decide_eq_true hz
                go_wp2
                have HM := Aside0.mk (HD12.out.mark i)
                go_roundw
                case rel => exact ⟨i + 1, by rw [HW.out], ⟨HIL.out⟩, _, _, _, _, _, _, _, _, _, _, _, ⟨HM.out⟩, ⟨HH7.out.recvBad HIL.out (by rw [HX.out]; exact HKD.out) (.inl (by rw [HX.out]; exact HZ.out))⟩⟩
                case measure => exact meas_lt (Int.ofNat_lt.1 HLT.out) HW.out
              · have hz1 : decide (x.f5 < 0) = false := decide_eq_false hz
                by_cases hy : 0 < x.f5
                · have HZ := Aside0.mk hy
                  have hz2 : decide (0 < x.f5) = true := decide_eq_true hy
                  have k0 : w12.cell? ⟨bk, 0, none⟩ = some (.int .i64 x.f4) := (blk_cell BK12.out 0).trans rfl
                  have k1 : w12.cell? ⟨bk, 1, none⟩ = some (.int .i64 x.f5) := (blk_cell BK12.out 1).trans rfl
                  have dq : w12.cell? ⟨w.heap.size + 5, 4, none⟩ = some (.map (some (w.heap.size + 1))) := (blk_cell HD12.out.bf 4).trans rfl
                  go_upto_region 25 with (fail)
                  go_still_tail 6, (by kernel_rfl)
                  change wpList _ _ _ _ _ w12.drew
                  have HD13 := Aside0.mk (HD12.out.below (below_drew (Below.refl _ _)))
                  clear k0 k1 dq n6 d5 dw zw HD12 BX12 BK12
                  generalize w12.drew = w13 at *
                  refine step_put keyK Try.underlying72 rfl rfl HD13.out.hr (x.f4, x.f5) (.int .i64 (i : Int)) rfl rfl rfl ?_
                  intro w14 hm hg hs
                  have HD14 := Aside0.mk (HD13.out.recv hm hg)
                  clear hm hg hs
                  go_wp2
                  go_roundw
                  case rel => exact ⟨i + 1, by rw [HW.out], ⟨HIL.out⟩, _, _, _, _, _, _, _, _, _, _, _, ⟨HD14.out⟩, ⟨by have := HH7.out.recv (by rw [HX.out]; exact HKD.out) (by rw [HX.out]; exact HZ.out) (by rw [HX.out]; exact HP.out); rw [HX.out] at this; exact this⟩⟩
                  case measure => exact meas_lt (Int.ofNat_lt.1 HLT.out) HW.out
                · have HZ := Aside0.mk (show x.f5 = 0 by omega)
                  have hz2 : decide (0 < x.f5) = false := decide_eq_false hy
                  have hz3 : x.f5 = 0 := HZ.out
                  go_wp2
                  go_roundw
                  case rel => exact ⟨i + 1, by rw [HW.out], ⟨HIL.out⟩, _, _, _, _, _, _, _, _, _, _, _, ⟨HD12.out⟩, ⟨HH7.out.recv0 (by rw [HX.out]; exact HKD.out) (by rw [HX.out]; exact HZ.out)⟩⟩
                  case measure => exact meas_lt (Int.ofNat_lt.1 HLT.out) HW.out
          · have q17 : (kd == 17) = false := by simp [k17]
            by_cases k26 : kd = 26
            · subst k26
              obtain ⟨v, hv⟩ : ∃ v, (Mp.get x.f4 ma).getD (.slice none 0 0) = v := ⟨_, rfl⟩
              have hrow := (HD11.out.ra x.f4).val
              rw [hv] at hrow
              obtain ⟨A2, c2, rfl, hc2⟩ := Kd.Q_slice hrow
              obtain ⟨ln, hln⟩ : ∃ ln, (cA x.f4).length = ln := ⟨_, rfl⟩
              rw [hln] at hrow hv
              have HLn := Aside0.mk (show ln ≤ i by rw [← hln, HH7.out.ca, castN, List.length_map]; exact idx_len _ _ _ _)
              have HRow := Aside0.mk (Kd.Q_below hrow (below_drew (Below.refl _ _)))
              have HD12 := Aside0.mk (HD11.out.below (below_drew (Below.refl _ _)))
              have hlook : ∀ W2 : World, Below w11.heap.size w11 W2 → (Instr.lookup 73 (.map (some (w.heap.size + 3))) (.int .i64 x.f4) false).run Try.prog W2 = .ok (.slice A2 ln c2) W2 := fun W2 hb => by
                have := run_look keyL Try.underlying73 (zero58 W2) (HD11.out.hma.1.of.below hb) x.f4 false
                rw [if_neg (by simp), hv] at this
                exact this
              have l1 := hlook w11.drew (below_drew (Below.refl _ _))
              have l2 := hlook (w11.alloc (.cells #[.int .i64 (i : Int)] 3)).drew (below_drew (below_alloc (Below.refl _ _) _))
              have HNE := Aside0.mk (show some bl ≠ (Value.slice A2 ln c2).ownBlock from Kd.Q_ne hrow BX11.out (by decide))
              have HNG := Aside0.mk (show some (w.heap.size + 5) ≠ (Value.slice A2 ln c2).ownBlock from Kd.Q_ne hrow HD11.out.bf (by decide))
              have HLL := Aside0.mk hln
              clear hlook hrow hv hln hc2
              go_upto_region 27 with (fail)
              go_region_held_law (fun w' => w'.cell? ⟨w.heap.size + 5, 6, none⟩ = some (.map (some (w.heap.size + 3))) ∧ w'.cell? ⟨bl, 5, none⟩ = some (.int .i64 x.f4)) (first | exact ⟨d6, n5⟩ | exact ⟨pw_cell_below (below_alloc (Below.refl _ _) _) d6, pw_cell_below (below_alloc (Below.refl _ _) _) n5⟩ | exact ⟨e1, e2⟩ | exact ⟨e3, e4⟩) (first
                | (refine Kd.Q_append_step (Kd.int .i64) (w0 := w11) (W := w11.drew) w.heap.size ?q0 (.tmp 150) (.tmp 152) 58 3 (.int .i64 0) 8 ?q3 Try.underlying58 info3 rfl (by decide) (by decide) (.slice A2 ln c2) (cA x.f4) (i : Int) [.int .i64 (i : Int)] (fun k => reown own9 w11.drew.heap.size (some (Tr.q x.f4)) k = some (Tr.q x.f4)) (fun _ => False) ?q1 ?q2 ?q4 (fun _ h => h.elim) ?aF ?aO ?aB ?aS ?aL ?_; (case q0 => rfl); (case q1 => rfl); (case q2 => rfl); (case q3 => rfl); (case q4 => exact rfl); (case aF => exact fun k hk => by unfold reown; rw [if_neg (by omega)]); (case aO => exact Kd.Q_mono (Kd.Q_bound HRow.out) (fun k q => by unfold reown; rw [if_pos q.2.2.1]; exact q.1)); (case aB => exact below_drew (Below.refl _ _)); (case aS => exact HD12.out.b.size); (case aL => rw [HLL.out]; exact (by have h1 := HLn.out; have h2 := HIL.out; have h3 := HN.out; omega)); intro v1 w12 hrow hb7 hg7 hat; have hm7 := HD12.out.hma.1.grown hg7 (map_ne HD12.out.hma.1.of HRow.out); obtain ⟨w13, l3, hm8, hg8, hs8⟩ := run_putS keyL Try.underlying73 hm7 x.f4 v1; have BX12 := blk_grown (blk_drew BX11.out) hg7 HNE.out; have BF12 := blk_grown HD12.out.bf hg7 HNG.out; have e1 : w12.cell? ⟨w.heap.size + 5, 6, none⟩ = some (.map (some (w.heap.size + 3))) := (blk_cell BF12 6).trans rfl; have e2 : w12.cell? ⟨bl, 5, none⟩ = some (.int .i64 x.f4) := (blk_cell BX12 5).trans rfl; have e3 : w13.cell? ⟨w.heap.size + 5, 6, none⟩ = some (.map (some (w.heap.size + 3))) := (blk_cell (blk_grown BF12 hg8 (not_map BF12 hm7.of)) 6).trans rfl; have e4 : w13.cell? ⟨bl, 5, none⟩ = some (.int .i64 x.f4) := (blk_cell (blk_grown BX12 hg8 (not_map BX12 hm7.of)) 5).trans rfl))
              all_goals
                have HD14 := Aside0.mk (HD12.out.acq HRow.out hg7 hrow hm8 hg8)
                clear l1 l2 l3 hrow hb7 hg7 hat hm7 hm8 hg8 hs8 BX12 BF12 e1 e2 e3 e4 d3 d4 d5 d6 d7 dw zw n4 n5 n6 k0 k1
                go_wp2
                go_roundw
                case rel => exact ⟨i + 1, by rw [HW.out], ⟨HIL.out⟩, _, _, _, _, _, _, _, _, _, _, _, ⟨HD14.out⟩, ⟨by have := HH7.out.acq (by rw [HX.out]; exact HKD.out) v1; rw [HX.out] at this; exact this⟩⟩
                case measure => exact meas_lt (Int.ofNat_lt.1 HLT.out) HW.out
            · have q26 : (kd == 26) = false := by simp [k26]
              by_cases k27 : kd = 27
              · subst k27
                obtain ⟨v, hv⟩ : ∃ v, (Mp.get x.f4 mb).getD (.slice none 0 0) = v := ⟨_, rfl⟩
                have hrow := (HD11.out.rb x.f4).val
                rw [hv] at hrow
                obtain ⟨A2, c2, rfl, hc2⟩ := Kd.Q_slice hrow
                obtain ⟨ln, hln⟩ : ∃ ln, (cB x.f4).length = ln := ⟨_, rfl⟩
                rw [hln] at hrow hv
                have HLn := Aside0.mk (show ln ≤ i by rw [← hln, HH7.out.cb, castN, List.length_map]; exact idx_len _ _ _ _)
                have HRow := Aside0.mk (Kd.Q_below hrow (below_drew (Below.refl _ _)))
                have HD12 := Aside0.mk (HD11.out.below (below_drew (Below.refl _ _)))
                have hlook : ∀ W2 : World, Below w11.heap.size w11 W2 → (Instr.lookup 73 (.map (some (w.heap.size + 4))) (.int .i64 x.f4) false).run Try.prog W2 = .ok (.slice A2 ln c2) W2 := fun W2 hb => by
                  have := run_look keyL Try.underlying73 (zero58 W2) (HD11.out.hmb.1.of.below hb) x.f4 false
                  rw [if_neg (by simp), hv] at this
                  exact this
                have l1 := hlook w11.drew (below_drew (Below.refl _ _))
                have l2 := hlook (w11.alloc (.cells #[.int .i64 (i : Int)] 3)).drew (below_drew (below_alloc (Below.refl _ _) _))
                have HNE := Aside0.mk (show some bl ≠ (Value.slice A2 ln c2).ownBlock from Kd.Q_ne hrow BX11.out (by decide))
                have HNG := Aside0.mk (show some (w.heap.size + 5) ≠ (Value.slice A2 ln c2).ownBlock from Kd.Q_ne hrow HD11.out.bf (by decide))
                have HLL := Aside0.mk hln
                clear hlook hrow hv hln hc2
                go_upto_region 29 with (fail)
                go_region_held_law (fun w' => w'.cell? ⟨w.heap.size + 5, 7, none⟩ = some (.map (some (w.heap.size + 4))) ∧ w'.cell? ⟨bl, 5, none⟩ = some (.int .i64 x.f4)) (first | exact ⟨d7, n5⟩ | exact ⟨pw_cell_below (below_alloc (Below.refl _ _) _) d7, pw_cell_below (below_alloc (Below.refl _ _) _) n5⟩ | exact ⟨e1, e2⟩ | exact ⟨e3, e4⟩) (first
                  | (refine Kd.Q_append_step (Kd.int .i64) (w0 := w11) (W := w11.drew) w.heap.size ?q0 (.tmp 168) (.tmp 170) 58 3 (.int .i64 0) 8 ?q3 Try.underlying58 info3 rfl (by decide) (by decide) (.slice A2 ln c2) (cB x.f4) (i : Int) [.int .i64 (i : Int)] (fun k => reown own9 w11.drew.heap.size (some (Tr.r x.f4)) k = some (Tr.r x.f4)) (fun _ => False) ?q1 ?q2 ?q4 (fun _ h => h.elim) ?aF ?aO ?aB ?aS ?aL ?_; (case q0 => rfl); (case q1 => rfl); (case q2 => rfl); (case q3 => rfl); (case q4 => exact rfl); (case aF => exact fun k hk => by unfold reown; rw [if_neg (by omega)]); (case aO => exact Kd.Q_mono (Kd.Q_bound HRow.out) (fun k q => by unfold reown; rw [if_pos q.2.2.1]; exact q.1)); (case aB => exact below_drew (Below.refl _ _)); (case aS => exact HD12.out.b.size); (case aL => rw [HLL.out]; exact (by have h1 := HLn.out; have h2 := HIL.out; have h3 := HN.out; omega)); intro v1 w12 hrow hb7 hg7 hat; have hm7 := HD12.out.hmb.1.grown hg7 (map_ne HD12.out.hmb.1.of HRow.out); obtain ⟨w13, l3, hm8, hg8, hs8⟩ := run_putS keyL Try.underlying73 hm7 x.f4 v1; have BX12 := blk_grown (blk_drew BX11.out) hg7 HNE.out; have BF12 := blk_grown HD12.out.bf hg7 HNG.out; have e1 : w12.cell? ⟨w.heap.size + 5, 7, none⟩ = some (.map (some (w.heap.size + 4))) := (blk_cell BF12 7).trans rfl; have e2 : w12.cell? ⟨bl, 5, none⟩ = some (.int .i64 x.f4) := (blk_cell BX12 5).trans rfl; have e3 : w13.cell? ⟨w.heap.size + 5, 7, none⟩ = some (.map (some (w.heap.size + 4))) := (blk_cell (blk_grown BF12 hg8 (not_map BF12 hm7.of)) 7).trans rfl; have e4 : w13.cell? ⟨bl, 5, none⟩ = some (.int .i64 x.f4) := (blk_cell (blk_grown BX12 hg8 (not_map BX12 hm7.of)) 5).trans rfl))
                all_goals
                  have HD14 := Aside0.mk (HD12.out.rel HRow.out hg7 hrow hm8 hg8)
                  clear l1 l2 l3 hrow hb7 hg7 hat hm7 hm8 hg8 hs8 BX12 BF12 e1 e2 e3 e4 d3 d4 d5 d6 d7 dw zw n4 n5 n6 k0 k1
                  go_wp2
                  go_roundw
                  case rel => exact ⟨i + 1, by rw [HW.out], ⟨HIL.out⟩, _, _, _, _, _, _, _, _, _, _, _, ⟨HD14.out⟩, ⟨by have := HH7.out.rel (by rw [HX.out]; exact HKD.out) v1; rw [HX.out] at this; exact this⟩⟩
                  case measure => exact meas_lt (Int.ofNat_lt.1 HLT.out) HW.out
              · have q27 : (kd == 27) = false := by simp [k27]
                have HNK := Aside0.mk (show kd ≠ 16 ∧ kd ≠ 17 ∧ kd ≠ 26 ∧ kd ≠ 27 from ⟨k16, k17, k26, k27⟩)
                clear k16 k17 k26 k27
                go_wp2
                go_roundw
                case rel => exact ⟨i + 1, by rw [HW.out], ⟨HIL.out⟩, _, _, _, _, _, _, _, _, _, _, _, ⟨HD11.out⟩, ⟨HH7.out.other (by rw [HX.out, HKD.out]; exact HNK.out.1) (by rw [HX.out, HKD.out]; exact HNK.out.2.1) (by rw [HX.out, HKD.out]; exact HNK.out.2.2.1) (by rw [HX.out, HKD.out]; exact HNK.out.2.2.2)⟩⟩
                case measure => exact meas_lt (Int.ofNat_lt.1 HLT.out) HW.out
    · have hi : i = l.length := by have := HI.out; omega
      subst hi
      go_wp2
      go_ret
      exact ⟨_, rfl, rd_done HD.out HSp.out HR.out HC.out HRc.out HCC.out HN.out⟩
end Go.Proofs.Ytkbfijkohngjjaa.Od
