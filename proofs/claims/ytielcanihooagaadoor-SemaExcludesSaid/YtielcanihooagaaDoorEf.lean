/- Words for calls that write: what a call leaves alone (Fr), and a store into a block that is known whole. Conditions: each theorem's own. -/
import Derived.Test.YtielcanihooagaaDoorPSemaExcludesx0
import Derived.Test.YtielcanihooagaaDoorMp
import Derived.StillTailTactics
set_option linter.unusedVariables false
set_option linter.unusedSimpArgs false
namespace Go.Proofs.YtielcanihooagaaDoor.Ef
open Go.RowKit Go.Proofs.YtielcanihooagaaDoor.Mp Go.Proofs.YtielcanihooagaaDoorW.PrintWords Go.Proofs.YtielcanihooagaaDoorW.PrintLast Go.Proofs.YtielcanihooagaaDoorW.PrintMore

/-- From w to w': below base nothing is changed, and of w's blocks none but those of S. -/
structure Fr (base : Nat) (S : Nat → Prop) (w w' : World) : Prop where
  b : Below base w w'
  k : Kept w w' S
  sz : base ≤ w.heap.size
  sb : ∀ k, S k → base ≤ k
theorem below_up {base : Nat} {w w' : World} (h : Below w.heap.size w w') (hb : base ≤ w.heap.size) : Below base w w' := ⟨h.os, h.tape, h.output, h.size, fun i hi => h.block i (by omega)⟩
theorem below_mput {n : Nat} {w W w1 : World} {b : Nat} (h : Below n w W) (hg : W.grownBy w1 (some b)) (hn : n ≤ b) (hs : n ≤ W.heap.size) : Below n w w1 :=
  ⟨hg.os.trans h.os, hg.tape.trans h.tape, hg.output.trans h.output, Nat.le_trans h.size hg.size, fun i hi => (hg.block i (by omega) (by intro e; cases e; omega)).trans (h.block i hi)⟩
section
variable {base : Nat} {S S2 : Nat → Prop} {w W W2 : World}
theorem Fr.refl (hs : base ≤ w.heap.size) (hS : ∀ k, S k → base ≤ k) : Fr base S w w := ⟨Below.refl _ _, Kept.refl _ _, hs, hS⟩
theorem Fr.size (h : Fr base S w W) : w.heap.size ≤ W.heap.size := h.k.1
theorem Fr.below (h : Fr base S w W) (hb : Below W.heap.size W W2) : Fr base S w W2 := ⟨h.b.trans (below_up hb (Nat.le_trans h.sz h.size)), h.k.below hb, h.sz, h.sb⟩
theorem Fr.drew (h : Fr base S w W) : Fr base S w W.drew := h.below (below_drew (Below.refl _ _))
theorem Fr.drewN (h : Fr base S w W) (n : Nat) : Fr base S w (W.drewN n) := h.below (pw_below_drewN (Below.refl _ _) n)
theorem Fr.alloc (h : Fr base S w W) (o : Obj) : Fr base S w (W.alloc o) := h.below (below_alloc (Below.refl _ _) o)
theorem Fr.grown (h : Fr base S w W) {g : Nat} (hg : W.grownBy W2 (some g)) (hS : S g ∨ w.heap.size ≤ g) : Fr base S w W2 :=
  ⟨below_mput h.b hg (hS.elim (h.sb g) (Nat.le_trans h.sz)) (Nat.le_trans h.sz h.size), Kept.of_grown hg h.k (fun k hk => by cases hk; exact hS), h.sz, h.sb⟩
theorem Fr.grownO (h : Fr base S w W) {row : Option Nat} (hg : W.grownBy W2 row) (hr : ∀ k, row = some k → S k ∨ w.heap.size ≤ k) : Fr base S w W2 := by
  cases row with
  | none => exact h.below ⟨hg.os, hg.tape, hg.output, hg.size, fun k hk => hg.block k hk (by simp)⟩
  | some g => exact h.grown hg (hr g rfl)
theorem Fr.then_ (h : Fr base S w W) {b2 : Nat} (k : Fr b2 S2 W W2) (hb : base ≤ b2) (hs : ∀ k, S2 k → S k ∨ w.heap.size ≤ k) : Fr base S w W2 :=
  ⟨h.b.trans ⟨k.b.os, k.b.tape, k.b.output, k.b.size, fun i hi => k.b.block i (by omega)⟩, h.k.then_ k.k hs, h.sz, h.sb⟩
theorem Fr.mono (h : Fr base S w W) (hs : ∀ k, S k → S2 k) (hb : ∀ k, S2 k → base ≤ k) : Fr base S2 w W := ⟨h.b, h.k.mono hs, h.sz, hb⟩
/-- All that was written is new since. -/
theorem Fr.new (h : Fr base S w W) {w0 : World} (hb : Below w0.heap.size w0 w) (hs : ∀ k, S k → w0.heap.size ≤ k) : Below w0.heap.size w0 W :=
  ⟨h.b.os.trans hb.os, h.b.tape.trans hb.tape, h.b.output.trans hb.output, Nat.le_trans hb.size h.size, fun i hi => (h.k.2 i (Nat.lt_of_lt_of_le hi hb.size) (fun q => by have := hs i q; omega)).trans (hb.block i hi)⟩
theorem Fr.blk (h : Fr base S w W) {g : Nat} {o : Obj} (hb : w.heap[g]? = some o) (hS : ¬ S g) : W.heap[g]? = some o := blk_kept hb h.k hS
end
/-- One cell of a block that is known whole has been written. -/
theorem set_step {W : World} {g : Nat} {e : TypeId} {cur cur' : Array Value} (hb : W.heap[g]? = some (.cells cur e (0, 0))) (j : Nat) (u : Value) (hc : cur.setIfInBounds j u = cur') :
    (W.setCell ⟨g, j, none⟩ u).heap[g]? = some (.cells cur' e (0, 0)) ∧ W.grownBy (W.setCell ⟨g, j, none⟩ u) (some g) :=
  ⟨by rw [blk_set hb j u, hc], ⟨rfl, rfl, rfl, by simp [World.setCell], fun k _ hk => Below.heap_setCell W ⟨g, j, none⟩ u k (fun he => hk (by rw [he]))⟩⟩
section
variable {P : Program} {ops : Array Oper} {rest : List Oper} {o : Oper} {a : Act} {Q : Exit → Act → World → Prop} {W : World}
theorem gate_del {args : Array Operand} {ts : Array TypeId} (_ho : o.op = .call { callee := .builtin .delete, args := args, argTypes := ts }) (h : wpList P ops Q (o :: rest) a W) : wpList P ops Q (o :: rest) a W := h
theorem gate_put {T : TypeId} {x y u : Operand} (_ho : o.op = .mapUpdate T x y u) (h : wpList P ops Q (o :: rest) a W) : wpList P ops Q (o :: rest) a W := h
theorem gate_look {T : TypeId} {x y : Operand} {ok : Bool} (_ho : o.op = .lookup T x y ok) (h : wpList P ops Q (o :: rest) a W) : wpList P ops Q (o :: rest) a W := h
theorem exec_look {κ : Type} [DecidableEq κ] {K E T : TypeId} {enc : κ → Value} (HK : KeyOk P K enc) (hT : P.underlying T = some (.map K E)) {x y : Operand} {ok : Bool} (ho : o.op = .lookup T x y ok) {z : Value} (hz : (zeroValue E).run P W = .ok z W) {b : Nat} {l : List (κ × Value)}
    (hM : MapOf enc W b l) (k : κ) (hx : a.eval x = .map (some b)) (hy : a.eval y = enc k) {v : Value} (hv : (if ok = true then .tuple #[(Mp.get k l).getD z, .bool (Mp.get k l).isSome] else (Mp.get k l).getD z) = v) : (execOp a.eval o).run P W = .ok (.value v) W := by
  unfold execOp
  simp only [ho, hx, hy, Sem.run_bind, run_look HK hT hz hM k ok, Result.andThen_ok, hv]
  rfl
/-- One operation of a still region that only reads. -/
theorem still_value {R : Act → Prop} (hgd : o.guard = none) {v : Value} (hr : (execOp a.eval o).run P W = .ok (.value v) W) (h : wpStill P ops W R rest (a.put o.dst v)) : wpStill P ops W R (o :: rest) a := by
  refine wpStill_step (fun K hK => ?_)
  rw [if_pos (by simp [Region.wanted, hgd])]
  unfold Oper.still
  rw [hr, Oper.stillUpon_value]
  exact hK _ h
/-- A store into a block that is known whole. -/
theorem step_store (hN : o.dst = none) (hgd : o.guard = none) {t : TypeId} {p x : Operand} (ho : o.op = .store t p x) {g off : Nat} {e : TypeId} {cur cur' : Array Value} (hb : W.heap[g]? = some (.cells cur e (0, 0)))
    (haddr : a.eval p = .pointer (some ⟨g, off, none⟩)) {u : Value} {seg : List Value} (hx : a.eval x = u) (hu : u.cells.toList = seg) (ht : (P.info? t).map (·.size) = some seg.length) (h1 : ∀ q ∈ seg, q.oneCell' = true)
    (hfit : off + seg.length ≤ cur.size) (hc : cur'.toList = cur.toList.take off ++ seg ++ cur.toList.drop (off + seg.length))
    (h : ∀ w1, w1.heap[g]? = some (.cells cur' e (0, 0)) → W.grownBy w1 (some g) → w1.heap.size = W.heap.size → wpList P ops Q rest a w1) : wpList P ops Q (o :: rest) a W := by
  obtain ⟨cur2, h3, h4, h5⟩ := setCells_row seg off W cur hb hfit
  obtain ⟨s1, s2, s3, s4⟩ := setCells_same g seg off W
  have e2 : cur2 = cur' := by rw [← Array.toList_inj, h5, hc]
  subst e2
  refine wpList_plain hgd fun K hK => ?_
  have hrun := run_store_run (P := P) t u seg hb hu ht hfit h1
  unfold Oper.wp execOp
  simp only [ho, haddr, hx, Sem.run_bind, Sem.run_pure, Result.andThen_ok, hrun]
  show K (a.put o.dst undef) _
  rw [hN]
  exact hK a _ (h _ h3 ⟨s1, s2, s3, by rw [s4]; exact Nat.le_refl _, fun k _ hk => setCells_far seg off k (fun he => hk (by rw [he]))⟩ s4)
end
end Go.Proofs.YtielcanihooagaaDoor.Ef
