/- Timers as they lie in memory: the block, the heap, the row of those that are never due, the three maps. Conditions: each theorem's own. -/
import Derived.Test.YtceopcfmhidjlaaTa1
import Derived.Test.YtceopcfmhidjlaaMe
import Derived.Test.YtceopcfmhidjlaaPTimerPlaysx1
set_option linter.unusedVariables false
set_option linter.unusedSimpArgs false
namespace Go.Proofs.Ytceopcfmhidjlaa.PTimerPlays
open Go.RowKit Go.Proofs.Ytceopcfmhidjlaa.Ef Go.Proofs.Ytceopcfmhidjlaa.Mp Go.Proofs.Ytceopcfmhidjlaa.Hp Go.Proofs.YtceopcfmhidjlaaW.PrintWords Go.Proofs.YtceopcfmhidjlaaW.PrintLast Go.Proofs.YtceopcfmhidjlaaW.PrintMore

abbrev Tm := S40
abbrev kT := k40
/-- A timer's cells. -/
abbrev cT (x : Tm) : Array Value := #[.int .i64 x.f0, .int .i64 x.f1, .int .i64 x.f2.f0, .int .i64 x.f2.f1, .int .i64 x.f3, .int .u64 x.f4, .bool x.f5, .int .u64 x.f6]
theorem infoT : (Try.prog.info? 40).map (fun i => (i.zero, i.size, i.bytes)) = some (some (.agg #[.int .i64 0, .int .i64 0, .int .i64 0, .int .i64 0, .int .i64 0, .int .u64 0, .bool false, .int .u64 0]), 8, 64) := by kernel_rfl
/-- What ids holds for a timer. -/
abbrev plc (num : Int) (never : Bool) : Value := .agg #[.int .i64 num, .bool never]
theorem keyL : KeyOk Try.prog 2 (Value.int .i64) := int_key Try.underlying2
theorem eq30 (a b : Int × Int) (w : World) : (Op.equal 30 (enc2 a) (enc2 b)).run Try.prog w = .ok (decide (a = b)) w := by
  have h := eqA30 9998 w a.1 b.1 a.2 b.2
  have : ((a.1 == b.1) && (a.2 == b.2)) = decide (a = b) := by
    obtain ⟨a1, a2⟩ := a
    obtain ⟨b1, b2⟩ := b
    simp only [Prod.mk.injEq, Bool.decide_and]
    rfl
  rw [← this, ← h]
  rfl
theorem chk30 (e : Bool) (a b : Int) (n : Nat) (w : World) : (Instr.checkKey e (n + 2) 30 (.agg #[.int .i64 a, .int .i64 b])).run Try.prog w = .ok () w := by
  rw [show n + 2 = (n + 1) + 1 from rfl, Instr.checkKey]
  simp only [Sem.run_bind, run_underlying Try.underlying30, Result.andThen_ok]
  simp [Instr.checkKey, go_sem]
theorem keyG : KeyOk Try.prog 30 enc2 := key2 Try.underlying30 (fun e k w => chk30 e k.1 k.2 9998 w) eq30
theorem zeroP (w : World) : (zeroValue 73).run Try.prog w = .ok (plc 0 false) w := by kernel_rfl
theorem zeroT (w : World) : (zeroValue 40).run Try.prog w = .ok (.agg (cT z40)) w := by kernel_rfl
theorem zeroL (w : World) : (zeroValue 2).run Try.prog w = .ok (.int .i64 0) w := by kernel_rfl

abbrev cS (last : Int) (q : Nat) (v : Value) (bi bo bg : Nat) : Array Value := #[.bool true, .int .i64 last, .pointer (some ⟨q, 0, none⟩), v, .map (some bi), .map (some bo), .map (some bg)]
/-- Where timers lie. -/
structure Pl where
  p : Nat
  q : Nat
  bi : Nat
  bo : Nat
  bg : Nat
  H : Nat → Prop
  N : Nat → Prop
def Pl.ok (P : Pl) (k : Nat) : Prop := k = P.p ∨ k = P.bi ∨ k = P.bo ∨ k = P.bg ∨ P.H k ∨ P.N k
structure Pl.Fine (P : Pl) (base size : Nat) : Prop where
  low : ∀ k, P.ok k → base ≤ k
  bound : ∀ k, P.ok k → k < size
  pi : P.p ≠ P.bi
  po : P.p ≠ P.bo
  pg : P.p ≠ P.bg
  io : P.bi ≠ P.bo
  ig : P.bi ≠ P.bg
  og : P.bo ≠ P.bg
  H : ∀ k, P.H k → k ≠ P.p ∧ k ≠ P.bi ∧ k ≠ P.bo ∧ k ≠ P.bg ∧ ¬ P.N k
  N : ∀ k, P.N k → k ≠ P.p ∧ k ≠ P.bi ∧ k ≠ P.bo ∧ k ≠ P.bg
structure TA (w : World) (base : Nat) (P : Pl) (v : Value) (last : Int) (hp : List NI) (next : Int) (nv : List Tm) (ids own : List (Int × Value)) (gs : List ((Int × Int) × Value)) : Prop where
  fine : P.Fine base w.heap.size
  blk : w.heap[P.p]? = some (.cells (cS last P.q v P.bi P.bo P.bg) 58 (0, 0))
  heap : HP w base P.q P.H hp next
  row : kT.R 40 w base P.N v nv
  mi : MapS (Value.int .i64) w P.bi ids
  mo : MapS (Value.int .i64) w P.bo own
  mg : MapOf enc2 w P.bg gs
section
variable {w w' : World} {base : Nat} {P : Pl} {v : Value} {last : Int} {hp : List NI} {next : Int} {nv : List Tm} {ids own : List (Int × Value)} {gs : List ((Int × Int) × Value)}
theorem Pl.Fine.size {s s' : Nat} (h : P.Fine base s) (hs : s ≤ s') : P.Fine base s' := { h with bound := fun k q => Nat.lt_of_lt_of_le (h.bound k q) hs }
theorem TA.new (h : TA w base P v last hp next nv ids own gs) {k : Nat} (hk : w.heap.size ≤ k) : ¬ P.ok k := fun q => by have := h.fine.bound k q; omega
theorem TA.le (h : TA w base P v last hp next nv ids own gs) : base ≤ w.heap.size := Nat.le_of_lt (Nat.lt_of_le_of_lt (h.fine.low _ (.inl rfl)) (h.fine.bound _ (.inl rfl)))
theorem TA.kept (h : TA w base P v last hp next nv ids own gs) {S : Nat → Prop} (hk : Kept w w' S) (hS : ∀ k, P.ok k → ¬ S k) : TA w' base P v last hp next nv ids own gs :=
  ⟨h.fine.size hk.1, blk_kept h.blk hk (hS _ (.inl rfl)), h.heap.kept hk (fun k q => hS k (.inr (.inr (.inr (.inr (.inl q)))))), Kd.R_kept h.row hk (fun k q => hS k (.inr (.inr (.inr (.inr (.inr q)))))),
    h.mi.kept (hk.2 _ h.mi.lt (hS _ (.inr (.inl rfl)))), h.mo.kept (hk.2 _ h.mo.lt (hS _ (.inr (.inr (.inl rfl))))), h.mg.kept (hk.2 _ h.mg.lt (hS _ (.inr (.inr (.inr (.inl rfl))))))⟩
theorem TA.below (h : TA w base P v last hp next nv ids own gs) (hb : Below w.heap.size w w') : TA w' base P v last hp next nv ids own gs := h.kept (Kept.of_below hb (fun _ => False)) (fun _ _ => id)
theorem TA.drew (h : TA w base P v last hp next nv ids own gs) : TA w.drew base P v last hp next nv ids own gs := h.below (below_drew (Below.refl _ _))
theorem TA.grown (h : TA w base P v last hp next nv ids own gs) {g : Nat} (hg : w.grownBy w' (some g)) (hne : ¬ P.ok g) : TA w' base P v last hp next nv ids own gs :=
  h.kept (S := fun k => k = g) ⟨hg.size, fun i hi hn => hg.block i hi (fun e => hn (by cases e; rfl))⟩ (fun k hk e => hne (by rw [← e]; exact hk))
theorem grown_kept {g : Nat} (hg : w.grownBy w' (some g)) : Kept w w' (fun k => k = g) := ⟨hg.size, fun i hi hn => hg.block i hi (fun e => hn (by cases e; rfl))⟩
/-- Its own cells have been written. -/
theorem TA.celled (h : TA w base P v last hp next nv ids own gs) {last' : Int} (hb : w'.heap[P.p]? = some (.cells (cS last' P.q v P.bi P.bo P.bg) 58 (0, 0))) (hg : w.grownBy w' (some P.p)) : TA w' base P v last' hp next nv ids own gs :=
  ⟨h.fine.size hg.size, hb, h.heap.kept (grown_kept hg) (fun k q => (h.fine.H k q).1), Kd.R_kept h.row (grown_kept hg) (fun k q => (h.fine.N k q).1),
    h.mi.grown hg (by intro e; exact h.fine.pi (Option.some.inj e).symm), h.mo.grown hg (by intro e; exact h.fine.po (Option.some.inj e).symm), h.mg.grown hg (by intro e; exact h.fine.pg (Option.some.inj e).symm)⟩
/-- The heap has been written. -/
theorem TA.heaped (h : TA w base P v last hp next nv ids own gs) {H' : Nat → Prop} {hp' : List NI} {next' : Int} (hh : HP w' base P.q H' hp' next') (hk : Kept w w' P.H) (hn : ∀ k, H' k → P.H k ∨ w.heap.size ≤ k) :
    TA w' base { P with H := H' } v last hp' next' nv ids own gs := by
  have nH : ∀ k, k = P.p ∨ k = P.bi ∨ k = P.bo ∨ k = P.bg ∨ P.N k → ¬ P.H k := fun k q r => by
    obtain ⟨a1, a2, a3, a4, a5⟩ := h.fine.H k r
    rcases q with q | q | q | q | q
    · exact a1 q
    · exact a2 q
    · exact a3 q
    · exact a4 q
    · exact a5 q
  refine ⟨⟨fun k q => ?_, fun k q => ?_, h.fine.pi, h.fine.po, h.fine.pg, h.fine.io, h.fine.ig, h.fine.og, fun k q => ?_, h.fine.N⟩, blk_kept h.blk hk (nH _ (.inl rfl)), hh, Kd.R_kept h.row hk (fun k q => nH k (.inr (.inr (.inr (.inr q))))),
    h.mi.kept (hk.2 _ h.mi.lt (nH _ (.inr (.inl rfl)))), h.mo.kept (hk.2 _ h.mo.lt (nH _ (.inr (.inr (.inl rfl))))), h.mg.kept (hk.2 _ h.mg.lt (nH _ (.inr (.inr (.inr (.inl rfl))))))⟩
  · rcases q with q | q | q | q | q | q
    · exact h.fine.low k (.inl q)
    · exact h.fine.low k (.inr (.inl q))
    · exact h.fine.low k (.inr (.inr (.inl q)))
    · exact h.fine.low k (.inr (.inr (.inr (.inl q))))
    · exact (hh.bound k q).1
    · exact h.fine.low k (.inr (.inr (.inr (.inr (.inr q)))))
  · rcases q with q | q | q | q | q | q
    · exact Nat.lt_of_lt_of_le (h.fine.bound k (.inl q)) hk.1
    · exact Nat.lt_of_lt_of_le (h.fine.bound k (.inr (.inl q))) hk.1
    · exact Nat.lt_of_lt_of_le (h.fine.bound k (.inr (.inr (.inl q)))) hk.1
    · exact Nat.lt_of_lt_of_le (h.fine.bound k (.inr (.inr (.inr (.inl q))))) hk.1
    · exact (hh.bound k q).2
    · exact Nat.lt_of_lt_of_le (h.fine.bound k (.inr (.inr (.inr (.inr (.inr q)))))) hk.1
  · rcases hn k q with r | r
    · exact h.fine.H k r
    · have hnew := fun q' => h.new r q'
      exact ⟨fun e => hnew (.inl e), fun e => hnew (.inr (.inl e)), fun e => hnew (.inr (.inr (.inl e))), fun e => hnew (.inr (.inr (.inr (.inl e)))), fun e => hnew (.inr (.inr (.inr (.inr (.inr e)))))⟩
/-- The row of those that are never due has been written. -/
theorem TA.rowed (h : TA w base P v last hp next nv ids own gs) {N' : Nat → Prop} {v' : Value} {nv' : List Tm} (hb : w'.heap[P.p]? = some (.cells (cS last P.q v' P.bi P.bo P.bg) 58 (0, 0)))
    (hr : kT.R 40 w' base N' v' nv') (hk : Kept w w' (fun k => P.N k ∨ k = P.p)) (hn : ∀ k, N' k → (P.N k ∨ w.heap.size ≤ k) ∧ k < w'.heap.size) :
    TA w' base { P with N := N' } v' last hp next nv' ids own gs := by
  have hN : ∀ k, k = P.bi ∨ k = P.bo ∨ k = P.bg ∨ P.H k → ¬ (P.N k ∨ k = P.p) := fun k q r => by
    rcases r with r | r
    · obtain ⟨a1, a2, a3, a4⟩ := h.fine.N k r
      rcases q with q | q | q | q
      · exact a2 q
      · exact a3 q
      · exact a4 q
      · exact (h.fine.H k q).2.2.2.2 r
    · rcases q with q | q | q | q
      · exact h.fine.pi (by rw [← r, q])
      · exact h.fine.po (by rw [← r, q])
      · exact h.fine.pg (by rw [← r, q])
      · exact (h.fine.H k q).1 r
  have nN : ∀ k, N' k → k ≠ P.p ∧ k ≠ P.bi ∧ k ≠ P.bo ∧ k ≠ P.bg ∧ ¬ P.H k := fun k q => by
    rcases (hn k q).1 with r | r
    · obtain ⟨a1, a2, a3, a4⟩ := h.fine.N k r
      exact ⟨a1, a2, a3, a4, fun q => (h.fine.H k q).2.2.2.2 r⟩
    · have hnew := fun q' => h.new r q'
      exact ⟨fun e => hnew (.inl e), fun e => hnew (.inr (.inl e)), fun e => hnew (.inr (.inr (.inl e))), fun e => hnew (.inr (.inr (.inr (.inl e)))), fun e => hnew (.inr (.inr (.inr (.inr (.inl e)))))⟩
  refine ⟨⟨fun k q => ?_, fun k q => ?_, h.fine.pi, h.fine.po, h.fine.pg, h.fine.io, h.fine.ig, h.fine.og, fun k q => ?_, fun k q => ?_⟩, hb, h.heap.kept hk (fun k q => hN k (.inr (.inr (.inr q)))), hr,
    h.mi.kept (hk.2 _ h.mi.lt (hN _ (.inl rfl))), h.mo.kept (hk.2 _ h.mo.lt (hN _ (.inr (.inl rfl)))), h.mg.kept (hk.2 _ h.mg.lt (hN _ (.inr (.inr (.inl rfl)))))⟩
  · rcases q with q | q | q | q | q | q
    · exact h.fine.low k (.inl q)
    · exact h.fine.low k (.inr (.inl q))
    · exact h.fine.low k (.inr (.inr (.inl q)))
    · exact h.fine.low k (.inr (.inr (.inr (.inl q))))
    · exact h.fine.low k (.inr (.inr (.inr (.inr (.inl q)))))
    · exact (hn k q).1.elim (fun r => h.fine.low k (.inr (.inr (.inr (.inr (.inr r)))))) (fun r => Nat.le_trans h.le r)
  · rcases q with q | q | q | q | q | q
    · exact Nat.lt_of_lt_of_le (h.fine.bound k (.inl q)) hk.1
    · exact Nat.lt_of_lt_of_le (h.fine.bound k (.inr (.inl q))) hk.1
    · exact Nat.lt_of_lt_of_le (h.fine.bound k (.inr (.inr (.inl q)))) hk.1
    · exact Nat.lt_of_lt_of_le (h.fine.bound k (.inr (.inr (.inr (.inl q))))) hk.1
    · exact Nat.lt_of_lt_of_le (h.fine.bound k (.inr (.inr (.inr (.inr (.inl q)))))) hk.1
    · exact (hn k q).2
  · obtain ⟨a1, a2, a3, a4, _⟩ := h.fine.H k q
    exact ⟨a1, a2, a3, a4, fun r => (nN k r).2.2.2.2 q⟩
  · obtain ⟨a1, a2, a3, a4, _⟩ := nN k q
    exact ⟨a1, a2, a3, a4⟩
/-- A map has been written. -/
theorem TA.ided (h : TA w base P v last hp next nv ids own gs) {ids' : List (Int × Value)} (hm : MapS (Value.int .i64) w' P.bi ids') (hg : w.grownBy w' (some P.bi)) : TA w' base P v last hp next nv ids' own gs :=
  ⟨h.fine.size hg.size, blk_kept h.blk (grown_kept hg) h.fine.pi, h.heap.kept (grown_kept hg) (fun k q => (h.fine.H k q).2.1), Kd.R_kept h.row (grown_kept hg) (fun k q => (h.fine.N k q).2.1),
    hm, h.mo.grown hg (by intro e; exact h.fine.io (Option.some.inj e).symm), h.mg.grown hg (by intro e; exact h.fine.ig (Option.some.inj e).symm)⟩
theorem TA.owned (h : TA w base P v last hp next nv ids own gs) {own' : List (Int × Value)} (hm : MapS (Value.int .i64) w' P.bo own') (hg : w.grownBy w' (some P.bo)) : TA w' base P v last hp next nv ids own' gs :=
  ⟨h.fine.size hg.size, blk_kept h.blk (grown_kept hg) h.fine.po, h.heap.kept (grown_kept hg) (fun k q => (h.fine.H k q).2.2.1), Kd.R_kept h.row (grown_kept hg) (fun k q => (h.fine.N k q).2.2.1),
    h.mi.grown hg (by intro e; exact h.fine.io (Option.some.inj e)), hm, h.mg.grown hg (by intro e; exact h.fine.og (Option.some.inj e).symm)⟩
theorem TA.gsed (h : TA w base P v last hp next nv ids own gs) {gs' : List ((Int × Int) × Value)} (hm : MapOf enc2 w' P.bg gs') (hg : w.grownBy w' (some P.bg)) : TA w' base P v last hp next nv ids own gs' :=
  ⟨h.fine.size hg.size, blk_kept h.blk (grown_kept hg) h.fine.pg, h.heap.kept (grown_kept hg) (fun k q => (h.fine.H k q).2.2.2.1), Kd.R_kept h.row (grown_kept hg) (fun k q => (h.fine.N k q).2.2.2),
    h.mi.grown hg (by intro e; exact h.fine.ig (Option.some.inj e)), h.mo.grown hg (by intro e; exact h.fine.og (Option.some.inj e)), hm⟩
end
theorem Pl.nokH {P : Pl} {H' : Nat → Prop} {g : Nat} (h1 : ¬ P.ok g) (h2 : ¬ H' g) : ¬ Pl.ok { P with H := H' } g := fun q =>
  q.elim (fun q => h1 (.inl q)) fun q => q.elim (fun q => h1 (.inr (.inl q))) fun q => q.elim (fun q => h1 (.inr (.inr (.inl q)))) fun q => q.elim (fun q => h1 (.inr (.inr (.inr (.inl q))))) fun q => q.elim (fun q => h2 q) fun q => h1 (.inr (.inr (.inr (.inr (.inr q)))))
theorem Pl.nokN {P : Pl} {N' : Nat → Prop} {g : Nat} (h1 : ¬ P.ok g) (h2 : ¬ N' g) : ¬ Pl.ok { P with N := N' } g := fun q =>
  q.elim (fun q => h1 (.inl q)) fun q => q.elim (fun q => h1 (.inr (.inl q))) fun q => q.elim (fun q => h1 (.inr (.inr (.inl q)))) fun q => q.elim (fun q => h1 (.inr (.inr (.inr (.inl q))))) fun q => q.elim (fun q => h1 (.inr (.inr (.inr (.inr (.inl q)))))) fun q => h2 q
theorem grown_trans {w w1 w2 : World} {g : Nat} (h1 : w.grownBy w1 (some g)) (h2 : w1.grownBy w2 (some g)) : w.grownBy w2 (some g) :=
  ⟨h2.os.trans h1.os, h2.tape.trans h1.tape, h2.output.trans h1.output, Nat.le_trans h1.size h2.size, fun k hk hne => (h2.block k (Nat.lt_of_lt_of_le hk h1.size) hne).trans (h1.block k hk hne)⟩
end Go.Proofs.Ytceopcfmhidjlaa.PTimerPlays
