/- What a Sync holds in memory: one lock and one semaphore may hold something, all else is as New made it. Conditions: each theorem's own. -/
import Derived.Test.YtielcanihooagaaDoorSwa
set_option linter.unusedVariables false
set_option linter.unusedSimpArgs false
namespace Go.Proofs.YtielcanihooagaaDoor.PSemaExcludes
open Go.RowKit Go.Proofs.YtielcanihooagaaDoor.Ef Go.Proofs.YtielcanihooagaaDoor.Mp Go.Proofs.YtielcanihooagaaDoorW.PrintWords Go.Proofs.YtielcanihooagaaDoorW.PrintLast Go.Proofs.YtielcanihooagaaDoorW.PrintMore

abbrev nilV : Value := .slice none 0 0
structure LK (c : Array Value) (n : Nat) (v : Value) (lo : Bool) (rd : Int) : Prop where
  size : c.size = 768
  q : c[3 * n]? = some v
  l : c[3 * n + 1]? = some (.bool lo)
  r : c[3 * n + 2]? = some (.int .i64 rd)
  z : ∀ i, i < 256 → i ≠ n → c[3 * i]? = some nilV ∧ c[3 * i + 1]? = some (.bool false) ∧ c[3 * i + 2]? = some (.int .i64 0)
structure CT (c : Array Value) (n : Nat) (v : Value) (k : Int) : Prop where
  size : c.size = 512
  q : c[2 * n]? = some v
  k : c[2 * n + 1]? = some (.int .i64 k)
  z : ∀ i, i < 256 → i ≠ n → c[2 * i]? = some nilV ∧ c[2 * i + 1]? = some (.int .i64 0)
structure CD (c : Array Value) : Prop where
  size : c.size = 256
  z : ∀ i, i < 256 → c[i]? = some nilV
theorem set_at {c : Array Value} {j k : Nat} {u : Value} : (c.setIfInBounds j u)[k]? = if j = k then (if j < c.size then some u else none) else c[k]? := by
  rw [Array.getElem?_setIfInBounds]
theorem LK.setq {c : Array Value} {n : Nat} {v : Value} {lo : Bool} {rd : Int} (h : LK c n v lo rd) (hn : n < 256) (u : Value) : LK (c.setIfInBounds (3 * n) u) n u lo rd := by
  have hs := h.size
  refine ⟨by simp [hs], ?_, ?_, ?_, fun i hi hne => ?_⟩
  · rw [set_at, if_pos rfl, if_pos (by omega)]
  · rw [set_at, if_neg (by omega)]; exact h.l
  · rw [set_at, if_neg (by omega)]; exact h.r
  · rw [set_at, if_neg (by omega), set_at, if_neg (by omega), set_at, if_neg (by omega)]; exact h.z i hi hne
theorem LK.setl {c : Array Value} {n : Nat} {v : Value} {lo : Bool} {rd : Int} (h : LK c n v lo rd) (hn : n < 256) (b : Bool) : LK (c.setIfInBounds (3 * n + 1) (.bool b)) n v b rd := by
  have hs := h.size
  refine ⟨by simp [hs], ?_, ?_, ?_, fun i hi hne => ?_⟩
  · rw [set_at, if_neg (by omega)]; exact h.q
  · rw [set_at, if_pos rfl, if_pos (by omega)]
  · rw [set_at, if_neg (by omega)]; exact h.r
  · rw [set_at, if_neg (by omega), set_at, if_neg (by omega), set_at, if_neg (by omega)]; exact h.z i hi hne
theorem LK.setr {c : Array Value} {n : Nat} {v : Value} {lo : Bool} {rd : Int} (h : LK c n v lo rd) (hn : n < 256) (k : Int) : LK (c.setIfInBounds (3 * n + 2) (.int .i64 k)) n v lo k := by
  have hs := h.size
  refine ⟨by simp [hs], ?_, ?_, ?_, fun i hi hne => ?_⟩
  · rw [set_at, if_neg (by omega)]; exact h.q
  · rw [set_at, if_neg (by omega)]; exact h.l
  · rw [set_at, if_pos rfl, if_pos (by omega)]
  · rw [set_at, if_neg (by omega), set_at, if_neg (by omega), set_at, if_neg (by omega)]; exact h.z i hi hne
theorem CT.setq {c : Array Value} {n : Nat} {v : Value} {k : Int} (h : CT c n v k) (hn : n < 256) (u : Value) : CT (c.setIfInBounds (2 * n) u) n u k := by
  have hs := h.size
  refine ⟨by simp [hs], ?_, ?_, fun i hi hne => ?_⟩
  · rw [set_at, if_pos rfl, if_pos (by omega)]
  · rw [set_at, if_neg (by omega)]; exact h.k
  · rw [set_at, if_neg (by omega), set_at, if_neg (by omega)]; exact h.z i hi hne
theorem CT.setk {c : Array Value} {n : Nat} {v : Value} {k : Int} (h : CT c n v k) (hn : n < 256) (u : Int) : CT (c.setIfInBounds (2 * n + 1) (.int .i64 u)) n v u := by
  have hs := h.size
  refine ⟨by simp [hs], ?_, ?_, fun i hi hne => ?_⟩
  · rw [set_at, if_neg (by omega)]; exact h.q
  · rw [set_at, if_pos rfl, if_pos (by omega)]
  · rw [set_at, if_neg (by omega), set_at, if_neg (by omega)]; exact h.z i hi hne
/-! ### in memory -/
structure Bk where
  l : Nat
  g : Nat
  c : Nat
  s : Nat
def sV (B : Bk) : Array Value := #[.slice (some ⟨B.l, 0, none⟩) 256 256, .slice (some ⟨B.g, 0, none⟩) 256 256, .slice (some ⟨B.c, 0, none⟩) 256 256, .slice (some ⟨B.s, 0, none⟩) 256 256]
def Bk.in (B : Bk) (s : Nat) (k : Nat) : Prop := k = s ∨ k = B.l ∨ k = B.g ∨ k = B.c ∨ k = B.s
structure SA (w : World) (base s : Nat) (B : Bk) (nl : Nat) (vl : Value) (lo : Bool) (rd : Int) (ns : Nat) (vs : Value) (cnt : Int) : Prop where
  blk : w.heap[s]? = some (.cells (sV B) 63 (0, 0))
  lk : ∃ c, w.heap[B.l]? = some (.cells c 79 (0, 0)) ∧ LK c nl vl lo rd
  gr : ∃ c, w.heap[B.g]? = some (.cells c 69 (0, 0)) ∧ CT c 0 nilV 0
  cd : ∃ c, w.heap[B.c]? = some (.cells c 97 (0, 0)) ∧ CD c
  sm : ∃ c, w.heap[B.s]? = some (.cells c 69 (0, 0)) ∧ CT c ns vs cnt
  gs : B.g ≠ B.s
  low : ∀ k, B.in s k → base ≤ k
  nl : nl < 256
  ns : ns < 256
section
variable {w W : World} {base s : Nat} {B : Bk} {nl : Nat} {vl : Value} {lo : Bool} {rd : Int} {ns : Nat} {vs : Value} {cnt : Int}
theorem SA.lt (h : SA w base s B nl vl lo rd ns vs cnt) : ∀ k, B.in s k → k < w.heap.size := by
  obtain ⟨c1, h1, _⟩ := h.lk; obtain ⟨c2, h2, _⟩ := h.gr; obtain ⟨c3, h3, _⟩ := h.cd; obtain ⟨c4, h4, _⟩ := h.sm
  rintro k (rfl | rfl | rfl | rfl | rfl)
  · exact blk_lt h.blk
  · exact blk_lt h1
  · exact blk_lt h2
  · exact blk_lt h3
  · exact blk_lt h4
theorem SA.move (h : SA w base s B nl vl lo rd ns vs cnt) (hm : ∀ k, B.in s k → W.heap[k]? = w.heap[k]?) : SA W base s B nl vl lo rd ns vs cnt :=
  ⟨(hm _ (.inl rfl)).trans h.blk, let ⟨c, a, b⟩ := h.lk; ⟨c, (hm _ (.inr (.inl rfl))).trans a, b⟩, let ⟨c, a, b⟩ := h.gr; ⟨c, (hm _ (.inr (.inr (.inl rfl)))).trans a, b⟩, let ⟨c, a, b⟩ := h.cd; ⟨c, (hm _ (.inr (.inr (.inr (.inl rfl))))).trans a, b⟩, let ⟨c, a, b⟩ := h.sm; ⟨c, (hm _ (.inr (.inr (.inr (.inr rfl))))).trans a, b⟩, h.gs, h.low, h.nl, h.ns⟩
theorem SA.below (h : SA w base s B nl vl lo rd ns vs cnt) (hb : Below w.heap.size w W) : SA W base s B nl vl lo rd ns vs cnt := h.move (fun k q => hb.block k (h.lt k q))
theorem SA.grown (h : SA w base s B nl vl lo rd ns vs cnt) {g : Nat} (hg : w.grownBy W (some g)) (hn : ¬ B.in s g) : SA W base s B nl vl lo rd ns vs cnt := h.move (fun k q => hg.block k (h.lt k q) (fun e => hn (by rw [← Option.some.inj e]; exact q)))
theorem SA.lower (h : SA w base s B nl vl lo rd ns vs cnt) {b2 : Nat} (hb : b2 ≤ base) : SA w b2 s B nl vl lo rd ns vs cnt := { h with low := fun k q => Nat.le_trans hb (h.low k q) }
/-- The cells of the lock that may hold something. -/
theorem SA.atl (h : SA w base s B nl vl lo rd ns vs cnt) : w.cell? ⟨B.l, 3 * nl, none⟩ = some vl ∧ w.cell? ⟨B.l, 3 * nl + 1, none⟩ = some (.bool lo) ∧ w.cell? ⟨B.l, 3 * nl + 2, none⟩ = some (.int .i64 rd) ∧ w.frozen? ⟨B.l, 3 * nl, none⟩ = false ∧ w.frozen? ⟨B.l, 3 * nl + 1, none⟩ = false ∧ w.frozen? ⟨B.l, 3 * nl + 2, none⟩ = false := by
  obtain ⟨c, a, b⟩ := h.lk
  exact ⟨(blk_cell a _).trans b.q, (blk_cell a _).trans b.l, (blk_cell a _).trans b.r, blk_frozen a _, blk_frozen a _, blk_frozen a _⟩
theorem SA.ats (h : SA w base s B nl vl lo rd ns vs cnt) : w.cell? ⟨B.s, 2 * ns, none⟩ = some vs ∧ w.cell? ⟨B.s, 2 * ns + 1, none⟩ = some (.int .i64 cnt) ∧ w.frozen? ⟨B.s, 2 * ns, none⟩ = false ∧ w.frozen? ⟨B.s, 2 * ns + 1, none⟩ = false := by
  obtain ⟨c, a, b⟩ := h.sm
  exact ⟨(blk_cell a _).trans b.q, (blk_cell a _).trans b.k, blk_frozen a _, blk_frozen a _⟩
/-- The lines that may hold somebody. -/
structure Ln (w : World) (vl vs : Value) (ql : List S83) (qs : List S34) : Prop where
  l : ∃ A c, vl = .slice A ql.length c ∧ ql.length ≤ c ∧ Kd.C k83 w A ql.length ql
  s : ∃ A c, vs = .slice A qs.length c ∧ qs.length ≤ c ∧ Kd.C k34 w A qs.length qs
theorem Ln.below {ql : List S83} {qs : List S34} (h : Ln w vl vs ql qs) (hb : Below w.heap.size w W) : Ln W vl vs ql qs :=
  ⟨let ⟨A, c, a, b, d⟩ := h.l; ⟨A, c, a, b, Kd.C_below d hb⟩, let ⟨A, c, a, b, d⟩ := h.s; ⟨A, c, a, b, Kd.C_below d hb⟩⟩
/-- All four lines of a number, of whom one stands in none. -/
theorem SA.lines (h : SA w base s B nl vl lo rd ns vs cnt) {ql : List S83} {qs : List S34} (hq : Ln w vl vs ql qs) {a b : Int} (h1 : ∀ x ∈ ql, (x.f0.f0 == a && x.f0.f1 == b) = false) (h2 : ∀ x ∈ qs, (x.f0 == a && x.f1 == b) = false) {i : Nat} (hi : i < 256) :
    (∃ A c, ∃ l : List S83, w.cell? ⟨B.l, i * 3, none⟩ = some (.slice A l.length c) ∧ l.length ≤ c ∧ Kd.C k83 w A l.length l ∧ ∀ x ∈ l, (x.f0.f0 == a && x.f0.f1 == b) = false) ∧ w.cell? ⟨B.g, i * 2, none⟩ = some nilV ∧ w.cell? ⟨B.c, i, none⟩ = some nilV ∧
    (∃ A c, ∃ l : List S34, w.cell? ⟨B.s, i * 2, none⟩ = some (.slice A l.length c) ∧ l.length ≤ c ∧ Kd.C k34 w A l.length l ∧ ∀ x ∈ l, (x.f0 == a && x.f1 == b) = false) := by
  obtain ⟨cl, al, bl⟩ := h.lk; obtain ⟨cg, ag, bg⟩ := h.gr; obtain ⟨cc, ac, bc⟩ := h.cd; obtain ⟨cs, a4, bs⟩ := h.sm
  refine ⟨?_, ?_, (blk_cell ac i).trans (bc.z i hi), ?_⟩
  · by_cases e : i = nl
    · subst e
      obtain ⟨A, c, rfl, hc, hC⟩ := hq.l
      exact ⟨A, c, ql, by rw [Nat.mul_comm]; exact (blk_cell al _).trans bl.q, hc, hC, h1⟩
    · exact ⟨none, 0, [], by rw [Nat.mul_comm]; exact (blk_cell al _).trans (bl.z i hi e).1, Nat.le_refl _, Kd.C_nil _ _, fun x hx => by cases hx⟩
  · by_cases e : i = 0
    · subst e; exact (blk_cell ag _).trans bg.q
    · rw [Nat.mul_comm]; exact (blk_cell ag _).trans (bg.z i hi e).1
  · by_cases e : i = ns
    · subst e
      obtain ⟨A, c, rfl, hc, hC⟩ := hq.s
      exact ⟨A, c, qs, by rw [Nat.mul_comm]; exact (blk_cell a4 _).trans bs.q, hc, hC, h2⟩
    · exact ⟨none, 0, [], by rw [Nat.mul_comm]; exact (blk_cell a4 _).trans (bs.z i hi e).1, Nat.le_refl _, Kd.C_nil _ _, fun x hx => by cases hx⟩
end
set_option maxHeartbeats 1000000 in
set_option maxRecDepth 100000 in
theorem is_calls {base s : Nat} {B : Bk} {nl : Nat} {vl : Value} {lo : Bool} {rd : Int} {ns : Nat} {vs : Value} {cnt : Int} (w : World) (h : SA w base s B nl vl lo rd ns vs cnt) :
    Calls Tryd.prog 37 #[.pointer (some ⟨s, 0, none⟩)] w fun e w' => e = .returned (.bool true) ∧ Below w.heap.size w w' := by
  have h0 : w.cell? ⟨s, 0, none⟩ = some (.slice (some ⟨B.l, 0, none⟩) 256 256) := (blk_cell h.blk 0).trans rfl
  have hu := Tryd.underlying63
  clear h
  go_enter Tryd.func37, Tryd.ntmps37
  go_wp2
  go_ret
  exact ⟨rfl, Below.refl _ _⟩
end Go.Proofs.YtielcanihooagaaDoor.PSemaExcludes
