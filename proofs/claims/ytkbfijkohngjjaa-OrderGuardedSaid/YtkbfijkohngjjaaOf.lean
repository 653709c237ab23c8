/- The finder's 'flows': the arrows of channels. Conditions: each theorem's own. -/
import Derived.Test.YtkbfijkohngjjaaOz1
import Derived.Test.YtkbfijkohngjjaaOo
set_option linter.unusedVariables false
set_option linter.unusedSimpArgs false
namespace Go.Proofs.Ytkbfijkohngjjaa.Od
open Go.RowKit Go.Proofs.Ytkbfijkohngjjaa.Ef Go.Proofs.Ytkbfijkohngjjaa.Mp Go.Proofs.Ytkbfijkohngjjaa.QOrder Go.Proofs.YtkbfijkohngjjaaW.PrintWords Go.Proofs.YtkbfijkohngjjaaW.PrintLast Go.Proofs.YtkbfijkohngjjaaW.PrintMore

theorem wrong_flow {l : List S36} {caps : List Int} {i : Nat} (hi : i < l.length) : readWrong l i = true ↔ ∃ f w, orP (P0 l) (upTo (flowP l caps) i) f i w ∧ (i : Int) ≤ f := by
  constructor
  · exact fun h => ⟨l.length, 0, .inl ⟨h, rfl, rfl⟩, by omega⟩
  · rintro ⟨f, w, h | h, _⟩
    · exact h.1
    · exact absurd h.1 (Nat.lt_irrefl _)
theorem flow_kind {l : List S36} {caps : List Int} {i : Nat} (h1 : (E l i).f3 ≠ 17) (h2 : (E l i).f3 ≠ 16) : ∀ f w, ¬ flowP l caps f i w := by
  rintro f w (h | h)
  · exact h1 h.1
  · exact h2 h.1
theorem flow_wrong {l : List S36} {caps : List Int} {i : Nat} (h1 : readWrong l i = true) : ∀ f w, ¬ flowP l caps f i w := by
  rintro f w (h | h)
  · rw [h1] at h; cases h.2.1
  · rw [h1] at h; cases h.2.1
theorem flow_r0 {l : List S36} {caps : List Int} {i : Nat} (h1 : (E l i).f3 = 17) (h2 : (E l i).f5 = 0) : ∀ f w, ¬ flowP l caps f i w := by
  rintro f w (h | h)
  · exact h.2.2.1 h2
  · rw [h1] at h; exact absurd h.1 (by decide)
theorem flow_r {l : List S36} {caps : List Int} {i s : Nat} (h1 : (E l i).f3 = 17) (h2 : readWrong l i = false) (h3 : (E l i).f5 ≠ 0) (h4 : place l l.length 16 ((E l i).f4, (E l i).f5) = some s) : ∀ f w, flowP l caps f i w ↔ (f = origin l s ∧ w = 2) := by
  intro f w
  unfold flowP
  rw [h4]
  constructor
  · rintro (h | h)
    · exact h.2.2.2
    · rw [h1] at h; exact absurd h.1 (by decide)
  · exact fun h => .inl ⟨h1, h2, h3, h⟩
theorem flow_rn {l : List S36} {caps : List Int} {i : Nat} (h1 : (E l i).f3 = 17) (h2 : readWrong l i = false) (h3 : (E l i).f5 ≠ 0) (h4 : place l l.length 16 ((E l i).f4, (E l i).f5) = none) : ∀ f w, flowP l caps f i w ↔ (f = (l.length : Int) ∧ w = 0) := by
  intro f w
  unfold flowP
  rw [h4]
  constructor
  · rintro (h | h)
    · exact h.2.2.2
    · rw [h1] at h; exact absurd h.1 (by decide)
  · exact fun h => .inl ⟨h1, h2, h3, h⟩
theorem flow_s0 {l : List S36} {caps : List Int} {i : Nat} (h1 : (E l i).f3 = 16) (h2 : (E l i).f5 ≤ cap caps (E l i).f4) : ∀ f w, ¬ flowP l caps f i w := by
  rintro f w (h | h)
  · rw [h1] at h; exact absurd h.1 (by decide)
  · exact absurd h.2.2.1 (by omega)
theorem flow_s {l : List S36} {caps : List Int} {i s : Nat} (h1 : (E l i).f3 = 16) (h2 : readWrong l i = false) (h3 : cap caps (E l i).f4 < (E l i).f5) (h4 : place l l.length 17 ((E l i).f4, wrap64 ((E l i).f5 - cap caps (E l i).f4)) = some s) : ∀ f w, flowP l caps f i w ↔ (f = origin l s ∧ w = 3) := by
  intro f w
  unfold flowP
  rw [h4]
  constructor
  · rintro (h | h)
    · rw [h1] at h; exact absurd h.1 (by decide)
    · exact h.2.2.2
  · exact fun h => .inr ⟨h1, h2, h3, h⟩
theorem flow_sn {l : List S36} {caps : List Int} {i : Nat} (h1 : (E l i).f3 = 16) (h4 : place l l.length 17 ((E l i).f4, wrap64 ((E l i).f5 - cap caps (E l i).f4)) = none) : ∀ f w, ¬ flowP l caps f i w := by
  rintro f w (h | h)
  · rw [h1] at h; exact absurd h.1 (by decide)
  · rw [h4] at h; exact h.2.2.2
theorem place_lt {l : List S36} {n : Nat} {kind : Int} {k : Int × Int} {s : Nat} (h : place l n kind k = some s) : s < n := by
  unfold place at h
  by_cases c : 1 ≤ k.2
  · rw [if_pos c] at h; exact (firstN_some h).1
  · rw [if_neg c] at h; cases h
theorem cap_ge (caps : List Int) (ch : Int) : 0 ≤ cap caps ch := by
  unfold cap
  by_cases c : ch < 1 ∨ (caps.length : Int) < ch
  · rw [if_pos c]; exact Int.le_refl _
  · rw [if_neg c]; omega
theorem look_some {l : List S36} {n : Nat} {kind : Int} {k : Int × Int} {m : List ((Int × Int) × Value)} (hm : ∀ k, Mp.get k m = (place l n kind k).map (fun (s : Nat) => Value.int .i64 (s : Int))) {s : Nat} (h : place l n kind k = some s) : (if true = true then Value.tuple #[(Mp.get k m).getD (.int .i64 0), .bool (Mp.get k m).isSome] else (Mp.get k m).getD (.int .i64 0)) = .tuple #[.int .i64 (s : Int), .bool true] := by
  rw [if_pos rfl, hm, h]
  rfl
theorem look_none' {l : List S36} {n : Nat} {kind : Int} {k : Int × Int} {m : List ((Int × Int) × Value)} (hm : ∀ k, Mp.get k m = (place l n kind k).map (fun (s : Nat) => Value.int .i64 (s : Int))) (h : place l n kind k = none) : (if true = true then Value.tuple #[(Mp.get k m).getD (.int .i64 0), .bool (Mp.get k m).isSome] else (Mp.get k m).getD (.int .i64 0)) = .tuple #[.int .i64 0, .bool false] := by
  rw [if_pos rfl, hm, h]
  rfl
theorem enc2_wrap (a b : Int) : enc2 (a, wrap64 b) = .agg #[.int .i64 a, .int .i64 (IntKind.i64.wrap b)] := by
  have e : IntKind.i64.wrap b = wrap64 b := by rw [IntKind.wrap_i64, wrap64]
  rw [e]
  rfl
theorem enc_inj (a b : Int) (h : Value.int IntKind.i64 a = Value.int .i64 b) : a = b := by cases h; rfl
theorem map_inj {W : World} {b : Nat} {m m' : List (Int × Value)} (h : MapOf (Value.int .i64) W b m) (h' : MapOf (Value.int .i64) W b m') : m = m' := by
  obtain ⟨es, cl, h1, h2⟩ := h
  obtain ⟨es', cl', h1', h2'⟩ := h'
  rw [h1] at h1'
  cases h1'
  rw [h2] at h2'
  clear h1 h2
  induction m generalizing m' with
  | nil => cases m' with
    | nil => rfl
    | cons p r => cases h2'
  | cons p r ih => cases m' with
    | nil => cases h2'
    | cons q s =>
      simp only [List.map_cons, List.cons.injEq, en, Prod.mk.injEq] at h2'
      obtain ⟨⟨e1, e2⟩, e3⟩ := h2'
      rw [ih e3]
      have := enc_inj _ _ e1
      cases p; cases q
      simp only [] at this e2
      rw [this, e2]
theorem get_mem' {m : List (Int × Value)} {k : Int} {v : Value} (h : Mp.get k m = some v) : (k, v) ∈ m := by
  rw [look_get] at h
  cases hl : Mp.look k m 0 with
  | none => rw [hl] at h; cases h
  | some q =>
    obtain ⟨i, u⟩ := q
    rw [hl] at h
    cases h
    exact List.mem_of_getElem? (look_at m k 0 i u hl).2.1
theorem idx_lt {l : List S36} {n : Nat} {kind a : Int} {t : Nat} (h : t ∈ idx l n kind a) : t < n ∧ isO l kind a t = true := by
  unfold idx at h
  rw [List.mem_filter, List.mem_range] at h
  exact h
theorem idx_at {l : List S36} {kind a : Int} {t : Nat} (ht : isO l kind a t = true) : ∀ n, t < n → (idx l n kind a)[(idx l t kind a).length]? = some t := by
  intro n
  induction n with
  | zero => intro h; omega
  | succ n ih =>
    intro h
    rw [idx_succ]
    by_cases e : t = n
    · subst e
      rw [if_pos ht]
      simp
    · have h1 := ih (by omega)
      by_cases c : isO l kind a n = true
      · rw [if_pos c, List.getElem?_append_left (List.getElem?_eq_some_iff.1 h1).1]
        exact h1
      · rw [if_neg c]
        exact h1
theorem idx_nodup (l : List S36) (n : Nat) (kind a : Int) : (idx l n kind a).Nodup := List.Pairwise.filter _ List.nodup_range
theorem idx_of {l : List S36} {n : Nat} {kind a : Int} {k t : Nat} (h : (idx l n kind a)[k]? = some t) : t < n ∧ isO l kind a t = true ∧ (idx l t kind a).length = k := by
  obtain ⟨h1, h2⟩ := idx_lt (List.mem_of_getElem? h)
  refine ⟨h1, h2, ?_⟩
  have h3 := idx_at h2 n h1
  obtain ⟨a1, a2⟩ := List.getElem?_eq_some_iff.1 h
  obtain ⟨b1, b2⟩ := List.getElem?_eq_some_iff.1 h3
  exact ((List.getElem_inj (idx_nodup l n kind a)).1 (b2.trans a2.symm))
def rowsP (l : List S36) (D : Int → Prop) : Props := fun f t w => D (E l t).f4 ∧ acqP l f t w
def inP (l : List S36) (D : Int → Prop) (a : Int) (k : Nat) : Props := fun f t w => (D (E l t).f4 ∨ ((E l t).f4 = a ∧ (idx l t 26 a).length < k)) ∧ acqP l f t w
theorem isO_iff {l : List S36} {kind a : Int} {t : Nat} : isO l kind a t = true ↔ (E l t).f3 = kind ∧ (E l t).f4 = a := by unfold isO; rw [Bool.and_eq_true, beq_iff_eq, beq_iff_eq]
theorem in_step {l : List S36} {P : Props} {D : Int → Prop} {a : Int} {k t : Nat} {f0 y0 : Int} (ht : (idx l l.length 26 a)[k]? = some t) (hq : ∀ f w, acqP l f t w ↔ (f = f0 ∧ w = y0)) : ∀ f t' w, t' < l.length → (addP (orP P (inP l D a k)) f0 t y0 f t' w ↔ orP P (inP l D a (k + 1)) f t' w) := by
  obtain ⟨h1, h2, h3⟩ := idx_of ht
  intro f t' w hl
  constructor
  · rintro ((q | ⟨q, r⟩) | ⟨rfl, rfl, rfl⟩)
    · exact .inl q
    · exact .inr ⟨q.imp id (fun q => ⟨q.1, by omega⟩), r⟩
    · exact .inr ⟨.inr ⟨(isO_iff.1 h2).2, by omega⟩, (hq _ _).2 ⟨rfl, rfl⟩⟩
  · rintro (q | ⟨q | ⟨q1, q2⟩, r⟩)
    · exact .inl (.inl q)
    · exact .inl (.inr ⟨.inl q, r⟩)
    · by_cases e : (idx l t' 26 a).length < k
      · exact .inl (.inr ⟨.inr ⟨q1, e⟩, r⟩)
      · have h4 := idx_at (isO_iff.2 ⟨r.1, q1⟩) l.length hl
        rw [show (idx l t' 26 a).length = k by omega, ht] at h4
        cases h4
        obtain ⟨rfl, rfl⟩ := (hq _ _).1 r
        exact .inr ⟨rfl, rfl, rfl⟩
theorem in_end {l : List S36} {P : Props} {D : Int → Prop} {a : Int} : ∀ f t w, t < l.length → (orP P (inP l D a (idx l l.length 26 a).length) f t w ↔ orP P (rowsP l (fun k => D k ∨ k = a)) f t w) := by
  intro f t w hl
  constructor
  · rintro (q | ⟨q | ⟨q1, q2⟩, r⟩)
    · exact .inl q
    · exact .inr ⟨.inl q, r⟩
    · exact .inr ⟨.inr q1, r⟩
  · rintro (q | ⟨q | q, r⟩)
    · exact .inl q
    · exact .inr ⟨.inl q, r⟩
    · exact .inr ⟨.inr ⟨q, (List.getElem?_eq_some_iff.1 (idx_at (isO_iff.2 ⟨r.1, q⟩) l.length hl)).1⟩, r⟩
theorem in_start {l : List S36} {P : Props} {D : Int → Prop} {a : Int} : ∀ f t w, (orP P (rowsP l D) f t w ↔ orP P (inP l D a 0) f t w) :=
  fun f t w => ⟨fun q => q.imp id (fun q => ⟨.inl q.1, q.2⟩), fun q => q.imp id (fun q => ⟨q.1.elim id (fun z => absurd z.2 (Nat.not_lt_zero _)), q.2⟩)⟩
theorem rows_end {l : List S36} {P : Props} {D : Int → Prop} {m : List (Int × Value)} {W : World} {base : Nat} {ok : Nat → Prop} (hD : ∀ p ∈ m, D p.1) (hr : ∀ a, RowAt (Kd.int .i64) 3 W base ok (Mp.get a m) (castN (idx l l.length 26 a))) : ∀ f t w, t < l.length → (orP P (rowsP l D) f t w ↔ orP P (acqP l) f t w) := by
  intro f t w hl
  refine ⟨fun q => q.imp id (fun q => q.2), fun q => q.imp id (fun r => ⟨?_, r⟩)⟩
  have h1 := idx_at (isO_iff.2 ⟨r.1, rfl⟩) l.length hl
  have h2 := hr (E l t).f4
  cases hg : Mp.get (E l t).f4 m with
  | none =>
    rw [hg] at h2
    have h3 : (idx l l.length 26 (E l t).f4) = [] := by
      have : castN (idx l l.length 26 (E l t).f4) = [] := h2
      unfold castN at this
      exact List.map_eq_nil_iff.1 this
    rw [h3] at h1
    cases h1
  | some v => exact hD _ (get_mem' hg)
theorem left_le {w : World} {b r : Nat} {m : List (Int × Value)} {D : Int → Prop} (h : Going (Value.int .i64) w b r m D) : w.rangeLeft b r ≤ m.length := by
  obtain ⟨es, clock, seen, c0, h1, h2, _, _, h5, _⟩ := h
  have e : es.size = m.length := by have := congrArg List.length h2; simpa using this
  unfold World.rangeLeft
  rw [h1, h5, ← e]
  unfold leftOf
  exact Array.size_filter_le
theorem below_none {w w2 : World} (hg : w.grownBy w2 none) : Below w.heap.size w w2 := ⟨hg.os, hg.tape, hg.output, hg.size, fun k hk => hg.block k hk (by simp)⟩
theorem acq_some {l : List S36} {a : Int} {k t s : Nat} (h1 : (idx l l.length 26 a)[k]? = some t) (h2 : (idx l l.length 27 a)[k]? = some s) : ∀ f w, acqP l f t w ↔ (f = (s : Int) ∧ w = 8) := by
  intro f w
  obtain ⟨_, b, c⟩ := idx_of h1
  obtain ⟨b1, b2⟩ := isO_iff.1 b
  unfold acqP
  rw [b2, c, h2]
  exact ⟨fun q => q.2, fun q => ⟨b1, q⟩⟩
theorem acq_none {l : List S36} {a : Int} {k t : Nat} (h1 : (idx l l.length 26 a)[k]? = some t) (h2 : (idx l l.length 27 a).length ≤ k) : ∀ f w, acqP l f t w ↔ (f = (l.length : Int) ∧ w = 0) := by
  intro f w
  obtain ⟨_, b, c⟩ := idx_of h1
  obtain ⟨b1, b2⟩ := isO_iff.1 b
  unfold acqP
  rw [b2, c, List.getElem?_eq_none h2]
  exact ⟨fun q => q.2, fun q => ⟨b1, q⟩⟩
theorem idx_len (l : List S36) (n : Nat) (kind a : Int) : (idx l n kind a).length ≤ n := by
  have := List.length_filter_le (isO l kind a) (List.range n)
  rw [List.length_range] at this
  exact this
theorem rd_cast {l : List Nat} {k t : Nat} (h : l[k]? = some t) : rd (castN l) (k : Int) = (t : Int) := by
  unfold rd castN
  rw [List.getD_eq_getElem?_getD, Int.toNat_natCast, List.getElem?_map, h]
  rfl
theorem Going.mapOf {w : World} {b r : Nat} {m : List (Int × Value)} {D : Int → Prop} (h : Going (Value.int .i64) w b r m D) : MapOf (Value.int .i64) w b m := by
  obtain ⟨es, clock, seen, c0, h1, h2, _⟩ := h
  exact ⟨es, clock, h1, h2⟩
theorem left_same {w w2 : World} {b r : Nat} (h1 : w2.heap[b]? = w.heap[b]?) (h2 : w2.heap[r]? = w.heap[r]?) : w2.rangeLeft b r = w.rangeLeft b r := by
  unfold World.rangeLeft
  rw [h1, h2]
theorem old_not {F : Fnd} {s1 k : Nat} {ok : Nat → Prop} (h : old F s1 k) : ¬ foot F s1 ok k := by
  rintro (q | q | q)
  · exact h.2.1 q
  · exact h.2.2 q
  · exact absurd h.1 (Nat.not_lt.2 q.2)
theorem FS.wrongAny {w W : World} {s1 : Nat} {F : Fnd} {l : List S36} {caps : List Int} {ok : Nat → Prop} {P : Props} {N : Nat} (h : FS w s1 F l caps ok P N W) {t : Nat} (ht : t < l.length) : ∃ b, W.cell? ⟨F.gw, t, none⟩ = some (.bool b) ∧ W.frozen? ⟨F.gw, t, none⟩ = false := by
  obtain ⟨vo, o, wr, H⟩ := h
  exact ⟨_, (blk_cell H.bw t).trans (wr_get (by rw [H.told.len]; exact ht)), blk_frozen H.bw t⟩
/-- The arrows so far, and so many keys still to come. -/
theorem mul_step {x y n ml : Nat} (h1 : y < x) (h2 : x ≤ ml) : (ml - x) * n + n ≤ (ml - y) * n := by
  rw [← Nat.succ_mul]
  exact Nat.mul_le_mul_right _ (by omega)
def flowI (w : World) (s1 : Nat) (F : Fnd) (l : List S36) (caps : List Int) (ok : Nat → Prop) (N : Nat) (W : World) (i : Nat) (wr : World) : Prop :=
  FS w s1 F l caps (okN ok W.heap.size) (orP (P0 l) (upTo (flowP l caps) i)) (N + i) wr ∧ Kept W wr (foot F s1 ok)
theorem kept_round2 {F : Fnd} {s1 : Nat} {ok : Nat → Prop} {W wr w6 w8 : World} (h : Kept W wr (foot F s1 ok)) (hb : Below wr.heap.size wr w6) (hk : Kept w6 w8 (foot F s1 (okN ok W.heap.size))) : Kept W w8 (foot F s1 ok) :=
  (h.below hb).then_ hk (fun k q => by rcases q with q | q | ⟨q | q, q2⟩; exact .inl (.inl q); exact .inl (.inr (.inl q)); exact .inl (.inr (.inr ⟨q, q2⟩)); exact .inr q)
theorem flowI.skip {w : World} {s1 : Nat} {F : Fnd} {l : List S36} {caps : List Int} {ok : Nat → Prop} {N : Nat} {W wr w2 : World} {i : Nat} (h : flowI w s1 F l caps ok N W i wr) (hb : Below wr.heap.size wr w2) (hn : ∀ f w, ¬ flowP l caps f i w) : flowI w s1 F l caps ok N W (i + 1) w2 :=
  ⟨(h.1.below hb).imp (fun k q _ _ => q) (fun f t w _ => up_none hn f t w) (by omega), h.2.below hb⟩
theorem flowI.one {w : World} {s1 : Nat} {F : Fnd} {l : List S36} {caps : List Int} {ok : Nat → Prop} {N : Nat} {W wr w2 w3 : World} {i : Nat} {f0 y0 : Int} (h : flowI w s1 F l caps ok N W i wr) (hb : Below wr.heap.size wr w2) (hn : ∀ f w, flowP l caps f i w ↔ (f = f0 ∧ w = y0))
    (hf : FS w s1 F l caps (fun k => okN ok W.heap.size k ∨ w2.heap.size ≤ k) (addP (orP (P0 l) (upTo (flowP l caps) i)) f0 i y0) (N + i + 1) w3) (hk : Kept w2 w3 (foot F s1 (okN ok W.heap.size))) : flowI w s1 F l caps ok N W (i + 1) w3 :=
  ⟨hf.imp (fun k q _ _ => q.elim id (fun q => .inr (Nat.le_trans h.2.1 (Nat.le_trans hb.size q)))) (fun f t w _ => up_one hn f t w) (by omega), kept_round2 h.2 hb hk⟩
set_option maxHeartbeats 8000000 in
set_option maxRecDepth 100000 in
theorem flows_calls {w : World} {s1 : Nat} {F : Fnd} {l : List S36} {caps : List Int} {ok : Nat → Prop} {N : Nat} (W : World) (h : FS w s1 F l caps ok (P0 l) N W) (hN2 : (N + l.length + l.length * l.length) * 24 ≤ 140737488355328) :
    Calls Try.prog 35 #[.pointer (some ⟨F.gf, 0, none⟩)] W fun e w' => e = .returned (.tuple #[]) ∧ FS w s1 F l caps (okN ok W.heap.size) (orP (orP (P0 l) (flowP l caps)) (acqP l)) (N + l.length + l.length * l.length) w' ∧ Kept W w' (foot F s1 ok) := by
  have hu75 := Try.underlying75
  have hu36 := Try.underlying36
  have hu22 := Try.underlying22
  have hu90 := Try.underlying90
  obtain ⟨A, c, hv, hl, hCl⟩ := h.ro.hl
  have hbf : W.cell? ⟨F.gf, 0, none⟩ = some (.slice A l.length c) := hv ▸ h.cells.1
  have HH := Aside0.mk h
  have HCl := Aside0.mk hCl
  have HN2 := Aside0.mk hN2
  have HN := Aside0.mk (show (N + l.length) * 24 ≤ 140737488355328 by omega)
  have HV := Aside0.mk hv
  clear h hCl hN2 hv
  go_enter Try.func35, Try.ntmps35
  go_wp2
  go_loopw [18] (fun v18 wr => ∃ i : Nat, v18 = .int .i64 (i : Int) ∧ Aside0 (i ≤ l.length) ∧ Aside0 (flowI w s1 F l caps ok N W i wr)) (fun v18 _ => l.length - (intOf v18).toNat)
  case atStart => exact ⟨0, rfl, ⟨Nat.zero_le _⟩, ⟨⟨HH.out.imp (fun k q _ _ => .inl q) (fun f t w _ => up_start f t w) (by omega), Kept.refl _ _⟩⟩⟩
  case round =>
    clear HH hbf
    obtain ⟨i, rfl, HI, HF⟩ := hrel
    by_cases hlt : (i : Int) < (l.length : Int)
    · have hi0 : (0 : Int) ≤ (i : Int) := by omega
      have hil : i < l.length := by omega
      have HIL := Aside0.mk hil
      have HW := Aside0.mk (wrap_succ hil HF.out.1.ro.hn)
      have HLT := Aside0.mk hlt
      obtain ⟨x, HX⟩ : ∃ x, Aside0 (E l i = x) := ⟨_, ⟨rfl⟩⟩
      obtain ⟨ad, e1, hx0, hx1, hx2, hx3, hx4, hx5, hx6, hx7⟩ := at_ev HCl.out HF.out.1.ro.hb hil HX.out
      cases e1
      clear hil
      go_upto_region 3 with (first
      | ((with_reducible refine gate_dst (N := 3) rfl ?_); refine box_event ?hg (N := 3) ?hd (cs := zE) (t := 36) ?hr ?_; (case hd => rfl); (case hg => rfl); (case hr => first | (go_simp; done) | (go_simp; rfl)); intro bl hbl w5 hbox hb; have HB5 := Aside0.mk hb; have BK5 := Aside0.mk hbox; have HBL := Aside0.mk (show wr.heap.size ≤ bl by omega); clear hb hbox hbl hx0 hx1 hx2 hx3 hx4 hx5 hx6 hx7)
      | ((with_reducible refine gate_store (t := 36) (p := 3) (v := .tmp 22) rfl ?_); refine step_store rfl rfl rfl BK5.out rfl (u := .agg (cE x)) (seg := (cE x).toList) rfl rfl (by kernel_rfl) (by simp [Value.oneCell']) (Nat.le_refl 8) (cur' := cE x) rfl ?_; intro w6 hb6 hg6 hs6; have HB6 := Aside0.mk (below_mput HB5.out hg6 (show wr.heap.size ≤ bl by have := HBL.out; omega) HB5.out.size); have BX := Aside0.mk hb6; have n4 : w6.cell? ⟨bl, 4, none⟩ = some (.int .i64 x.f3) := (blk_cell hb6 4).trans rfl; have n5 : w6.cell? ⟨bl, 5, none⟩ = some (.int .i64 x.f4) := (blk_cell hb6 5).trans rfl; have n6 : w6.cell? ⟨bl, 6, none⟩ = some (.int .i64 x.f5) := (blk_cell hb6 6).trans rfl; clear hb6 hg6 hs6 BK5 HB5))
      have HF6 := Aside0.mk (HF.out.1.below HB6.out)
      have d5 : w6.cell? ⟨F.gf, 5, none⟩ = some (.slice (some ⟨F.gw, 0, none⟩) l.length l.length) := HF6.out.cells.2.2.2.2.1
      obtain ⟨rw, HRW⟩ : ∃ rw, Aside0 (readWrong l i = rw) := ⟨_, ⟨rfl⟩⟩
      have HWR := Aside0.mk (fun (W2 : World) (hb : Below wr.heap.size wr W2) => (HF.out.1.below hb).wrong HIL.out (b := rw) (by rw [← HRW.out]; exact wrong_flow HIL.out))
      obtain ⟨dw, zw⟩ := HWR.out _ HB6.out
      obtain ⟨kd, HKD⟩ : ∃ kd, Aside0 (x.f3 = kd) := ⟨_, ⟨rfl⟩⟩
      rw [HKD.out] at n4
      by_cases k17 : kd = 17
      · subst k17
        cases rw with
        | true =>
          go_wp2
          go_roundw
          case rel => exact ⟨i + 1, by rw [HW.out], ⟨HIL.out⟩, ⟨HF.out.skip HB6.out (by exact flow_wrong HRW.out)⟩⟩
          case measure => exact meas_lt (Int.ofNat_lt.1 HLT.out) HW.out
        | false =>
          by_cases hz : x.f5 = 0
          · have HZ := Aside0.mk hz
            rw [hz] at n6
            clear hz
            go_wp2
            go_roundw
            case rel => exact ⟨i + 1, by rw [HW.out], ⟨HIL.out⟩, ⟨HF.out.skip HB6.out (by exact flow_r0 (by rw [HX.out]; exact HKD.out) (by rw [HX.out]; exact HZ.out))⟩⟩
            case measure => exact meas_lt (Int.ofNat_lt.1 HLT.out) HW.out
          · have HZ := Aside0.mk hz
            have hz1 : (x.f5 == 0) = false := by simp [hz]
            clear hz
            have d3 : w6.cell? ⟨F.gf, 3, none⟩ = some (.map (some F.s)) := HF6.out.cells.2.2.1
            obtain ⟨m, hM, hm⟩ := HF6.out.ro.hms
            have HM := Aside0.mk hM
            have Hm := Aside0.mk hm
            clear hM hm
            go_upto_region 6 with (fail)
            cases hp : place l l.length 16 (x.f4, x.f5) with
            | some s =>
              have HP := Aside0.mk hp
              go_still_tail 14, (by kernel_rfl)
              refine still_value (W := w6.drew) rfl (exec_look (ok := true) (v := .tuple #[.int .i64 (s : Int), .bool true]) keyK Try.underlying72 rfl (zero3 _) HM.out.drew (x.f4, x.f5) rfl rfl (look_some Hm.out hp)) ?_
              repeat still_step
              refine wpStill_nil ?_
              change wpList _ _ _ _ _ w6.drew
              have HB7 := Aside0.mk (below_drew HB6.out)
              clear hp dw zw d3 d5 n4 n5 n6 hz1 HF6
              generalize w6.drew = w7 at *
              have HOr := Aside0.mk (origin_calls s w7 (HF.out.1.below HB7.out) (place_lt HP.out))
              go_wp2_with (first
                | (go_at_call 53; (refine HOr.out.mono ?_); rintro e w8 ⟨rfl, hb8⟩; have HB8 := Aside0.mk (below_step HB7.out hb8); have HAr := Aside0.mk (arrow_calls (origin l s) i 2 w8 (HF.out.1.below HB8.out) HIL.out (by have := HN.out; have := HIL.out; omega)); clear hb8)
                | (go_at_call 52; (refine HAr.out.mono ?_); rintro e w9 ⟨rfl, hf9, hk9⟩; have HF9 := Aside0.mk hf9; have HK9 := Aside0.mk hk9; clear hf9 hk9))
              go_roundw
              case rel => exact ⟨i + 1, by rw [HW.out], ⟨HIL.out⟩, ⟨HF.out.one HB8.out (flow_r (by rw [HX.out]; exact HKD.out) HRW.out (by rw [HX.out]; exact HZ.out) (by rw [HX.out]; exact HP.out)) HF9.out HK9.out⟩⟩
              case measure => exact meas_lt (Int.ofNat_lt.1 HLT.out) HW.out
            | none =>
              have HP := Aside0.mk hp
              go_still_tail 14, (by kernel_rfl)
              refine still_value (W := w6.drew) rfl (exec_look (ok := true) (v := .tuple #[.int .i64 0, .bool false]) keyK Try.underlying72 rfl (zero3 _) HM.out.drew (x.f4, x.f5) rfl rfl (look_none' Hm.out hp)) ?_
              repeat still_step
              refine wpStill_nil ?_
              change wpList _ _ _ _ _ w6.drew
              have HB7 := Aside0.mk (below_drew HB6.out)
              clear hp dw zw d3 d5 n4 n5 n6 hz1 HF6
              generalize w6.drew = w7 at *
              have d5 : w7.cell? ⟨F.gf, 5, none⟩ = some (.slice (some ⟨F.gw, 0, none⟩) l.length l.length) := (HF.out.1.below HB7.out).cells.2.2.2.2.1
              obtain ⟨dw, zw⟩ := HWR.out _ HB7.out
              go_wp2
              have HMk := Aside0.mk ((HF.out.1.below HB7.out).mark HIL.out (f := (l.length : Int)) (by have := HIL.out; omega) 0)
              go_roundw
              case rel => exact ⟨i + 1, by rw [HW.out], ⟨HIL.out⟩, ⟨HF.out.one HB7.out (flow_rn (by rw [HX.out]; exact HKD.out) HRW.out (by rw [HX.out]; exact HZ.out) (by rw [HX.out]; exact HP.out)) (HMk.out.1.imp (fun k q _ _ => .inl q) (fun _ _ _ _ => Iff.rfl) (Nat.le_succ _)) HMk.out.2⟩⟩
              case measure => exact meas_lt (Int.ofNat_lt.1 HLT.out) HW.out
      · have q17 : (kd == 17) = false := by simp [k17]
        by_cases k16 : kd = 16
        · subst k16
          clear k17 q17
          have HCp := Aside0.mk (capacity_calls x.f4 w6 HF6.out)
          obtain ⟨cp, HCP⟩ : ∃ cp, Aside0 (cap caps x.f4 = cp) := ⟨_, ⟨rfl⟩⟩
          rw [HCP.out] at HCp
          go_upto_region 12 with (go_at_call 54; (refine HCp.out.mono ?_); rintro e w7 ⟨rfl, hb7⟩; have HB7 := Aside0.mk (below_step HB6.out hb7); replace n5 := pw_cell_below hb7 n5; replace n6 := pw_cell_below hb7 n6; replace d5 := pw_cell_below hb7 d5; clear hb7)
          clear dw zw
          obtain ⟨dw, zw⟩ := HWR.out _ HB7.out
          cases rw with
          | true =>
            go_wp2
            go_roundw
            case rel => exact ⟨i + 1, by rw [HW.out], ⟨HIL.out⟩, ⟨HF.out.skip HB7.out (by exact flow_wrong HRW.out)⟩⟩
            case measure => exact meas_lt (Int.ofNat_lt.1 HLT.out) HW.out
          | false =>
            by_cases hz : x.f5 ≤ cp
            · have HZ := Aside0.mk hz
              have hz1 : decide (x.f5 ≤ cp) = true := decide_eq_true hz
              clear hz
              go_wp2
              go_roundw
              case rel => exact ⟨i + 1, by rw [HW.out], ⟨HIL.out⟩, ⟨HF.out.skip HB7.out (by exact flow_s0 (by rw [HX.out]; exact HKD.out) (by rw [HX.out, HCP.out]; exact HZ.out))⟩⟩
              case measure => exact meas_lt (Int.ofNat_lt.1 HLT.out) HW.out
            · have HZ := Aside0.mk hz
              have hz1 : decide (x.f5 ≤ cp) = false := decide_eq_false hz
              clear hz
              have d4 : w7.cell? ⟨F.gf, 4, none⟩ = some (.map (some F.r)) := (HF.out.1.below HB7.out).cells.2.2.2.1
              obtain ⟨m, hM, hm⟩ := (HF.out.1.below HB7.out).ro.hmr
              have HM := Aside0.mk hM
              have Hm := Aside0.mk hm
              clear hM hm
              go_upto_region 13 with (fail)
              cases hp : place l l.length 17 (x.f4, wrap64 (x.f5 - cp)) with
              | some s =>
                have HP := Aside0.mk hp
                go_still_tail 16, (by kernel_rfl)
                refine still_value (W := w7.drew) rfl (exec_look (ok := true) (v := .tuple #[.int .i64 (s : Int), .bool true]) keyK Try.underlying72 rfl (zero3 _) HM.out.drew (x.f4, wrap64 (x.f5 - cp)) rfl ?hy (look_some Hm.out hp)) ?_
                case hy => rw [enc2_wrap]; rfl
                repeat still_step
                refine wpStill_nil ?_
                change wpList _ _ _ _ _ w7.drew
                have HB8 := Aside0.mk (below_drew HB7.out)
                clear hp dw zw d4 d5 n4 n5 n6 hz1 HF6
                generalize w7.drew = w8 at *
                have HOr := Aside0.mk (origin_calls s w8 (HF.out.1.below HB8.out) (place_lt HP.out))
                go_wp2_with (first
                  | (go_at_call 53; (refine HOr.out.mono ?_); rintro e w9 ⟨rfl, hb9⟩; have HB9 := Aside0.mk (below_step HB8.out hb9); have HAr := Aside0.mk (arrow_calls (origin l s) i 3 w9 (HF.out.1.below HB9.out) HIL.out (by have := HN.out; have := HIL.out; omega)); clear hb9)
                  | (go_at_call 52; (refine HAr.out.mono ?_); rintro e w10 ⟨rfl, hf9, hk9⟩; have HF9 := Aside0.mk hf9; have HK9 := Aside0.mk hk9; clear hf9 hk9))
                go_roundw
                case rel => exact ⟨i + 1, by rw [HW.out], ⟨HIL.out⟩, ⟨HF.out.one HB9.out (flow_s (by rw [HX.out]; exact HKD.out) HRW.out (by rw [HX.out, HCP.out]; have := HZ.out; omega) (by rw [HX.out, HCP.out]; exact HP.out)) HF9.out HK9.out⟩⟩
                case measure => exact meas_lt (Int.ofNat_lt.1 HLT.out) HW.out
              | none =>
                have HP := Aside0.mk hp
                go_still_tail 16, (by kernel_rfl)
                refine still_value (W := w7.drew) rfl (exec_look (ok := true) (v := .tuple #[.int .i64 0, .bool false]) keyK Try.underlying72 rfl (zero3 _) HM.out.drew (x.f4, wrap64 (x.f5 - cp)) rfl ?hy (look_none' Hm.out hp)) ?_
                case hy => rw [enc2_wrap]; rfl
                repeat still_step
                refine wpStill_nil ?_
                change wpList _ _ _ _ _ w7.drew
                have HB8 := Aside0.mk (below_drew HB7.out)
                clear hp dw zw d4 d5 n4 n5 n6 hz1 HF6
                generalize w7.drew = w8 at *
                go_wp2
                go_roundw
                case rel => exact ⟨i + 1, by rw [HW.out], ⟨HIL.out⟩, ⟨HF.out.skip HB8.out (by exact flow_sn (by rw [HX.out]; exact HKD.out) (by rw [HX.out, HCP.out]; exact HP.out))⟩⟩
                case measure => exact meas_lt (Int.ofNat_lt.1 HLT.out) HW.out
        · have q16 : (kd == 16) = false := by simp [k16]
          have HNK := Aside0.mk (show kd ≠ 17 ∧ kd ≠ 16 from ⟨k17, k16⟩)
          clear k16 k17
          go_wp2
          go_roundw
          case rel => exact ⟨i + 1, by rw [HW.out], ⟨HIL.out⟩, ⟨HF.out.skip HB6.out (by exact flow_kind (by rw [HX.out, HKD.out]; exact HNK.out.1) (by rw [HX.out, HKD.out]; exact HNK.out.2))⟩⟩
          case measure => exact meas_lt (Int.ofNat_lt.1 HLT.out) HW.out
    · have hi : i = l.length := by have := HI.out; omega
      subst hi
      have HF1 := Aside0.mk (HF.out.1.imp (fun k q _ _ => q) (fun f t w ht => up_end f t w ht) (Nat.le_refl _))
      have HK1 := Aside0.mk HF.out.2
      clear HF hlt
      have d6 := HF1.out.cells.2.2.2.2.2.1
      obtain ⟨m, hM, hml, hmk, hmr⟩ := HF1.out.ro.hma
      have HM := Aside0.mk hM
      have HML := Aside0.mk hml
      have HMK := Aside0.mk hmk
      have HMR := Aside0.mk hmr
      clear hM hml hmk hmr
      obtain ⟨nb, hnb⟩ : ∃ nb, wr.heap.size = nb := ⟨_, rfl⟩
      go_wp2_with (first
        | (at_range; refine step_range rfl _ 73 rfl Try.underlying73 rfl HM.out ?_; rw [hnb]; intro w2 hgo hgr hsz; have HG2 := Aside0.mk hgo; have HB2 := Aside0.mk (below_none hgr); clear hgo hgr hsz)
        | go_in)
      go_frame
      have HNB := Aside0.mk hnb
      clear hnb d6
      have HF2 := Aside0.mk ((HF1.out.imp (ok2 := fun k => okN ok W.heap.size k ∧ k ≠ nb) (fun k q _ hk => ⟨q, by have := HNB.out; omega⟩) (fun _ _ _ _ => Iff.rfl) (Nat.le_refl _)).below HB2.out)
      have HS := Aside0.mk (show s1 ≤ nb by rw [← HNB.out]; exact HF1.out.ro.hs1)
      have HWN := Aside0.mk (show W.heap.size ≤ nb by rw [← HNB.out]; exact HK1.out.1)
      have HNF := Aside0.mk (show ¬ foot F s1 (fun k => okN ok W.heap.size k ∧ k ≠ nb) nb from fun q => by have h2 := HF1.out.ro.hgf; have h3 := HF1.out.ro.hgw; have h4 := HS.out; rcases q with q | q | q; (· omega); (· omega); (· exact q.1.2 rfl))
      have HNA := Aside0.mk (show ¬ foot F s1 (fun k => okN ok W.heap.size k ∧ k ≠ nb) F.a from fun q => by have h2 := HF1.out.ro.hm F.a (.inr (.inr (.inl rfl))); rcases q with q | q | q; (· exact h2.2.1 q); (· exact h2.2.2 q); (· exact absurd q.2 (Nat.not_le.2 h2.1)))
      have HK2 := Aside0.mk (HK1.out.below HB2.out)
      have HAL := Aside0.mk (HF1.out.ro.hm F.a (.inr (.inr (.inl rfl))))
      clear HF1 HK1 HB2 HM HMR
      go_loopw [9] (fun _ wr => ∃ D : Int → Prop, Aside0 (Going (Value.int .i64) wr F.a nb m D) ∧ Aside0 (FS w s1 F l caps (fun k => okN ok W.heap.size k ∧ k ≠ nb) (orP (orP (P0 l) (flowP l caps)) (rowsP l D)) (N + l.length + (m.length - wr.rangeLeft F.a nb) * l.length) wr) ∧ Aside0 (Kept W wr (foot F s1 ok))) (fun _ wr => wr.rangeLeft F.a nb)
      case atStart => exact ⟨_, HG2, ⟨HF2.out.imp (fun k q _ _ => q) (fun f t w _ => ⟨.inl, fun q => q.elim id (fun q => q.1.elim)⟩) (Nat.le_add_right _ _)⟩, HK2⟩
      case round =>
        clear HG2 HF2 HK2
        obtain ⟨D, HG, HF, HK⟩ := hrel
        go_wp2_with (first
          | (at_next; refine step_next rfl _ rfl rfl HG.out ?_ ?_)
          | go_in)
        · intro hall
          have HAll := Aside0.mk hall
          clear hall
          go_wp2
          go_end0
          obtain ⟨m2, hM2, _, _, hmr⟩ := HF.out.ro.hma
          obtain rfl := map_inj (Going.mapOf HG.out) hM2.of
          have hml := HML.out
          refine ⟨rfl, HF.out.imp (fun k q _ _ => q.1) (fun f t w ht => rows_end (fun p hp => HAll.out p.1 p.2 hp) hmr f t w ht) (Nat.add_le_add_left (Nat.mul_le_mul_right _ (Nat.le_trans (Nat.sub_le _ _) hml)) _), HK.out⟩
        · intro a v w3 hp hgo hlt hgr hsz hen
          have HG3 := Aside0.mk hgo
          have HLt := Aside0.mk hlt
          have HF3 := Aside0.mk (HF.out.grown hgr HS.out (fun q => q.2 rfl))
          have HK3 := Aside0.mk (Kept.of_grown hgr HK.out (fun k e => by cases e; exact .inr HWN.out))
          have HMem := Aside0.mk (HMK.out (a, v) hp)
          have HLe := Aside0.mk (left_le HG.out)
          clear hgo hlt hgr hsz hp
          obtain ⟨m2, hM2, _, _, hmr⟩ := HF3.out.ro.hma
          obtain rfl := map_inj (Going.mapOf HG3.out) hM2.of
          have hrow := hmr a
          rw [HMem.out] at hrow
          replace hrow : Kd.Q (Kd.int .i64) 3 w3 w.heap.size (old F s1) v (castN (idx l l.length 26 a)) := hrow
          clear hmr hM2
          obtain ⟨L, HL⟩ : ∃ L, Aside0 (idx l l.length 26 a = L) := ⟨_, ⟨rfl⟩⟩
          rw [HL.out] at hrow
          obtain ⟨A2, c2, rfl, hc2⟩ := Kd.Q_slice hrow
          have hcl : (castN L).length = L.length := by simp [castN]
          rw [hcl] at hrow hen ⊢
          have HRow := Aside0.mk hrow
          clear hrow hcl hc2 HMem
          obtain ⟨N0, HN0⟩ : ∃ N0, Aside0 (N + l.length + (m.length - wr.rangeLeft F.a nb) * l.length = N0) := ⟨_, ⟨rfl⟩⟩
          rw [HN0.out] at HF3
          have hL0 : L.length ≤ l.length := by rw [← HL.out]; exact idx_len _ _ _ _
          have HL0 := Aside0.mk hL0
          have HNN := Aside0.mk (show (N0 + l.length) * 24 ≤ 140737488355328 by
            have h1 := HN2.out
            have h2 : (m.length - wr.rangeLeft F.a nb) * l.length + l.length ≤ l.length * l.length := by
              have hx := HML.out
              have hy := HLt.out
              have hz := HLe.out
              rw [← Nat.succ_mul]
              exact Nat.mul_le_mul_right _ (by omega)
            have h3 := HN0.out
            omega)
          clear hL0
          go_wp2
          go_loopw [119] (fun v119 wr => ∃ k : Nat, v119 = .int .i64 (k : Int) ∧ Aside0 (k ≤ L.length) ∧ Aside0 (FS w s1 F l caps (fun k => okN ok W.heap.size k ∧ k ≠ nb) (orP (orP (P0 l) (flowP l caps)) (inP l D a k)) (N0 + k) wr) ∧ Aside0 (Kept w3 wr (foot F s1 (fun k => okN ok W.heap.size k ∧ k ≠ nb)))) (fun v119 _ => L.length - (intOf v119).toNat)
          case atStart => exact ⟨0, rfl, ⟨Nat.zero_le _⟩, ⟨HF3.out.imp (fun k q _ _ => q) (fun f t w _ => in_start f t w) (Nat.le_refl _)⟩, ⟨Kept.refl _ _⟩⟩
          case round =>
            obtain ⟨k, rfl, HI2, HF4, HK4⟩ := hrel
            by_cases hlk : (k : Int) < (L.length : Int)
            · have hkl : k < L.length := by omega
              have hk0 : (0 : Int) ≤ (k : Int) := by omega
              obtain ⟨t, ht⟩ : ∃ t, L[k]? = some t := ⟨_, List.getElem?_eq_getElem hkl⟩
              have HT := Aside0.mk (show (idx l l.length 26 a)[k]? = some t by rw [HL.out]; exact ht)
              have htl := (idx_of HT.out).1
              have HTL := Aside0.mk htl
              have hr4 := (Kd.Q_reads' (Kd.Q_step HRow.out (fun q ho hlt => HK4.out.2 q hlt (old_not ho)))).2.2
              rw [show (castN L).length = L.length by simp [castN]] at hr4
              obtain ⟨ad2, e2, y0⟩ := Kd.at_int hr4 (k : Int) hk0 hlk
              cases e2
              rw [rd_cast ht, Int.toNat_natCast] at y0
              have d7 := HF4.out.cells.2.2.2.2.2.2
              obtain ⟨mb, hMb, _, _, hmrb⟩ := HF4.out.ro.hmb
              have hr5 := (hmrb a).val
              obtain ⟨K, HKK⟩ : ∃ K, Aside0 (idx l l.length 27 a = K) := ⟨_, ⟨rfl⟩⟩
              rw [HKK.out] at hr5
              obtain ⟨A3, c3, e3, hc3⟩ := Kd.Q_slice hr5
              have hcl : (castN K).length = K.length := by simp [castN]
              rw [hcl] at e3
              have l2 : (Instr.lookup 73 (.map (some F.b)) (.int .i64 a) false).run Try.prog wr = .ok (.slice A3 K.length c3) wr := by
                have := run_look keyL Try.underlying73 (zero58 wr) hMb.of a false
                rw [if_neg (by simp), e3] at this
                exact this
              rw [e3] at hr5
              have hr6 := (Kd.Q_reads' hr5).2.2
              rw [hcl] at hr6
              have t0 : (0 : Int) ≤ (t : Int) := by omega
              have t1 : (t : Int) < (l.length : Int) := by omega
              have HW2 := Aside0.mk (wrap_succ (Nat.lt_of_lt_of_le hkl HL0.out) HF4.out.ro.hn)
              have HKL := Aside0.mk hkl
              clear hr4 hr5 hmrb hMb hcl htl ht hkl e3
              by_cases hge : K.length ≤ k
              · have hge1 : decide ((K.length : Int) ≤ (k : Int)) = true := decide_eq_true (by omega)
                have HGE := Aside0.mk (show (idx l l.length 27 a).length ≤ k by rw [HKK.out]; exact hge)
                obtain ⟨bw, dw, zw⟩ := HF4.out.wrongAny HTL.out
                have d5 := HF4.out.cells.2.2.2.2.1
                have HMk := Aside0.mk (HF4.out.mark HTL.out (f := (l.length : Int)) (by have := HTL.out; omega) 0)
                have hge2 : (K.length : Int) ≤ (k : Int) := by omega
                have hge3 : decide (K.length ≤ k) = true := decide_eq_true hge
                clear hr6
                go_wp2
                go_roundw
                case rel => exact ⟨k + 1, by rw [HW2.out], ⟨HKL.out⟩, ⟨HMk.out.1.imp (fun k q _ _ => q) (fun f t w ht => in_step HT.out (acq_none HT.out HGE.out) f t w ht) (by omega)⟩, ⟨HK4.out.then_ HMk.out.2 (fun k q => .inl q)⟩⟩
                case measure => exact meas_lt HKL.out HW2.out
              · have hge1 : decide ((K.length : Int) ≤ (k : Int)) = false := decide_eq_false (by omega)
                have hkk : (k : Int) < (K.length : Int) := by omega
                obtain ⟨s, hs⟩ : ∃ s, K[k]? = some s := ⟨_, List.getElem?_eq_getElem (show k < K.length by omega)⟩
                have HSS := Aside0.mk (show (idx l l.length 27 a)[k]? = some s by rw [HKK.out]; exact hs)
                obtain ⟨ad3, e4, y1⟩ := Kd.at_int hr6 (k : Int) hk0 hkk
                cases e4
                rw [rd_cast hs, Int.toNat_natCast] at y1
                have HAr := Aside0.mk (arrow_calls (s : Int) t 8 wr HF4.out HTL.out (by have := HNN.out; have := HKL.out; have := HL0.out; omega))
                have hge2 : ¬ (K.length : Int) ≤ (k : Int) := by omega
                have hge3 : decide (K.length ≤ k) = false := decide_eq_false hge
                clear hs hr6
                go_wp2_with (first
                  | (go_at_call 52; (refine HAr.out.mono ?_); rintro e w9 ⟨rfl, hf9, hk9⟩; have HF9 := Aside0.mk hf9; have HK9 := Aside0.mk hk9; clear hf9 hk9))
                go_roundw
                case rel => exact ⟨k + 1, by rw [HW2.out], ⟨HKL.out⟩, ⟨HF9.out.imp (fun k q _ _ => q.elim id (fun q => ⟨.inr (Nat.le_trans HWN.out (Nat.le_trans (Nat.le_of_lt HG3.out.lt.2.1) (Nat.le_trans HK4.out.1 q))), by have := HG3.out.lt.2.1; have := HK4.out.1; omega⟩)) (fun f t w ht => in_step HT.out (acq_some HT.out HSS.out) f t w ht) (by omega)⟩, ⟨HK4.out.then_ HK9.out (fun k q => .inl q)⟩⟩
                case measure => exact meas_lt HKL.out HW2.out
            · have hk : k = L.length := by have := HI2.out; omega
              subst hk
              go_wp2
              have HA1 := Aside0.mk (show wr.heap[F.a]? = w3.heap[F.a]? from HK4.out.2 _ HG3.out.lt.1 HNA.out)
              have HA2 := Aside0.mk (show wr.heap[nb]? = w3.heap[nb]? from HK4.out.2 _ HG3.out.lt.2.1 HNF.out)
              go_roundw
              case rel => exact ⟨_, ⟨HG3.out.kept HA1.out HA2.out⟩, ⟨HF4.out.imp (fun k q _ _ => q) (fun f t w ht => by rw [← HL.out]; exact in_end f t w ht) (by rw [left_same HA1.out HA2.out]; have h1 := mul_step (n := l.length) HLt.out HLe.out; have h2 := HN0.out; have h3 := HL0.out; omega)⟩, ⟨HK3.out.then_ HK4.out (fun k q => by rcases q with q | q | ⟨⟨q | q, _⟩, q2⟩; exact .inl (.inl q); exact .inl (.inr (.inl q)); exact .inl (.inr (.inr ⟨q, q2⟩)); exact .inr q)⟩⟩
              case measure => rw [left_same HA1.out HA2.out]; exact HLt.out
end Go.Proofs.Ytkbfijkohngjjaa.Od
