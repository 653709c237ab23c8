/- The finder's 'conditions': the arrows of signals. Conditions: each theorem's own.
   The finder's 'conditions': the arrows of signals. Conditions: each theorem's own. -/
import Derived.Test.YtkbfijkohngjjaaOz1
import Derived.Test.YtkbfijkohngjjaaOf
import Derived.Test.YtkbfijkohngjjaaOo
import Derived.Deep.RegionLaw
set_option linter.unusedVariables false
set_option linter.unusedSimpArgs false
namespace Go.Proofs.Ytkbfijkohngjjaa.Od
open Go.RowKit Go.Proofs.Ytkbfijkohngjjaa.Ef Go.Proofs.Ytkbfijkohngjjaa.Mp Go.Proofs.Ytkbfijkohngjjaa.QOrder Go.Proofs.YtkbfijkohngjjaaW.PrintWords Go.Proofs.YtkbfijkohngjjaaW.PrintLast Go.Proofs.YtkbfijkohngjjaaW.PrintMore
/-- Whose a block is: a condition's row of those that wait, a goroutine's row of signals. -/
inductive Tg where
  | w (c : Int)
  | t (g : Int × Int)
def okC (ok : Nat → Prop) (n m1 m2 : Nat) (own : Nat → Option Tg) (k : Nat) : Prop := okN ok n k ∧ k ≠ m1 ∧ k ≠ m2 ∧ own k = none
theorem map_ne {κ α : Type} {enc : κ → Value} {W : World} {b : Nat} {m : List (κ × Value)} {d : Kd α} {e base : Nat} {ok : Nat → Prop} {v : Value} {xs : List α} (h : MapOf enc W b m) (hv : d.Q e W base ok v xs) : some b ≠ v.ownBlock := by
  intro q
  obtain ⟨cells, hc⟩ := Kd.Q_typed hv b q.symm
  obtain ⟨es, cl, h1, _⟩ := h
  rw [h1] at hc
  cases hc
theorem add_len (gs : List S34) (i : Int) (cont : Int × Int → List Int) (g : Int × Int) : (addAll gs i cont g).length ≤ (cont g).length + gs.length := by
  unfold addAll
  rw [List.length_append, List.length_map]
  have := List.length_filter_le (fun x => decide (gk x = g)) gs
  omega
theorem map_ne' {κ α : Type} {enc : κ → Value} {W : World} {b st : Nat} {k : κ} {m : List (κ × Value)} [DecidableEq κ] {d : Kd α} {e base : Nat} {ok : Nat → Prop} {v : Value} {xs : List α} (h : Ent enc W b k m st) (hv : d.Q e W base ok v xs) : some b ≠ v.ownBlock := by
  intro q
  obtain ⟨cells, hc⟩ := Kd.Q_typed hv b q.symm
  obtain ⟨_, _, _, _, h1, _⟩ := h
  rw [h1] at hc
  cases hc
theorem take_snoc {xs : List S34} {j : Nat} {g : S34} (hj : j < xs.length) (hg : rd_T34 xs (j : Int) = g) : xs.take (j + 1) = xs.take j ++ [g] := by
  rw [List.take_succ_eq_append_getElem hj, ← hg]
  unfold rd_T34
  rw [Int.toNat_natCast, List.getD_eq_getElem?_getD, List.getElem?_eq_getElem hj]
  rfl
theorem not_map {κ : Type} {enc : κ → Value} {W : World} {b g e : Nat} {cs : Array Value} {fr : Nat × Nat} {m : List (κ × Value)} (hg : W.heap[g]? = some (.cells cs e fr)) (h : MapOf enc W b m) : some g ≠ some b := by
  intro q
  obtain ⟨_, _, h1, _⟩ := h
  rw [← Option.some.inj q, hg] at h1
  cases h1
theorem meas_lt2 {i t : Nat} (h : i < t) : t - (intOf (Value.int IntKind.i64 ((i : Int) + 1))).toNat < t - (intOf (Value.int IntKind.i64 (i : Int))).toNat := by
  show t - ((i : Int) + 1).toNat < t - (i : Int).toNat
  omega
theorem addAll_snoc' (gs : List S34) (x : S34) (i : Int) (cont : Int × Int → List Int) (g : Int × Int) : (if g = gk x then addAll gs i cont (gk x) ++ [i] else addAll gs i cont g) = addAll (gs ++ [x]) i cont g := by
  rw [addAll_snoc]
  by_cases e : g = gk x
  · rw [if_pos e, if_pos e, e]
  · rw [if_neg e, if_neg e]
/-- What conditions knows: the rows of those that wait and of the signals. -/
structure CI (w : World) (s1 : Nat) (F : Fnd) (l : List S36) (caps : List Int) (ok : Nat → Prop) (P : Props) (N : Nat) (W : World) (m1 m2 : Nat) (cwf : Int → List S34) (ctf : Int × Int → List Int) (own : Nat → Option Tg) (mw : List (Int × Value)) (mt : List ((Int × Int) × Value)) (wr : World) : Prop where
  fs : FS w s1 F l caps (okC ok W.heap.size m1 m2 own) P N wr
  kp : Kept W wr (foot F s1 ok)
  hmw : MapOf (Value.int .i64) wr m1 mw
  hmt : MapS enc2 wr m2 mt
  nd : (mt.map (·.1)).Nodup
  rw : Rows k34 34 wr W.heap.size own Tg.w mw cwf
  rt : Rows (Kd.int .i64) 3 wr W.heap.size own Tg.t mt ctf
  ne : m1 ≠ m2 ∧ W.heap.size ≤ m1 ∧ W.heap.size ≤ m2 ∧ s1 ≤ W.heap.size
  om : own m1 = none ∧ own m2 = none
theorem Q_reown {α : Type} {d : Kd α} {e base : Nat} {W : World} {own : Nat → Option Tg} {τ : Tg} {v : Value} {xs : List α} (h : d.Q e W base (fun q => own q = some τ) v xs) (x : Option Tg) : d.Q e W base (fun q => reown own W.heap.size x q = some τ) v xs :=
  Kd.Q_mono (Kd.Q_bound h) (fun k q => by unfold reown; rw [if_pos q.2.2.1]; exact q.1)
theorem reown_lt {own : Nat → Option Tg} {n k : Nat} {x : Option Tg} (h : k < n) : reown own n x k = own k := by unfold reown; rw [if_pos h]
theorem reown_ge {own : Nat → Option Tg} {n k : Nat} {x : Option Tg} (h : n ≤ k) : reown own n x k = x := by unfold reown; rw [if_neg (by omega)]
section
variable {w : World} {s1 : Nat} {F : Fnd} {l : List S36} {caps : List Int} {ok ok2 : Nat → Prop} {P P2 : Props} {N N2 : Nat} {W wr w2 w7 w8 wa wb wc : World} {m1 m2 : Nat} {cwf cwf2 : Int → List S34} {ctf ctf2 : Int × Int → List Int} {own : Nat → Option Tg} {mw : List (Int × Value)} {mt : List ((Int × Int) × Value)}
theorem FS.growO (h : FS w s1 F l caps ok P N wr) {row : Option Nat} (hg : wr.grownBy w2 row) (hr : ∀ g, row = some g → s1 ≤ g ∧ ¬ ok g) : FS w s1 F l caps ok P N w2 := by
  cases row with
  | none => exact h.below ⟨hg.os, hg.tape, hg.output, hg.size, fun k hk => hg.block k hk (by simp)⟩
  | some g => exact h.grown hg (hr g rfl).1 (hr g rfl).2
theorem CI.below (h : CI w s1 F l caps ok P N W m1 m2 cwf ctf own mw mt wr) (hb : Below wr.heap.size wr w2) : CI w s1 F l caps ok P N W m1 m2 cwf ctf own mw mt w2 :=
  ⟨h.fs.below hb, h.kp.below hb, h.hmw.below hb, h.hmt.below hb, h.nd, h.rw.below hb, h.rt.below hb, h.ne, h.om⟩
theorem CI.imp (h : CI w s1 F l caps ok P N W m1 m2 cwf ctf own mw mt wr) (hp : ∀ f t w, t < l.length → (P f t w ↔ P2 f t w)) (hn : N ≤ N2) (h1 : ∀ k, cwf k = cwf2 k) (h2 : ∀ k, ctf k = ctf2 k) : CI w s1 F l caps ok P2 N2 W m1 m2 cwf2 ctf2 own mw mt wr :=
  ⟨h.fs.imp (fun k q _ _ => q) hp hn, h.kp, h.hmw, h.hmt, h.nd, h.rw.eq h1, h.rt.eq h2, h.ne, h.om⟩
theorem CI.reown (h : CI w s1 F l caps ok P N W m1 m2 cwf ctf own mw mt wr) (x : Option Tg) : CI w s1 F l caps ok P N W m1 m2 cwf ctf (Od.reown own wr.heap.size x) mw mt wr :=
  ⟨h.fs.imp (fun k q _ hk => ⟨q.1, q.2.1, q.2.2.1, by rw [reown_lt hk]; exact q.2.2.2⟩) (fun _ _ _ _ => Iff.rfl) (Nat.le_refl _), h.kp, h.hmw, h.hmt, h.nd, h.rw.reown x, h.rt.reown x, h.ne, by rw [reown_lt h.hmw.lt]; exact h.om.1, by rw [reown_lt h.hmt.lt]; exact h.om.2⟩
theorem CI.lt (h : CI w s1 F l caps ok P N W m1 m2 cwf ctf own mw mt wr) : F.gf < W.heap.size ∧ F.gw < W.heap.size := ⟨Nat.lt_of_lt_of_le h.fs.ro.hgf.2 h.ne.2.2.2, Nat.lt_of_lt_of_le h.fs.ro.hgw.2.1 h.ne.2.2.2⟩
/-- Somebody more waits at c. -/
theorem CI.waited (h : CI w s1 F l caps ok P N W m1 m2 cwf ctf own mw mt wr) {c : Int} {v v1 : Value} {xs : List S34} (hv : k34.Q 34 wr W.heap.size (fun q => own q = some (Tg.w c)) v (cwf c)) (hg7 : wr.grownBy w7 v.ownBlock)
    (hrow : k34.Q 34 w7 W.heap.size (fun q => Od.reown own wr.heap.size (some (Tg.w c)) q = some (Tg.w c)) v1 xs) (hm8 : MapOf (Value.int .i64) w8 m1 (Mp.ins c v1 mw)) (hg8 : w7.grownBy w8 (some m1)) :
    CI w s1 F l caps ok P N W m1 m2 (fun k => if k = c then xs else cwf k) ctf (Od.reown own wr.heap.size (some (Tg.w c))) (Mp.ins c v1 mw) mt w8 := by
  have H := h.reown (some (Tg.w c))
  have ho : ∀ g, v.ownBlock = some g → W.heap.size ≤ g ∧ Od.reown own wr.heap.size (some (Tg.w c)) g = some (Tg.w c) := fun g e => ⟨Kd.Q_base hv g e, by rw [reown_lt (Kd.Q_lt hv g e)]; exact hv.1 g e⟩
  refine ⟨(H.fs.growO hg7 (fun g e => ⟨Nat.le_trans h.ne.2.2.2 (ho g e).1, fun q => by have := q.2.2.2; rw [(ho g e).2] at this; cases this⟩)).growO hg8 (fun g e => by cases e; exact ⟨Nat.le_trans h.ne.2.2.2 h.ne.2.1, fun q => q.2.1 rfl⟩),
    Kept.of_grown hg8 (Kept.of_grown hg7 h.kp (fun k e => .inr (ho k e).1)) (fun k e => by cases e; exact .inr h.ne.2.1), hm8, (h.hmt.grown hg7 (map_ne h.hmt.of hv)).grown hg8 (fun e => h.ne.1 (Option.some.inj e).symm), h.nd,
    (Rows.appended h.rw (fun a b e => by cases e; rfl) hv hg7 hrow).grown hg8 (fun q k e => by cases e; rw [H.om.1]; simp), ?_, h.ne, H.om⟩
  refine (H.rt.grown hg7 (fun q k e => ?_)).grown hg8 (fun q k e => by cases e; rw [H.om.1]; simp)
  rw [(ho q e).2]
  simp
/-- c's row is told anew, of its own blocks. -/
theorem CI.cut (h : CI w s1 F l caps ok P N W m1 m2 cwf ctf own mw mt wr) {c : Int} {v1 : Value} {xs : List S34} (hv : k34.Q 34 wr W.heap.size (fun q => own q = some (Tg.w c)) v1 xs) (hm8 : MapOf (Value.int .i64) w8 m1 (Mp.ins c v1 mw)) (hg8 : wr.grownBy w8 (some m1)) :
    CI w s1 F l caps ok P N W m1 m2 (fun k => if k = c then xs else cwf k) ctf own (Mp.ins c v1 mw) mt w8 := by
  refine ⟨h.fs.growO hg8 (fun g e => by cases e; exact ⟨Nat.le_trans h.ne.2.2.2 h.ne.2.1, fun q => q.2.1 rfl⟩), Kept.of_grown hg8 h.kp (fun k e => by cases e; exact .inr h.ne.2.1), hm8, h.hmt.grown hg8 (fun e => h.ne.1 (Option.some.inj e).symm), h.nd,
    (Rows.put (cont2 := fun k => if k = c then xs else cwf k) h.rw (by simp only [if_pos]; exact hv) (fun k e => by simp only [if_neg e])).grown hg8 (fun q k e => by cases e; rw [h.om.1]; simp), h.rt.grown hg8 (fun q k e => by cases e; rw [h.om.1]; simp), h.ne, h.om⟩
/-- A signal more for g. -/
theorem CI.taken (h : CI w s1 F l caps ok P N W m1 m2 cwf ctf own mw mt wr) {g : Int × Int} {v v1 : Value} {xs : List Int} (hga : wr.grownBy wa (some m2)) (hsa : wa.heap.size = wr.heap.size) (hv : (Kd.int .i64).Q 3 wa W.heap.size (fun q => own q = some (Tg.t g)) v (ctf g)) (hgb : wa.grownBy wb v.ownBlock)
    (hrow : (Kd.int .i64).Q 3 wb W.heap.size (fun q => Od.reown own wa.heap.size (some (Tg.t g)) q = some (Tg.t g)) v1 xs) (hm : MapS enc2 wc m2 (Mp.ins g v1 mt)) (hgc : wb.grownBy wc (some m2)) :
    CI w s1 F l caps ok P N W m1 m2 cwf (fun k => if k = g then xs else ctf k) (Od.reown own wa.heap.size (some (Tg.t g))) mw (Mp.ins g v1 mt) wc := by
  have H := h.reown (some (Tg.t g))
  rw [← hsa] at H
  have hm2 : ∀ {W1 W2 : World} (hg : W1.grownBy W2 (some m2)) (f : FS w s1 F l caps (okC ok W.heap.size m1 m2 (Od.reown own wa.heap.size (some (Tg.t g)))) P N W1), FS w s1 F l caps (okC ok W.heap.size m1 m2 (Od.reown own wa.heap.size (some (Tg.t g)))) P N W2 := fun hg f => f.growO hg (fun k e => by cases e; exact ⟨Nat.le_trans h.ne.2.2.2 h.ne.2.2.1, fun q => q.2.2.1 rfl⟩)
  have ho : ∀ k, v.ownBlock = some k → W.heap.size ≤ k ∧ Od.reown own wa.heap.size (some (Tg.t g)) k = some (Tg.t g) := fun k e => ⟨Kd.Q_base hv k e, by rw [reown_lt (Kd.Q_lt hv k e)]; exact hv.1 k e⟩
  have hma := h.hmw.grown hga (fun e => h.ne.1 (Option.some.inj e))
  refine ⟨hm2 hgc ((hm2 hga H.fs).growO hgb (fun k e => ⟨Nat.le_trans h.ne.2.2.2 (ho k e).1, fun q => by have := q.2.2.2; rw [(ho k e).2] at this; cases this⟩)),
    Kept.of_grown hgc (Kept.of_grown hgb (Kept.of_grown hga h.kp (fun k e => by cases e; exact .inr h.ne.2.2.1)) (fun k e => .inr (ho k e).1)) (fun k e => by cases e; exact .inr h.ne.2.2.1),
    (hma.grown hgb (map_ne hma hv)).grown hgc (fun e => h.ne.1 (Option.some.inj e)), hm, (ins_keys g v1 mt).2.1 h.nd, ?_,
    (Rows.appended (h.rt.grown hga (fun q k e => by cases e; rw [h.om.2]; simp)) (fun a b e => by cases e; rfl) hv hgb hrow).grown hgc (fun q k e => by cases e; rw [H.om.2]; simp), h.ne, H.om⟩
  refine ((H.rw.grown hga (fun q k e => by cases e; rw [H.om.2]; simp)).grown hgb (fun q k e => ?_)).grown hgc (fun q k e => by cases e; rw [H.om.2]; simp)
  rw [(ho q e).2]
  simp
/-- All signals for g are told. -/
theorem CI.awaited (h : CI w s1 F l caps ok P N W m1 m2 cwf ctf own mw mt wr) {g : Int × Int} (hm : MapS enc2 w2 m2 (Mp.del g mt)) (hg : wr.grownBy w2 (some m2)) :
    CI w s1 F l caps ok P N W m1 m2 cwf (fun k => if k = g then [] else ctf k) own mw (Mp.del g mt) w2 := by
  refine ⟨h.fs.growO hg (fun k e => by cases e; exact ⟨Nat.le_trans h.ne.2.2.2 h.ne.2.2.1, fun q => q.2.2.1 rfl⟩), Kept.of_grown hg h.kp (fun k e => by cases e; exact .inr h.ne.2.2.1), h.hmw.grown hg (fun e => h.ne.1 (Option.some.inj e)), hm, (del_keys g).2 h.nd,
    h.rw.grown hg (fun q k e => by cases e; rw [h.om.2]; simp), ?_, h.ne, h.om⟩
  have h2 := h.rt.grown hg (fun q k e => by cases e; rw [h.om.2]; simp)
  intro k
  rw [get_del k g h.nd]
  by_cases e : k = g
  · rw [if_pos e]; simp only [if_pos e]; rfl
  · rw [if_neg e]; simp only [if_neg e]; exact h2 k
/-- An arrow is proposed. -/
theorem CI.arrowed (h : CI w s1 F l caps ok P N W m1 m2 cwf ctf own mw mt wr) (hf : FS w s1 F l caps (fun k => okC ok W.heap.size m1 m2 own k ∨ wr.heap.size ≤ k) P2 N2 w2) (hk : Kept wr w2 (foot F s1 (okC ok W.heap.size m1 m2 own))) :
    CI w s1 F l caps ok P2 N2 W m1 m2 cwf ctf (Od.reown own wr.heap.size none) mw mt w2 := by
  have hlt := h.lt
  have hn1 : ¬ foot F s1 (okC ok W.heap.size m1 m2 own) m1 := by
    rintro (q | q | q)
    · have := h.ne.2.1; omega
    · have := h.ne.2.1; omega
    · exact q.1.2.1 rfl
  have hn2 : ¬ foot F s1 (okC ok W.heap.size m1 m2 own) m2 := by
    rintro (q | q | q)
    · have := h.ne.2.2.1; omega
    · have := h.ne.2.2.1; omega
    · exact q.1.2.2.1 rfl
  have hrow : ∀ {κ α : Type} [DecidableEq κ] {d : Kd α} {e : Nat} {tag : κ → Tg} {m : List (κ × Value)} {cont : κ → List α}, Rows d e wr W.heap.size own tag m cont → Rows d e w2 W.heap.size (Od.reown own wr.heap.size none) tag m cont := fun hr k => by
    have h1 := (hr k).mono (ok2 := fun q => (own q = some _ ∧ W.heap.size ≤ q) ∧ Od.reown own wr.heap.size none q = some _) (fun q hq hl hb => ⟨⟨hq, hb⟩, by rw [reown_lt hl]; exact hq⟩)
    refine (h1.step (fun q hq hl => hk.2 q hl ?_)).mono (fun q hq _ _ => hq.2)
    rintro (z | z | z)
    · have := hq.1.2; omega
    · have := hq.1.2; omega
    · have := z.1.2.2.2; rw [hq.1.1] at this; cases this
  refine ⟨hf.imp (fun k q _ _ => ?_) (fun _ _ _ _ => Iff.rfl) (Nat.le_refl _), h.kp.then_ hk (fun k q => ?_), h.hmw.kept (hk.2 _ h.hmw.lt hn1), h.hmt.kept (hk.2 _ h.hmt.lt hn2), h.nd, hrow h.rw, hrow h.rt, h.ne, by rw [reown_lt h.hmw.lt]; exact h.om.1, by rw [reown_lt h.hmt.lt]; exact h.om.2⟩
  · rcases q with q | q
    · refine ⟨q.1, q.2.1, q.2.2.1, ?_⟩
      by_cases c : k < wr.heap.size
      · rw [reown_lt c]; exact q.2.2.2
      · exact reown_ge (by omega)
    · exact ⟨.inr (Nat.le_trans h.kp.1 q), fun e => by have := h.hmw.lt; omega, fun e => by have := h.hmt.lt; omega, reown_ge q⟩
  · rcases q with q | q | ⟨⟨q | q, _⟩, z⟩
    · exact .inl (.inl q)
    · exact .inl (.inr (.inl q))
    · exact .inl (.inr (.inr ⟨q, z⟩))
    · exact .inr q
end
end Go.Proofs.Ytkbfijkohngjjaa.Od
set_option linter.unusedVariables false
set_option linter.unusedSimpArgs false
namespace Go.Proofs.Ytkbfijkohngjjaa.Od
open Go.RowKit Go.Proofs.Ytkbfijkohngjjaa.Ef Go.Proofs.Ytkbfijkohngjjaa.Mp Go.Proofs.Ytkbfijkohngjjaa.QOrder Go.Proofs.YtkbfijkohngjjaaW.PrintWords Go.Proofs.YtkbfijkohngjjaaW.PrintLast Go.Proofs.YtkbfijkohngjjaaW.PrintMore
attribute [local go_sem] min2_int
set_option maxHeartbeats 8000000 in
set_option maxRecDepth 100000 in
theorem conditions_calls {w : World} {s1 : Nat} {F : Fnd} {l : List S36} {caps : List Int} {ok : Nat → Prop} {P : Props} {N : Nat} (W : World) (h : FS w s1 F l caps ok P N W) (hN : (N + l.length * l.length) * 24 ≤ 140737488355328) :
    Calls Try.prog 37 #[.pointer (some ⟨F.gf, 0, none⟩)] W fun e w' => e = .returned (.tuple #[]) ∧ FS w s1 F l caps (okN ok W.heap.size) (orP P (condP l)) (N + l.length * l.length) w' ∧ Kept W w' (foot F s1 ok) := by
  have hu75 := Try.underlying75
  have hu36 := Try.underlying36
  have hu22 := Try.underlying22
  have hu34 := Try.underlying34
  have hu43 := Try.underlying43
  have hu58 := Try.underlying58
  obtain ⟨A, c, hv, hl, hCl⟩ := h.ro.hl
  have hbf : W.cell? ⟨F.gf, 0, none⟩ = some (.slice A l.length c) := hv ▸ h.cells.1
  have HH := Aside0.mk h
  have HCl := Aside0.mk hCl
  have HN := Aside0.mk hN
  have HV := Aside0.mk hv
  clear h hCl hN hv
  have hmm := @run_makeMap Try.prog
  have hu97 := Try.underlying97
  have hu98 := Try.underlying98
  go_enter Try.func37, Try.ntmps37
  go_upto_region 2 with (fail)
  have e1 : (W.alloc (.map #[] 0)).heap.size = W.heap.size + 1 := Array.size_push _
  have HB0 := Aside0.mk (below_alloc (below_alloc (Below.refl W.heap.size W) (.map #[] 0)) (.map #[] 0))
  have hbf2 := pw_cell_below HB0.out hbf
  have HM1 := Aside0.mk ((MapS.new (enc := Value.int .i64) W).below (below_alloc (Below.refl _ _) (.map #[] 0)))
  have HM2 := Aside0.mk (MapS.new (enc := enc2) (W.alloc (.map #[] 0)))
  rw [e1] at HM2
  clear hbf hmm e1
  generalize (W.alloc (.map #[] 0)).alloc (.map #[] 0) = w1 at *
  go_wp2
  go_loopw [18] (fun v18 wr => ∃ i : Nat, v18 = .int .i64 (i : Int) ∧ Aside0 (i ≤ l.length) ∧ ∃ (own : Nat → Option Tg) (mw : List (Int × Value)) (mt : List ((Int × Int) × Value)), Aside0 (CI w s1 F l caps ok (orP P (upTo (condP l) i)) (N + i * l.length) W W.heap.size (W.heap.size + 1) (cw l (sigState l i).1) (ct l (sigState l i).2) own mw mt wr)) (fun v18 _ => l.length - (intOf v18).toNat)
  case atStart => exact ⟨0, rfl, ⟨Nat.zero_le _⟩, fun _ => none, [], [], ⟨⟨(HH.out.imp (fun k q _ hk => ⟨.inl q, by omega, by omega, rfl⟩) (fun f t w _ => up_start f t w) (by omega)).below HB0.out, (Kept.refl _ _).below HB0.out, HM1.out.of, HM2.out, List.nodup_nil, fun k => rfl, fun k => rfl, ⟨by omega, Nat.le_refl _, by omega, HH.out.ro.hs1⟩, rfl, rfl⟩⟩⟩
  case round =>
    have HS1 := Aside0.mk HH.out.ro.hs1
    clear HH hbf2 HM1 HM2 HB0
    obtain ⟨i, rfl, HI, own, mw, mt, HC⟩ := hrel
    by_cases hlt : (i : Int) < (l.length : Int)
    · have hi0 : (0 : Int) ≤ (i : Int) := by omega
      have hil : i < l.length := by omega
      have HIL := Aside0.mk hil
      have HW := Aside0.mk (wrap_succ hil HC.out.fs.ro.hn)
      have HLT := Aside0.mk hlt
      obtain ⟨x, HX⟩ : ∃ x, Aside0 (E l i = x) := ⟨_, ⟨rfl⟩⟩
      obtain ⟨ad, e1, hx0, hx1, hx2, hx3, hx4, hx5, hx6, hx7⟩ := at_ev HCl.out HC.out.fs.ro.hb hil HX.out
      cases e1
      clear hil
      go_upto_region 5 with (first
      | ((with_reducible refine gate_dst (N := 5) rfl ?_); refine box_event ?hg (N := 5) ?hd (cs := zE) (t := 36) ?hr ?_; (case hd => rfl); (case hg => rfl); (case hr => first | (go_simp; done) | (go_simp; rfl)); intro bl hbl w5 hbox hb; have HB5 := Aside0.mk hb; have BK5 := Aside0.mk hbox; have HBL := Aside0.mk (show wr.heap.size ≤ bl by omega); clear hb hbox hbl hx0 hx1 hx2 hx3 hx4 hx5 hx6 hx7)
      | ((with_reducible refine gate_store (t := 36) (p := 5) (v := .tmp 22) rfl ?_); refine step_store rfl rfl rfl BK5.out rfl (u := .agg (cE x)) (seg := (cE x).toList) rfl rfl (by kernel_rfl) (by simp [Value.oneCell']) (Nat.le_refl 8) (cur' := cE x) rfl ?_; intro w6 hb6 hg6 hs6; have HB6 := Aside0.mk (below_mput HB5.out hg6 (show wr.heap.size ≤ bl by have := HBL.out; omega) HB5.out.size); have BX := Aside0.mk hb6; have n2 : w6.cell? ⟨bl, 2, none⟩ = some (.int .i64 x.f2.f0) := (blk_cell hb6 2).trans rfl; have n3 : w6.cell? ⟨bl, 3, none⟩ = some (.int .i64 x.f2.f1) := (blk_cell hb6 3).trans rfl; have n4 : w6.cell? ⟨bl, 4, none⟩ = some (.int .i64 x.f3) := (blk_cell hb6 4).trans rfl; have n5 : w6.cell? ⟨bl, 5, none⟩ = some (.int .i64 x.f4) := (blk_cell hb6 5).trans rfl; have n6 : w6.cell? ⟨bl, 6, none⟩ = some (.int .i64 x.f5) := (blk_cell hb6 6).trans rfl; clear hb6 hg6 hs6 BK5 HB5))
      obtain ⟨kd, HKD⟩ : ∃ kd, Aside0 (x.f3 = kd) := ⟨_, ⟨rfl⟩⟩
      rw [HKD.out] at n4
      obtain ⟨own6, HO6⟩ : ∃ o, Aside0 (reown own wr.heap.size (some (Tg.w 0)) = o) := ⟨_, ⟨rfl⟩⟩
      have HC6 := Aside0.mk ((HC.out.reown (some (Tg.w 0))).below HB6.out)
      rw [HO6.out] at HC6
      have HBO := Aside0.mk (show own6 bl = some (Tg.w 0) by rw [← HO6.out]; exact reown_ge HBL.out)
      clear HO6
      by_cases k4 : kd = 4
      · subst k4
        by_cases k42 : x.f4 = 42
        · have HK42 := Aside0.mk k42
          rw [k42] at n5
          clear k42
          obtain ⟨v, hv⟩ : ∃ v, (Mp.get x.f5 mw).getD (.slice none 0 0) = v := ⟨_, rfl⟩
          have hrow := (HC6.out.rw x.f5).val
          rw [hv] at hrow
          obtain ⟨A2, c2, rfl, hc2⟩ := Kd.Q_slice hrow
          obtain ⟨ln, hln⟩ : ∃ ln, (cw l (sigState l i).1 x.f5).length = ln := ⟨_, rfl⟩
          have HLn := Aside0.mk hln
          rw [hln] at hrow hv
          have HRow := Aside0.mk (Kd.Q_below hrow (below_drew (Below.refl _ _)))
          have HC7 := Aside0.mk (HC6.out.below (below_drew (Below.refl _ _)))
          have hlook : ∀ W2 : World, Below w6.heap.size w6 W2 → (Instr.lookup 97 (.map (some W.heap.size)) (.int .i64 x.f5) false).run Try.prog W2 = .ok (.slice A2 ln c2) W2 := fun W2 hb => by
            have := run_look keyL Try.underlying97 (zero43 W2) (HC6.out.hmw.below hb) x.f5 false
            rw [if_neg (by simp), hv] at this
            exact this
          have l1 := hlook w6.drew (below_drew (Below.refl _ _))
          have l2 := hlook (w6.alloc (.cells #[.int .i64 x.f2.f0, .int .i64 x.f2.f1] 34)).drew (below_drew (below_alloc (Below.refl _ _) _))
          have hba : Below w6.heap.size w6 (w6.alloc (.cells #[.int .i64 x.f2.f0, .int .i64 x.f2.f1] 34)) := below_alloc (Below.refl _ _) _
          have a2 := pw_cell_below hba n2
          have a3 := pw_cell_below hba n3
          have a6 := pw_cell_below hba n6
          have HNE := Aside0.mk (show some bl ≠ (Value.slice A2 ln c2).ownBlock from Kd.Q_ne hrow BX.out (by decide))
          clear hba hlook hrow hv hln hc2
          go_wp2
          go_region_law ((refine Kd.Q_append_step k34 (w0 := w6) (W := w6.drew) W.heap.size ?q0 (.tmp 38) (.tmp 41) 43 34 (.agg #[.int .i64 0, .int .i64 0]) 16 ?q3 Try.underlying43 info34 rfl (by decide) (by decide) (.slice A2 ln c2) (cw l (sigState l i).1 x.f5) x.f2 [.int .i64 x.f2.f0, .int .i64 x.f2.f1] (fun k => reown own6 w6.drew.heap.size (some (Tg.w x.f5)) k = some (Tg.w x.f5)) (fun _ => False) ?q1 ?q2 (k34_mkM _ _ _ _) (fun _ h => h.elim) ?aF ?aO ?aB ?aS ?aL ?_); (case q0 => rfl); (case q1 => rfl); (case q2 => rfl); (case q3 => rfl); (case aF => exact fun k hk => reown_ge hk); (case aO => exact Q_reown HRow.out (some (Tg.w x.f5))); (case aB => exact below_drew (Below.refl _ _)); (case aS => exact HC7.out.kp.1); (case aL => exact (by have h3 := cw_len l (sigState l i).1 x.f5; have h4 := sig_len l i; have h5 := HC7.out.fs.ro.hn; have h6 := HIL.out; omega)); intro v1 w7 hrow hb7 hg7 hat; have hm7 := HC7.out.hmw.grown hg7 (map_ne HC7.out.hmw HRow.out); obtain ⟨w8, l3, hm8, hg8, hs8⟩ := run_put keyL Try.underlying97 hm7 x.f5 v1; have c6 : w7.cell? ⟨bl, 6, none⟩ = some (.int .i64 x.f5) := (blk_cell (blk_grown (blk_drew BX.out) hg7 HNE.out) 6).trans rfl)
          all_goals
            have HC8 := Aside0.mk (HC7.out.waited HRow.out hg7 hrow hm8 hg8)
            clear l1 l2 l3 a2 a3 a6 n2 n3 n4 n5 n6 hrow hb7 hg7 hat hm7 hm8 hg8 hs8 c6
            go_wp2
            go_roundw
            case rel => exact ⟨i + 1, by rw [HW.out], ⟨HIL.out⟩, _, _, _, ⟨HC8.out.imp (fun f t w _ => up_none (cond_no (by rw [HX.out, HKD.out]; decide)) f t w) (nn_le HIL.out HN.out).2.2.2.2 (fun k => by rw [← wait_cw (by rw [HX.out]; exact ⟨HKD.out, HK42.out⟩) k, HX.out]) (fun k => by rw [← wait_ct (by rw [HX.out]; exact ⟨HKD.out, HK42.out⟩) k])⟩⟩
            case measure => exact meas_lt (Int.ofNat_lt.1 HLT.out) HW.out
        · have HK42 := Aside0.mk k42
          have k43 : (x.f4 == 42) = false := by simp [k42]
          clear k42
          go_wp2
          go_roundw
          case rel => exact ⟨i + 1, by rw [HW.out], ⟨HIL.out⟩, _, _, _, ⟨(HC6.out.imp (fun f t w _ => up_none (cond_no (by rw [HX.out, HKD.out]; decide)) f t w) (nn_le HIL.out HN.out).2.2.2.2 (fun k => by rw [sig_other (by rw [HX.out]; exact fun q => HK42.out q.2) (by rw [HX.out, HKD.out]; decide) (by rw [HX.out, HKD.out]; decide)]) (fun k => by rw [sig_other (by rw [HX.out]; exact fun q => HK42.out q.2) (by rw [HX.out, HKD.out]; decide) (by rw [HX.out, HKD.out]; decide)]))⟩⟩
          case measure => exact meas_lt (Int.ofNat_lt.1 HLT.out) HW.out
      · have q4 : (kd == 4) = false := by simp [k4]
        by_cases k24 : kd = 24
        · subst k24
          clear k4 q4
          have HCh := Aside0.mk (sig_signal (show (E l i).f3 = 24 by rw [HX.out]; exact HKD.out))
          rw [HX.out] at HCh
          obtain ⟨v, hv⟩ : ∃ v, (Mp.get x.f4 mw).getD (.slice none 0 0) = v := ⟨_, rfl⟩
          have hrow := (HC6.out.rw x.f4).val
          rw [hv] at hrow
          obtain ⟨A2, c2, rfl, hc2⟩ := Kd.Q_slice hrow
          obtain ⟨ln, hln⟩ : ∃ ln, (cw l (sigState l i).1 x.f4).length = ln := ⟨_, rfl⟩
          have HLn := Aside0.mk hln
          rw [hln] at hrow hv hc2
          have HV2 := Aside0.mk hv
          have HC2 := Aside0.mk hc2
          have l0 : (Instr.lookup 97 (.map (some W.heap.size)) (.int .i64 x.f4) false).run Try.prog w6 = .ok (.slice A2 ln c2) w6 := by
            have := run_look keyL Try.underlying97 (zero43 w6) HC6.out.hmw x.f4 false
            rw [if_neg (by simp), hv] at this
            exact this
          clear hrow hv hln
          by_cases hb0 : x.f5 = 0
          · have HB0 := Aside0.mk hb0
            rw [hb0] at n6
            clear hb0
            by_cases hl9 : (ln : Int) < 1
            · have hnn : many l i = ln := by unfold many; rw [HX.out, if_neg (by rw [HB0.out]; simp), HLn.out]; omega
              go_upto_region 11 with (fail)
              have HN9 := Aside0.mk hnn
              have hl0 : 0 ≤ (ln : Int) := by omega
              have hl1 : (ln : Int) ≤ (ln : Int) := by omega
              have hl2 : (ln : Int) ≤ (c2 : Int) := by omega
              have hl3 : ln ≤ c2 := by omega
              have hl4 : ln ≤ ln := by omega
              go_wp2
              have HNL := Aside0.mk hl4
              clear l0 hl0 hl1 hl2 hl3 hl4 hc2 n4
              obtain ⟨wo, HWO⟩ : ∃ wo : World, Aside0 (wo = w6) := ⟨_, ⟨rfl⟩⟩
              go_loopw [68] (fun v68 wr => ∃ j : Nat, v68 = .int .i64 (j : Int) ∧ Aside0 (j ≤ ln) ∧ ∃ (own : Nat → Option Tg) (mt : List ((Int × Int) × Value)), Aside0 (CI w s1 F l caps ok (orP P (upTo (condP l) i)) (N + i * l.length) W W.heap.size (W.heap.size + 1) (cw l (sigState l i).1) (addAll ((cw l (sigState l i).1 x.f4).take j) (i : Int) (ct l (sigState l i).2)) own mw mt wr) ∧ Aside0 (wr.heap[bl]? = some (.cells (cE x) 36 (0, 0)))) (fun v68 _ => ln - (intOf v68).toNat)
              case atStart => exact ⟨0, rfl, ⟨Nat.zero_le _⟩, _, _, ⟨HC6.out.imp (fun _ _ _ _ => Iff.rfl) (Nat.le_refl _) (fun _ => rfl) (fun g => by unfold addAll; simp)⟩, BX⟩
              case round =>
                obtain ⟨j, rfl, HJ, own2, mt2, HC7, BX7⟩ := hrel
                clear n5 n6
                by_cases hjl : (j : Int) < (ln : Int)
                · exfalso; omega
                · have hj : j = ln := by have := HJ.out; omega
                  have n5 : wr.cell? ⟨bl, 5, none⟩ = some (.int .i64 x.f4) := (blk_cell BX7.out 5).trans rfl
                  have hl2 : (ln : Int) ≤ (c2 : Int) := by have := HNL.out; have := HC2.out; omega
                  have hl4 : (ln : Int) ≤ (ln : Int) := by have := HNL.out; omega
                  have hl0 : (0 : Int) ≤ (ln : Int) := by omega
                  go_upto_region 16 with (fail)
                  go_still_tail 9, (by kernel_rfl)
                  refine still_value (W := wr.drew) rfl (exec_look (ok := false) (v := .slice A2 ln c2) keyL Try.underlying97 rfl (zero43 _) HC7.out.hmw.drew x.f4 rfl rfl (by rw [if_neg (by simp)]; exact HV2.out)) ?_
                  repeat still_step
                  refine wpStill_nil ?_
                  change wpList _ _ _ _ _ wr.drew
                  have hrow7 := (HC7.out.rw x.f4).val
                  rw [HV2.out] at hrow7
                  have HDr := Aside0.mk (Kd.Q_drop (k := ln) (Kd.Q_below hrow7 (below_drew (Below.refl _ _))) (by have := HNL.out; have := HLn.out; omega))
                  clear hrow7
                  refine step_put keyL Try.underlying97 rfl rfl HC7.out.hmw.drew x.f4 (.slice (if c2 = ln then A2 else A2.map (·.add (ln * k34.sz))) (ln - ln) (c2 - ln)) rfl rfl ?hu ?_
                  case hu => first | rfl | (rw [Nat.sub_self]; rfl)
                  intro w9 hm9 hg9 hs9
                  have HCut := Aside0.mk ((HC7.out.below (below_drew (Below.refl _ _))).cut HDr.out hm9 hg9)
                  have HJN := Aside0.mk hj
                  clear hm9 hg9 hs9 hj n5 hl0 hl2 hl4
                  go_wp2
                  go_roundw
                  case rel => exact ⟨i + 1, by rw [HW.out], ⟨HIL.out⟩, _, _, _, ⟨HCut.out.imp (fun f t w _ => up_none (cond_no (by rw [HX.out, HKD.out]; decide)) f t w) (nn_le HIL.out HN.out).2.2.2.2 (fun k => by rw [HCh.out.1 k, HN9.out]) (fun q => by rw [HCh.out.2 q, HN9.out, HJN.out])⟩⟩
                  case measure => exact meas_lt (Int.ofNat_lt.1 HLT.out) HW.out
            · have hnn : many l i = 1 := by unfold many; rw [HX.out, if_neg (by rw [HB0.out]; simp), HLn.out]; omega
              go_upto_region 11 with (fail)
              have HN9 := Aside0.mk hnn
              have hl0 : 0 ≤ (1 : Int) := by omega
              have hl1 : (1 : Int) ≤ (ln : Int) := by omega
              have hl2 : (1 : Int) ≤ (c2 : Int) := by omega
              have hl3 : 1 ≤ c2 := by omega
              have hl4 : 1 ≤ ln := by omega
              go_wp2
              have HNL := Aside0.mk hl4
              clear l0 hl0 hl1 hl2 hl3 hl4 hc2 n4
              obtain ⟨wo, HWO⟩ : ∃ wo : World, Aside0 (wo = w6) := ⟨_, ⟨rfl⟩⟩
              go_loopw [68] (fun v68 wr => ∃ j : Nat, v68 = .int .i64 (j : Int) ∧ Aside0 (j ≤ 1) ∧ ∃ (own : Nat → Option Tg) (mt : List ((Int × Int) × Value)), Aside0 (CI w s1 F l caps ok (orP P (upTo (condP l) i)) (N + i * l.length) W W.heap.size (W.heap.size + 1) (cw l (sigState l i).1) (addAll ((cw l (sigState l i).1 x.f4).take j) (i : Int) (ct l (sigState l i).2)) own mw mt wr) ∧ Aside0 (wr.heap[bl]? = some (.cells (cE x) 36 (0, 0)))) (fun v68 _ => 1 - (intOf v68).toNat)
              case atStart => exact ⟨0, rfl, ⟨Nat.zero_le _⟩, _, _, ⟨HC6.out.imp (fun _ _ _ _ => Iff.rfl) (Nat.le_refl _) (fun _ => rfl) (fun g => by unfold addAll; simp)⟩, BX⟩
              case round =>
                obtain ⟨j, rfl, HJ, own2, mt2, HC7, BX7⟩ := hrel
                clear n5 n6
                by_cases hjl : (j : Int) < (1 : Int)
                · have hj0 : (0 : Int) ≤ (j : Int) := by omega
                  have hrow2 := (HC7.out.rw x.f4).val
                  rw [HV2.out] at hrow2
                  have hr2 := (Kd.Q_reads' hrow2).2.2
                  obtain ⟨ad2, e2, y0, y1⟩ := at_T34 hr2 (j : Int) hj0 (by have := HNL.out; have := HLn.out; omega)
                  cases e2
                  rw [Int.toNat_natCast] at y0 y1
                  obtain ⟨g, HG⟩ : ∃ g, Aside0 (rd_T34 (cw l (sigState l i).1 x.f4) (j : Int) = g) := ⟨_, ⟨rfl⟩⟩
                  rw [HG.out] at y0 y1
                  have HJL := Aside0.mk (show j < 1 by omega)
                  have HL9 := Aside0.mk (show 1 ≤ 65536 by have h1 := HNL.out; have h2 := HLn.out; have h3 := cw_len l (sigState l i).1 x.f4; have h4 := sig_len l i; have h5 := HC7.out.fs.ro.hn; have h6 := HIL.out; omega)
                  have HW2 := Aside0.mk (wrap_succ HJL.out HL9.out)
                  have n4 : wr.cell? ⟨bl, 5, none⟩ = some (.int .i64 x.f4) := (blk_cell BX7.out 5).trans rfl
                  clear hrow2 hr2
                  go_wp2_with (first
                    | ((with_reducible refine gate_dst (N := 8) rfl ?_); refine box_event ?hg (N := 8) ?hd (cs := #[.int .i64 0, .int .i64 0]) (t := 34) ?hr ?_; (case hd => rfl); (case hg => rfl); (case hr => first | (go_simp; done) | (go_simp; rfl)); intro b2 hbl2 w7 hbox hb; have HB8a := Aside0.mk hb; have BK8 := Aside0.mk hbox; have HBL2 := Aside0.mk (show wr.heap.size ≤ b2 by omega); clear hb hbox hbl2 y0 y1 n4)
                    | ((with_reducible refine gate_store (t := 34) (p := 8) (v := .tmp 71) rfl ?_); refine step_store rfl rfl rfl BK8.out rfl (u := .agg #[.int .i64 g.f0, .int .i64 g.f1]) (seg := [.int .i64 g.f0, .int .i64 g.f1]) rfl rfl (by kernel_rfl) (by simp [Value.oneCell']) (Nat.le_refl 2) (cur' := #[.int .i64 g.f0, .int .i64 g.f1]) rfl ?_; intro w8 hb8 hg8 hs8; have HB8 := Aside0.mk (below_mput HB8a.out hg8 HBL2.out HB8a.out.size); have p0 : w8.cell? ⟨b2, 0, none⟩ = some (.int .i64 g.f0) := (blk_cell hb8 0).trans rfl; have p1 : w8.cell? ⟨b2, 1, none⟩ = some (.int .i64 g.f1) := (blk_cell hb8 1).trans rfl; have HC8 := Aside0.mk ((HC7.out.below HB8.out).below (below_alloc (Below.refl _ _) (.cells #[.int .i64 (i : Int)] 3))); have BX8 := Aside0.mk (blk_below (blk_below BX7.out HB8.out) (below_alloc (Below.refl _ _) (.cells #[.int .i64 (i : Int)] 3))); have BN8 := Aside0.mk (blk_new w8 (.cells #[.int .i64 (i : Int)] 3)); clear hb8 hg8 hs8 BK8 HB8a)
                    | ((with_reducible refine gate_entry (x := .tmp 72) (y := .tmp 73) rfl ?_); refine step_entry' keyG Try.underlying98 rfl rfl (zero58 _) HC8.out.hmt (gk g) rfl rfl ?_; intro st w9 hent hga hsa; have HEnt := Aside0.mk hent; have HGa := Aside0.mk hga; have HSa := Aside0.mk hsa; obtain ⟨v5, hv5⟩ : ∃ v, (Mp.get (gk g) mt2).getD (.slice none 0 0) = v := ⟨_, rfl⟩; have hq := (HC8.out.rt (gk g)).val; rw [hv5] at hq ⊢; obtain ⟨A5, n5, c5, rfl⟩ : ∃ A n c, v5 = .slice A n c := (by obtain ⟨A, c, e, _⟩ := Kd.Q_slice hq; exact ⟨A, _, c, e⟩); have HQ9 := Aside0.mk (Kd.Q_grown hq hga (fun k hk e => by cases e; rw [HC8.out.om.2] at hk; cases hk)); have BX9 := Aside0.mk (blk_grown BX8.out hga (not_map BX8.out HC8.out.hmt.of)); have BN9 := Aside0.mk (blk_grown BN8.out hga (not_map BN8.out HC8.out.hmt.of)); clear hent hga hsa hq hv5 p0 p1)
                    | ((with_reducible refine gate_builtin (b := .append) (xs := #[.tmp 74, .tmp 76]) rfl ?_); at_builtin; refine Q_append_at (Kd.int .i64) W.heap.size rfl (.tmp 74) (.tmp 76) 58 3 (.int .i64 0) 8 rfl Try.underlying58 info3 rfl (by decide) (by decide) (.slice A5 n5 c5) _ (i : Int) [.int .i64 (i : Int)] (fun q => reown own2 w9.heap.size (some (Tg.t (gk g))) q = some (Tg.t (gk g))) (fun _ => False) ⟨w8.heap.size, 0, none⟩ 1 rfl rfl ?aC ?aP (fun _ hk => hk.elim) ?aF (Q_reown HQ9.out (some (Tg.t (gk g)))) ?aS ?aL ?_; (case aC => intro j2 u hu; cases j2 with | zero => (cases hu; exact (blk_cell BN9.out 0).trans rfl) | succ j2 => cases hu); (case aP => exact rfl); (case aF => exact fun k hk => reown_ge hk); (case aS => rw [HSa.out]; exact HC8.out.kp.1); (case aL => have h1 := add_len ((cw l (sigState l i).1 x.f4).take j) (i : Int) (ct l (sigState l i).2) (gk g); have h2 := ct_len l (sigState l i).2 (gk g); have h3 := sig_len l i; have h4 := HC7.out.fs.ro.hn; have h5 := HIL.out; have h6 := HL9.out; have h7 := HJL.out; rw [List.length_take] at h1; omega); intro v1 w10 hrow hgb hat; have HRow2 := Aside0.mk hrow; have HGb := Aside0.mk hgb; have HEnt10 := Aside0.mk (HEnt.out.kept (hgb.block _ HEnt.out.lt (map_ne' HEnt.out HQ9.out))); have BX10 := Aside0.mk (blk_grown BX9.out hgb (Kd.Q_ne HQ9.out BX9.out (by decide))); clear hrow hgb hat)
                    | ((with_reducible refine gate_estore (x := .tmp 72) (y := .tmp 79) (u := .tmp 78) rfl ?_); refine step_estore rfl rfl HEnt10.out v1 rfl rfl rfl ?_; intro w11 hm hgc hsc; have HC11 := Aside0.mk (HC8.out.taken HGa.out HSa.out HQ9.out HGb.out HRow2.out hm hgc); have BX11 := Aside0.mk (blk_grown BX10.out hgc (fun e => by cases e; obtain ⟨_, _, _, _, h1, _⟩ := HEnt10.out; rw [BX10.out] at h1; cases h1)); clear hm hgc hsc))
                  go_roundw
                  case rel => exact ⟨j + 1, by first | rw [HW2.out] | rfl, ⟨HJL.out⟩, _, _, ⟨HC11.out.imp (fun _ _ _ _ => Iff.rfl) (Nat.le_refl _) (fun _ => rfl) (fun q => by rw [addAll_snoc', ← take_snoc (show j < (cw l (sigState l i).1 x.f4).length by have := HNL.out; have := HLn.out; have := HJL.out; omega) HG.out])⟩, BX11⟩
                  case measure => first | exact meas_lt HJL.out HW2.out | exact meas_lt2 HJL.out
                · have hj : j = 1 := by have := HJ.out; omega
                  have n5 : wr.cell? ⟨bl, 5, none⟩ = some (.int .i64 x.f4) := (blk_cell BX7.out 5).trans rfl
                  have hl2 : (1 : Int) ≤ (c2 : Int) := by have := HNL.out; have := HC2.out; omega
                  have hl4 : (1 : Int) ≤ (ln : Int) := by have := HNL.out; omega
                  have hl0 : (0 : Int) ≤ (1 : Int) := by omega
                  go_upto_region 16 with (fail)
                  go_still_tail 9, (by kernel_rfl)
                  refine still_value (W := wr.drew) rfl (exec_look (ok := false) (v := .slice A2 ln c2) keyL Try.underlying97 rfl (zero43 _) HC7.out.hmw.drew x.f4 rfl rfl (by rw [if_neg (by simp)]; exact HV2.out)) ?_
                  repeat still_step
                  refine wpStill_nil ?_
                  change wpList _ _ _ _ _ wr.drew
                  have hrow7 := (HC7.out.rw x.f4).val
                  rw [HV2.out] at hrow7
                  have HDr := Aside0.mk (Kd.Q_drop (k := 1) (Kd.Q_below hrow7 (below_drew (Below.refl _ _))) (by have := HNL.out; have := HLn.out; omega))
                  clear hrow7
                  refine step_put keyL Try.underlying97 rfl rfl HC7.out.hmw.drew x.f4 (.slice (if c2 = 1 then A2 else A2.map (·.add (1 * k34.sz))) (ln - 1) (c2 - 1)) rfl rfl ?hu ?_
                  case hu => first | rfl | (rw [Nat.sub_self]; rfl)
                  intro w9 hm9 hg9 hs9
                  have HCut := Aside0.mk ((HC7.out.below (below_drew (Below.refl _ _))).cut HDr.out hm9 hg9)
                  have HJN := Aside0.mk hj
                  clear hm9 hg9 hs9 hj n5 hl0 hl2 hl4
                  go_wp2
                  go_roundw
                  case rel => exact ⟨i + 1, by rw [HW.out], ⟨HIL.out⟩, _, _, _, ⟨HCut.out.imp (fun f t w _ => up_none (cond_no (by rw [HX.out, HKD.out]; decide)) f t w) (nn_le HIL.out HN.out).2.2.2.2 (fun k => by rw [HCh.out.1 k, HN9.out]) (fun q => by rw [HCh.out.2 q, HN9.out, HJN.out])⟩⟩
                  case measure => exact meas_lt (Int.ofNat_lt.1 HLT.out) HW.out
          · have HB0 := Aside0.mk hb0
            have hb1 : (x.f5 == 0) = false := by simp [hb0]
            have hb2 : (x.f5 != 0) = true := by simp [hb0]
            clear hb0
            have hnn : many l i = ln := by unfold many; rw [HX.out, if_pos HB0.out, HLn.out]
            go_upto_region 9 with (fail)
            generalize (if (ln : Int) < 1 then (ln : Int) else 1) = mm
            go_upto_region 11 with (fail)
            have HN9 := Aside0.mk hnn
            have hl0 : 0 ≤ (ln : Int) := by omega
            have hl1 : (ln : Int) ≤ (ln : Int) := by omega
            have hl2 : (ln : Int) ≤ (c2 : Int) := by omega
            have hl3 : ln ≤ c2 := by omega
            have hl4 : ln ≤ ln := by omega
            go_wp2
            have HNL := Aside0.mk hl4
            clear l0 hl0 hl1 hl2 hl3 hl4 hc2 n4
            obtain ⟨wo, HWO⟩ : ∃ wo : World, Aside0 (wo = w6) := ⟨_, ⟨rfl⟩⟩
            go_loopw [68] (fun v68 wr => ∃ j : Nat, v68 = .int .i64 (j : Int) ∧ Aside0 (j ≤ ln) ∧ ∃ (own : Nat → Option Tg) (mt : List ((Int × Int) × Value)), Aside0 (CI w s1 F l caps ok (orP P (upTo (condP l) i)) (N + i * l.length) W W.heap.size (W.heap.size + 1) (cw l (sigState l i).1) (addAll ((cw l (sigState l i).1 x.f4).take j) (i : Int) (ct l (sigState l i).2)) own mw mt wr) ∧ Aside0 (wr.heap[bl]? = some (.cells (cE x) 36 (0, 0)))) (fun v68 _ => ln - (intOf v68).toNat)
            case atStart => exact ⟨0, rfl, ⟨Nat.zero_le _⟩, _, _, ⟨HC6.out.imp (fun _ _ _ _ => Iff.rfl) (Nat.le_refl _) (fun _ => rfl) (fun g => by unfold addAll; simp)⟩, BX⟩
            case round =>
              obtain ⟨j, rfl, HJ, own2, mt2, HC7, BX7⟩ := hrel
              clear n5 n6
              by_cases hjl : (j : Int) < (ln : Int)
              · have hj0 : (0 : Int) ≤ (j : Int) := by omega
                have hrow2 := (HC7.out.rw x.f4).val
                rw [HV2.out] at hrow2
                have hr2 := (Kd.Q_reads' hrow2).2.2
                obtain ⟨ad2, e2, y0, y1⟩ := at_T34 hr2 (j : Int) hj0 (by have := HNL.out; have := HLn.out; omega)
                cases e2
                rw [Int.toNat_natCast] at y0 y1
                obtain ⟨g, HG⟩ : ∃ g, Aside0 (rd_T34 (cw l (sigState l i).1 x.f4) (j : Int) = g) := ⟨_, ⟨rfl⟩⟩
                rw [HG.out] at y0 y1
                have HJL := Aside0.mk (show j < ln by omega)
                have HL9 := Aside0.mk (show ln ≤ 65536 by have h1 := HNL.out; have h2 := HLn.out; have h3 := cw_len l (sigState l i).1 x.f4; have h4 := sig_len l i; have h5 := HC7.out.fs.ro.hn; have h6 := HIL.out; omega)
                have HW2 := Aside0.mk (wrap_succ HJL.out HL9.out)
                have n4 : wr.cell? ⟨bl, 5, none⟩ = some (.int .i64 x.f4) := (blk_cell BX7.out 5).trans rfl
                clear hrow2 hr2
                go_wp2_with (first
                  | ((with_reducible refine gate_dst (N := 8) rfl ?_); refine box_event ?hg (N := 8) ?hd (cs := #[.int .i64 0, .int .i64 0]) (t := 34) ?hr ?_; (case hd => rfl); (case hg => rfl); (case hr => first | (go_simp; done) | (go_simp; rfl)); intro b2 hbl2 w7 hbox hb; have HB8a := Aside0.mk hb; have BK8 := Aside0.mk hbox; have HBL2 := Aside0.mk (show wr.heap.size ≤ b2 by omega); clear hb hbox hbl2 y0 y1 n4)
                  | ((with_reducible refine gate_store (t := 34) (p := 8) (v := .tmp 71) rfl ?_); refine step_store rfl rfl rfl BK8.out rfl (u := .agg #[.int .i64 g.f0, .int .i64 g.f1]) (seg := [.int .i64 g.f0, .int .i64 g.f1]) rfl rfl (by kernel_rfl) (by simp [Value.oneCell']) (Nat.le_refl 2) (cur' := #[.int .i64 g.f0, .int .i64 g.f1]) rfl ?_; intro w8 hb8 hg8 hs8; have HB8 := Aside0.mk (below_mput HB8a.out hg8 HBL2.out HB8a.out.size); have p0 : w8.cell? ⟨b2, 0, none⟩ = some (.int .i64 g.f0) := (blk_cell hb8 0).trans rfl; have p1 : w8.cell? ⟨b2, 1, none⟩ = some (.int .i64 g.f1) := (blk_cell hb8 1).trans rfl; have HC8 := Aside0.mk ((HC7.out.below HB8.out).below (below_alloc (Below.refl _ _) (.cells #[.int .i64 (i : Int)] 3))); have BX8 := Aside0.mk (blk_below (blk_below BX7.out HB8.out) (below_alloc (Below.refl _ _) (.cells #[.int .i64 (i : Int)] 3))); have BN8 := Aside0.mk (blk_new w8 (.cells #[.int .i64 (i : Int)] 3)); clear hb8 hg8 hs8 BK8 HB8a)
                  | ((with_reducible refine gate_entry (x := .tmp 72) (y := .tmp 73) rfl ?_); refine step_entry' keyG Try.underlying98 rfl rfl (zero58 _) HC8.out.hmt (gk g) rfl rfl ?_; intro st w9 hent hga hsa; have HEnt := Aside0.mk hent; have HGa := Aside0.mk hga; have HSa := Aside0.mk hsa; obtain ⟨v5, hv5⟩ : ∃ v, (Mp.get (gk g) mt2).getD (.slice none 0 0) = v := ⟨_, rfl⟩; have hq := (HC8.out.rt (gk g)).val; rw [hv5] at hq ⊢; obtain ⟨A5, n5, c5, rfl⟩ : ∃ A n c, v5 = .slice A n c := (by obtain ⟨A, c, e, _⟩ := Kd.Q_slice hq; exact ⟨A, _, c, e⟩); have HQ9 := Aside0.mk (Kd.Q_grown hq hga (fun k hk e => by cases e; rw [HC8.out.om.2] at hk; cases hk)); have BX9 := Aside0.mk (blk_grown BX8.out hga (not_map BX8.out HC8.out.hmt.of)); have BN9 := Aside0.mk (blk_grown BN8.out hga (not_map BN8.out HC8.out.hmt.of)); clear hent hga hsa hq hv5 p0 p1)
                  | ((with_reducible refine gate_builtin (b := .append) (xs := #[.tmp 74, .tmp 76]) rfl ?_); at_builtin; refine Q_append_at (Kd.int .i64) W.heap.size rfl (.tmp 74) (.tmp 76) 58 3 (.int .i64 0) 8 rfl Try.underlying58 info3 rfl (by decide) (by decide) (.slice A5 n5 c5) _ (i : Int) [.int .i64 (i : Int)] (fun q => reown own2 w9.heap.size (some (Tg.t (gk g))) q = some (Tg.t (gk g))) (fun _ => False) ⟨w8.heap.size, 0, none⟩ 1 rfl rfl ?aC ?aP (fun _ hk => hk.elim) ?aF (Q_reown HQ9.out (some (Tg.t (gk g)))) ?aS ?aL ?_; (case aC => intro j2 u hu; cases j2 with | zero => (cases hu; exact (blk_cell BN9.out 0).trans rfl) | succ j2 => cases hu); (case aP => exact rfl); (case aF => exact fun k hk => reown_ge hk); (case aS => rw [HSa.out]; exact HC8.out.kp.1); (case aL => have h1 := add_len ((cw l (sigState l i).1 x.f4).take j) (i : Int) (ct l (sigState l i).2) (gk g); have h2 := ct_len l (sigState l i).2 (gk g); have h3 := sig_len l i; have h4 := HC7.out.fs.ro.hn; have h5 := HIL.out; have h6 := HL9.out; have h7 := HJL.out; rw [List.length_take] at h1; omega); intro v1 w10 hrow hgb hat; have HRow2 := Aside0.mk hrow; have HGb := Aside0.mk hgb; have HEnt10 := Aside0.mk (HEnt.out.kept (hgb.block _ HEnt.out.lt (map_ne' HEnt.out HQ9.out))); have BX10 := Aside0.mk (blk_grown BX9.out hgb (Kd.Q_ne HQ9.out BX9.out (by decide))); clear hrow hgb hat)
                  | ((with_reducible refine gate_estore (x := .tmp 72) (y := .tmp 79) (u := .tmp 78) rfl ?_); refine step_estore rfl rfl HEnt10.out v1 rfl rfl rfl ?_; intro w11 hm hgc hsc; have HC11 := Aside0.mk (HC8.out.taken HGa.out HSa.out HQ9.out HGb.out HRow2.out hm hgc); have BX11 := Aside0.mk (blk_grown BX10.out hgc (fun e => by cases e; obtain ⟨_, _, _, _, h1, _⟩ := HEnt10.out; rw [BX10.out] at h1; cases h1)); clear hm hgc hsc))
                go_roundw
                case rel => exact ⟨j + 1, by first | rw [HW2.out] | rfl, ⟨HJL.out⟩, _, _, ⟨HC11.out.imp (fun _ _ _ _ => Iff.rfl) (Nat.le_refl _) (fun _ => rfl) (fun q => by rw [addAll_snoc', ← take_snoc (show j < (cw l (sigState l i).1 x.f4).length by have := HNL.out; have := HLn.out; have := HJL.out; omega) HG.out])⟩, BX11⟩
                case measure => first | exact meas_lt HJL.out HW2.out | exact meas_lt2 HJL.out
              · have hj : j = ln := by have := HJ.out; omega
                have n5 : wr.cell? ⟨bl, 5, none⟩ = some (.int .i64 x.f4) := (blk_cell BX7.out 5).trans rfl
                have hl2 : (ln : Int) ≤ (c2 : Int) := by have := HNL.out; have := HC2.out; omega
                have hl4 : (ln : Int) ≤ (ln : Int) := by have := HNL.out; omega
                have hl0 : (0 : Int) ≤ (ln : Int) := by omega
                go_upto_region 16 with (fail)
                go_still_tail 9, (by kernel_rfl)
                refine still_value (W := wr.drew) rfl (exec_look (ok := false) (v := .slice A2 ln c2) keyL Try.underlying97 rfl (zero43 _) HC7.out.hmw.drew x.f4 rfl rfl (by rw [if_neg (by simp)]; exact HV2.out)) ?_
                repeat still_step
                refine wpStill_nil ?_
                change wpList _ _ _ _ _ wr.drew
                have hrow7 := (HC7.out.rw x.f4).val
                rw [HV2.out] at hrow7
                have HDr := Aside0.mk (Kd.Q_drop (k := ln) (Kd.Q_below hrow7 (below_drew (Below.refl _ _))) (by have := HNL.out; have := HLn.out; omega))
                clear hrow7
                refine step_put keyL Try.underlying97 rfl rfl HC7.out.hmw.drew x.f4 (.slice (if c2 = ln then A2 else A2.map (·.add (ln * k34.sz))) (ln - ln) (c2 - ln)) rfl rfl ?hu ?_
                case hu => first | rfl | (rw [Nat.sub_self]; rfl)
                intro w9 hm9 hg9 hs9
                have HCut := Aside0.mk ((HC7.out.below (below_drew (Below.refl _ _))).cut HDr.out hm9 hg9)
                have HJN := Aside0.mk hj
                clear hm9 hg9 hs9 hj n5 hl0 hl2 hl4
                go_wp2
                go_roundw
                case rel => exact ⟨i + 1, by rw [HW.out], ⟨HIL.out⟩, _, _, _, ⟨HCut.out.imp (fun f t w _ => up_none (cond_no (by rw [HX.out, HKD.out]; decide)) f t w) (nn_le HIL.out HN.out).2.2.2.2 (fun k => by rw [HCh.out.1 k, HN9.out]) (fun q => by rw [HCh.out.2 q, HN9.out, HJN.out])⟩⟩
                case measure => exact meas_lt (Int.ofNat_lt.1 HLT.out) HW.out
        · have q24 : (kd == 24) = false := by simp [k24]
          by_cases k25 : kd = 25
          · subst k25
            have HK25 := Aside0.mk (show (E l i).f3 = 25 by rw [HX.out]; exact HKD.out)
            have HBW := Aside0.mk (Nat.le_trans HC.out.kp.1 HBL.out)
            clear k4 k24 q4 q24
            obtain ⟨L, HL⟩ : ∃ L, Aside0 (sigsAt l i = L) := ⟨_, ⟨rfl⟩⟩
            have HCt := Aside0.mk (show ct l (sigState l i).2 (gk x.f2) = castN L by rw [← HX.out, ct_sigs, HL.out]; rfl)
            obtain ⟨v, hv⟩ : ∃ v, (Mp.get (gk x.f2) mt).getD (.slice none 0 0) = v := ⟨_, rfl⟩
            have hrow := (HC6.out.rt (gk x.f2)).val
            rw [hv, HCt.out] at hrow
            obtain ⟨A3, c3, rfl, hc3⟩ := Kd.Q_slice hrow
            have hcl : (castN L).length = L.length := by simp [castN]
            rw [hcl] at hv hc3
            have HV3 := Aside0.mk hv
            have HCl := Aside0.mk hcl
            have HLi := Aside0.mk (show L.length ≤ i by rw [← HL.out]; exact sigs_len l i)
            have l0 : (Instr.lookup 98 (.map (some (W.heap.size + 1))) (.agg #[.int .i64 x.f2.f0, .int .i64 x.f2.f1]) false).run Try.prog w6 = .ok (.slice A3 L.length c3) w6 := by
              have := run_look keyG Try.underlying98 (zero58 w6) HC6.out.hmt.of (gk x.f2) false
              rw [if_neg (by simp), hv] at this
              exact this
            clear hrow hv hcl hc3
            go_wp2
            clear l0 n2 n3 n4 n5 n6
            go_loopw [99] (fun v99 wr => ∃ k : Nat, v99 = .int .i64 (k : Int) ∧ Aside0 (k ≤ L.length) ∧ ∃ own : Nat → Option Tg, Aside0 (CI w s1 F l caps ok (orP (orP P (upTo (condP l) i)) (sigP l i k)) (N + i * l.length + k) W W.heap.size (W.heap.size + 1) (cw l (sigState l i).1) (ct l (sigState l i).2) own mw mt wr) ∧ Aside0 (own bl = some (Tg.w 0)) ∧ Aside0 (wr.heap[bl]? = some (.cells (cE x) 36 (0, 0)))) (fun v99 _ => L.length - (intOf v99).toNat)
            case atStart => exact ⟨0, rfl, ⟨Nat.zero_le _⟩, _, ⟨HC6.out.imp (fun f t w _ => ⟨.inl, fun q => q.elim id (fun q => by obtain ⟨_, _, j, _, h, _⟩ := q; exact absurd h (Nat.not_lt_zero _))⟩) (Nat.le_refl _) (fun _ => rfl) (fun _ => rfl)⟩, HBO, BX⟩
            case round =>
              obtain ⟨k, rfl, HK, own2, HC7, HB7, BX7⟩ := hrel
              by_cases hkl : (k : Int) < (L.length : Int)
              · have hk0 : (0 : Int) ≤ (k : Int) := by omega
                have hkn : k < L.length := by omega
                obtain ⟨s, hs⟩ : ∃ s, L[k]? = some s := ⟨_, List.getElem?_eq_getElem hkn⟩
                have hrow2 := (HC7.out.rt (gk x.f2)).val
                rw [HV3.out, HCt.out] at hrow2
                have hr2 := (Kd.Q_reads' hrow2).2.2
                rw [HCl.out] at hr2
                obtain ⟨ad2, e2, y0⟩ := Kd.at_int hr2 (k : Int) hk0 hkl
                cases e2
                rw [rd_cast hs, Int.toNat_natCast] at y0
                have HSS := Aside0.mk (show (sigsAt l i)[k]? = some s by rw [HL.out]; exact hs)
                have HKL := Aside0.mk hkn
                have HW2 := Aside0.mk (wrap_succ hkn (by have h5 := HC7.out.fs.ro.hn; have h6 := HIL.out; have h7 := HLi.out; omega))
                have HAr := Aside0.mk (arrow_calls (s : Int) i 6 wr HC7.out.fs HIL.out (by have h1 := (nn_le HIL.out HN.out).1; have h2 := HLi.out; omega))
                clear hrow2 hr2 hs hkn
                go_wp2_with (go_at_call 52; (refine HAr.out.mono ?_); rintro e w9 ⟨rfl, hf9, hk9⟩; have HF9 := Aside0.mk hf9; have HK9 := Aside0.mk hk9; clear hf9 hk9)
                go_roundw
                case rel => exact ⟨k + 1, by rw [HW2.out], ⟨HKL.out⟩, _, ⟨(HC7.out.arrowed HF9.out HK9.out).imp (fun f t w _ => sigP_step HSS.out f t w) (by omega) (fun _ => rfl) (fun _ => rfl)⟩, ⟨by rw [reown_lt (blk_lt BX7.out)]; exact HB7.out⟩, ⟨(HK9.out.2 bl (blk_lt BX7.out) (fun q => by have h1 := HBW.out; have h2 := HC7.out.lt; rcases q with q | q | q; (· omega); (· omega); (· have := q.1.2.2.2; rw [HB7.out] at this; cases this))).trans BX7.out⟩⟩
                case measure => exact meas_lt HKL.out HW2.out
              · have hk : k = L.length := by have := HK.out; omega
                have HKE := Aside0.mk hk
                have n2 : wr.cell? ⟨bl, 2, none⟩ = some (.int .i64 x.f2.f0) := (blk_cell BX7.out 2).trans rfl
                have n3 : wr.cell? ⟨bl, 3, none⟩ = some (.int .i64 x.f2.f1) := (blk_cell BX7.out 3).trans rfl
                clear hk
                go_wp2_with ((with_reducible refine gate_del (args := #[.tmp 108, .tmp 110]) rfl ?_); refine step_delS keyG Try.underlying98 rfl rfl HC7.out.hmt (gk x.f2) rfl rfl ?_; intro w9 hm9 hg9 hs9; have HCA := Aside0.mk (HC7.out.awaited hm9 hg9); clear hm9 hg9 hs9)
                go_roundw
                case rel => exact ⟨i + 1, by rw [HW.out], ⟨HIL.out⟩, _, _, _, ⟨HCA.out.imp (fun f t w _ => up_step (fun f w => by rw [HKE.out, ← HL.out]; exact cond_sigs HK25.out f w) (fun f t w q => q.1) f t w) (by have h1 := (nn_le HIL.out HN.out).2.2.1; have h2 := HLi.out; have h3 := HKE.out; omega) (fun q => await_cw HK25.out q) (fun q => by rw [← HX.out]; exact await_ct HK25.out q)⟩⟩
                case measure => exact meas_lt (Int.ofNat_lt.1 HLT.out) HW.out
          · have q25 : (kd == 25) = false := by simp [k25]
            have HNK := Aside0.mk (show kd ≠ 4 ∧ kd ≠ 24 ∧ kd ≠ 25 from ⟨k4, k24, k25⟩)
            clear k4 k24 k25
            go_wp2
            go_roundw
            case rel => exact ⟨i + 1, by rw [HW.out], ⟨HIL.out⟩, _, _, _, ⟨(HC6.out.imp (fun f t w _ => up_none (cond_no (by rw [HX.out, HKD.out]; exact HNK.out.2.2)) f t w) (nn_le HIL.out HN.out).2.2.2.2 (fun k => by rw [sig_other (by rw [HX.out, HKD.out]; exact fun q => HNK.out.1 q.1) (by rw [HX.out, HKD.out]; exact HNK.out.2.1) (by rw [HX.out, HKD.out]; exact HNK.out.2.2)]) (fun k => by rw [sig_other (by rw [HX.out, HKD.out]; exact fun q => HNK.out.1 q.1) (by rw [HX.out, HKD.out]; exact HNK.out.2.1) (by rw [HX.out, HKD.out]; exact HNK.out.2.2)]))⟩⟩
            case measure => exact meas_lt (Int.ofNat_lt.1 HLT.out) HW.out
    · have hi : i = l.length := by have := HI.out; omega
      subst hi
      go_wp2
      go_end0
      exact ⟨rfl, HC.out.fs.imp (fun k q _ _ => q.1) (fun f t w ht => up_end f t w ht) (Nat.le_refl _), HC.out.kp⟩
end Go.Proofs.Ytkbfijkohngjjaa.Od
