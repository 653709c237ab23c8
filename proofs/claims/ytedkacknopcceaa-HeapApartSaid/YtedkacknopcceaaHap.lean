/- rotalaw05.HeapApart: two heaps, of unlike types, do not disturb one another. Conditions: each theorem's own. -/
import Derived.Test.YtedkacknopcceaaHda
import Derived.Test.YtedkacknopcceaaHlv
import Derived.Test.YtedkacknopcceaaHst
set_option linter.unusedVariables false
set_option linter.unusedSimpArgs false
namespace Go.Proofs.Ytedkacknopcceaa.QHeap
open Go.RowKit Go.Proofs.Ytedkacknopcceaa.Ef Go.Proofs.Ytedkacknopcceaa.Mp Go.Proofs.Ytedkacknopcceaa.Hp Go.Proofs.YtedkacknopcceaaW.PrintWords Go.Proofs.YtedkacknopcceaaW.PrintLast Go.Proofs.YtedkacknopcceaaW.PrintMore

def Sep (S1 S2 S3 : Nat → Prop) (ga gb : Nat) : Prop := (∀ k, S1 k → ¬ S2 k ∧ ¬ S3 k ∧ k ≠ ga ∧ k ≠ gb) ∧ (∀ k, S2 k → ¬ S3 k ∧ k ≠ ga ∧ k ≠ gb) ∧ (∀ k, S3 k → k ≠ ga ∧ k ≠ gb) ∧ ga ≠ gb
theorem Sep.one {S1 S2 S3 S : Nat → Prop} {ga gb n : Nat} (h : Sep S1 S2 S3 ga gb) (hs : ∀ k, S k → S1 k ∨ n ≤ k) (h2 : ∀ k, S2 k → k < n) (h3 : ∀ k, S3 k → k < n) (ha : ga < n) (hb : gb < n) : Sep S S2 S3 ga gb :=
  ⟨fun k q => (hs k q).elim (h.1 k) (fun q => ⟨fun q2 => by have := h2 k q2; omega, fun q2 => by have := h3 k q2; omega, by omega, by omega⟩), h.2⟩
theorem Sep.two {S1 S2 S3 S : Nat → Prop} {ga gb n : Nat} (h : Sep S1 S2 S3 ga gb) (hs : ∀ k, S k → S2 k ∨ n ≤ k) (h1 : ∀ k, S1 k → k < n) (h3 : ∀ k, S3 k → k < n) (ha : ga < n) (hb : gb < n) : Sep S1 S S3 ga gb :=
  ⟨fun k q => ⟨fun q2 => (hs k q2).elim (fun q3 => (h.1 k q).1 q3) (fun q3 => by have := h1 k q; omega), (h.1 k q).2⟩, fun k q => (hs k q).elim (h.2.1 k) (fun q => ⟨fun q2 => by have := h3 k q2; omega, by omega, by omega⟩), h.2.2⟩

theorem Sep.swap {S1 S2 S3 : Nat → Prop} {ga gb : Nat} (h : Sep S1 S2 S3 ga gb) : Sep S2 S1 S3 gb ga :=
  ⟨fun k q => ⟨fun q2 => (h.1 k q2).1 q, (h.2.1 k q).1, (h.2.1 k q).2.2, (h.2.1 k q).2.1⟩, fun k q => ⟨(h.1 k q).2.1, (h.1 k q).2.2.2, (h.1 k q).2.2.1⟩, fun k q => ⟨(h.2.2.1 k q).2, (h.2.2.1 k q).1⟩, fun e => h.2.2.2 e.symm⟩
theorem act_now {w W : World} {A : Option Addr} {n : Nat} {xs : List S46} (h : Kd.C k46 w A n xs) (hb : Below w.heap.size w W) (i : Nat) (hi : i < n) : ∃ (ad : Addr) (y0 y1 y2 : Int), A = some ad ∧ W.cell? (ad.add (i * 3)) = some (.int .i64 y0) ∧ W.cell? ⟨(ad.add (i * 3)).block, (ad.add (i * 3)).off + 1, none⟩ = some (.int .u64 y1) ∧ W.cell? ⟨(ad.add (i * 3)).block, (ad.add (i * 3)).off + 2, none⟩ = some (.int .i64 y2) := by
  obtain ⟨ad, x, e, hx0, hx1, hx2⟩ := at_act h (i : Int) (Int.natCast_nonneg i) (by omega)
  rw [Int.toNat_natCast] at hx0 hx1 hx2
  exact ⟨ad, x.f0, x.f1, x.f2, e, (hb.cell (World.block_lt_of_cell? w _ hx0)).trans hx0, (hb.cell (World.block_lt_of_cell? w _ hx1)).trans hx1, (hb.cell (World.block_lt_of_cell? w _ hx2)).trans hx2⟩
def xa : Str.NI := ⟨1, 0, ⟨#[97]⟩⟩
structure Duo (w w0 : World) (p q r mb : Nat) (v3 : Value) (m3 : List (Int × Int)) (ok1 P1 ok2 P2 ok3 : Nat → Prop) (Aa : Option Addr) (ca : Nat) (la : List S34) (na : Int) (Ab : Option Addr) (cb : Nat) (lb : List S34) (nb : Int) (ga gb : Nat) : Prop where
  t1 : Two w w0.heap.size p ok1 P1 (.slice Aa la.length ca) la na
  t2 : Two w w0.heap.size q ok2 P2 (.slice Ab lb.length cb) lb nb
  t3 : Str.HeapAt w w0.heap.size r mb v3 ok3 [xa] m3 1
  sep : Sep (fun k => ok1 k ∨ P1 k) (fun k => ok2 k ∨ P2 k) ok3 ga gb
  b1 : w.heap[ga]? = some (.cells #[.slice Aa la.length ca, .int .i64 na] 42 (0, 0))
  b2 : w.heap[gb]? = some (.cells #[.slice Ab lb.length cb, .int .i64 nb] 42 (0, 0))
  hb : Below w0.heap.size w0 w
  g1 : w0.heap.size ≤ ga
  g2 : w0.heap.size ≤ gb
theorem str_top (base r mb : Nat) (v : Value) (ok : Nat → Prop) (m : List (Int × Int)) (w : World) (H : Str.HeapAt w base r mb v ok [xa] m 1) :
    Calls Try.prog 17 #[.pointer (some ⟨r, 0, none⟩)] w fun e w' => e = .returned (.tuple #[.int .u64 1, .int .i64 0, .string ⟨#[97]⟩, .int .i64 0]) ∧ Below w.heap.size w w' :=
  Str.top_some base r mb v ok [xa] m 1 w H (by decide)
theorem str_len (base r mb : Nat) (v : Value) (ok : Nat → Prop) (m : List (Int × Int)) (w : World) (H : Str.HeapAt w base r mb v ok [xa] m 1) :
    Calls Try.prog 18 #[.pointer (some ⟨r, 0, none⟩)] w fun e w' => e = .returned (.int .i64 1) ∧ w = w' :=
  Str.len_calls base r mb v ok [xa] m 1 w H
section
variable {w w0 : World} {p q r mb : Nat} {v3 : Value} {m3 : List (Int × Int)} {ok1 P1 ok2 P2 ok3 : Nat → Prop} {Aa : Option Addr} {ca : Nat} {la : List S34} {na : Int} {Ab : Option Addr} {cb : Nat} {lb : List S34} {nb : Int} {ga gb : Nat}
theorem Duo.swap (h : Duo w w0 p q r mb v3 m3 ok1 P1 ok2 P2 ok3 Aa ca la na Ab cb lb nb ga gb) : Duo w w0 q p r mb v3 m3 ok2 P2 ok1 P1 ok3 Ab cb lb nb Aa ca la na gb ga :=
  ⟨h.t2, h.t1, h.t3, h.sep.swap, h.b2, h.b1, h.hb, h.g2, h.g1⟩
theorem Duo.below (h : Duo w w0 p q r mb v3 m3 ok1 P1 ok2 P2 ok3 Aa ca la na Ab cb lb nb ga gb) {w' : World} (hb : Below w.heap.size w w') : Duo w' w0 p q r mb v3 m3 ok1 P1 ok2 P2 ok3 Aa ca la na Ab cb lb nb ga gb :=
  ⟨h.t1.below hb, h.t2.below hb, h.t3.below hb, h.sep, blk_below h.b1 hb, blk_below h.b2 hb, below_step h.hb hb, h.g1, h.g2⟩
theorem Duo.step (h : Duo w w0 p q r mb v3 m3 ok1 P1 ok2 P2 ok3 Aa ca la na Ab cb lb nb ga gb) {w5 : World} {ok' P' : Nat → Prop} {A' : Option Addr} {c' : Nat} {l' : List S34} {n' : Int} (hF : Fr w0.heap.size (fun k => ok1 k ∨ P1 k) w w5)
    (hT : Two w5 w0.heap.size p ok' P' (.slice A' l'.length c') l' n') (h3 : ∀ k, ok' k → ok1 k ∨ w.heap.size ≤ k) (h4 : ∀ k, P' k → P1 k ∨ w.heap.size ≤ k) :
    w5.heap[ga]? = some (.cells #[.slice Aa la.length ca, .int .i64 na] 42 (0, 0)) ∧ Duo ((w5.setCell ⟨ga, 0, none⟩ (.slice A' l'.length c')).setCell ⟨ga, 1, none⟩ (.int .i64 n')) w0 p q r mb v3 m3 ok' P' ok2 P2 ok3 A' c' l' n' Ab cb lb nb ga gb := by
  have hla := blk_lt h.b1
  have hlb := blk_lt h.b2
  have hna : ¬ (ok1 ga ∨ P1 ga) := fun q => (h.sep.1 ga q).2.2.1 rfl
  have hnb : ¬ (ok1 gb ∨ P1 gb) := fun q => (h.sep.1 gb q).2.2.2 rfl
  have B5 := hF.blk h.b1 hna
  have C5 := hF.blk h.b2 hnb
  have q1 := set_step (cur' := #[.slice A' l'.length c', .int .i64 na]) B5 0 (.slice A' l'.length c') rfl
  have q2 := set_step (cur' := #[.slice A' l'.length c', .int .i64 n']) q1.1 1 (.int .i64 n') rfl
  have hs : Sep (fun k => ok' k ∨ P' k) (fun k => ok2 k ∨ P2 k) ok3 ga gb := h.sep.one (n := w.heap.size) (fun k q => q.elim (fun q => (h3 k q).imp .inl id) (fun q => (h4 k q).imp .inr id)) (fun k q => q.elim (fun q => (h.t2.heap.bound k q).2) (fun q => (h.t2.bound k q).2)) (fun k q => h.t3.bound k q) hla hlb
  have d2 : ∀ k, (ok2 k ∨ P2 k) → ¬ (ok1 k ∨ P1 k) := fun k q q2 => (h.sep.1 k q2).1 q
  have d3 : ∀ k, ok3 k → ¬ (ok1 k ∨ P1 k) := fun k q q2 => (h.sep.1 k q2).2.1 q
  have U2 := h.t2.kept hF.k (fun k q => d2 k (.inl q)) (fun k q => d2 k (.inr q))
  have U3 := h.t3.kept hF.k d3
  have HB := hF.new h.hb (fun k q => q.elim (fun q => (h.t1.heap.bound k q).1) (fun q => (h.t1.bound k q).1))
  have m1 : ¬ ok' ga := fun q => (hs.1 ga (.inl q)).2.2.1 rfl
  have m2 : ¬ P' ga := fun q => (hs.1 ga (.inr q)).2.2.1 rfl
  have m3' : ¬ ok2 ga := fun q => (hs.2.1 ga (.inl q)).2.1 rfl
  have m4 : ¬ P2 ga := fun q => (hs.2.1 ga (.inr q)).2.1 rfl
  have m5 : ¬ ok3 ga := fun q => (hs.2.2.1 ga q).1 rfl
  have hne : some gb ≠ some ga := fun e => hs.2.2.2 (by cases e; rfl)
  exact ⟨B5, ⟨(hT.grown q1.2 m1 m2).grown q2.2 m1 m2, (U2.grown q1.2 m3' m4).grown q2.2 m3' m4, (U3.grown q1.2 m5).grown q2.2 m5, hs, q2.1, blk_grown (blk_grown C5 q1.2 hne) q2.2 hne,
    below_mput (below_mput HB q1.2 h.g1 HB.size) q2.2 h.g1 (Nat.le_trans HB.size q1.2.size), h.g1, h.g2⟩⟩
end
theorem str_push (base r mb : Nat) (v : Value) (ok : Nat → Prop) (w : World) (H : Str.HeapAt w base r mb v ok [] [] 0) :
    Calls Try.prog 16 #[.pointer (some ⟨r, 0, none⟩), .int .u64 1, .string ⟨#[97]⟩] w fun e w' => e = .returned (.int .i64 0) ∧ ∃ v' m' ok', Str.HeapAt w' base r mb v' ok' [xa] m' 1 ∧ (∀ k, ok' k → ok k ∨ w.heap.size ≤ k) ∧ Fr base ok w w' := by
  refine (Str.push_calls base r mb v ok [] [] 0 1 ⟨#[97]⟩ w H (by simp) (Int.le_refl _) (by omega)).mono ?_
  rintro e w' ⟨v', ok', he, hA, ho, hF⟩
  have e1 : (pushA [] [] xa).1 = [xa] := rfl
  exact ⟨he, v', _, ok', e1 ▸ hA, ho, hF⟩
set_option maxHeartbeats 4000000 in
set_option maxRecDepth 100000 in
theorem apart_calls (A0 : Option Addr) (c0 : Nat) (l0 : List S46) (A1 : Option Addr) (c1 : Nat) (l1 : List S46) (w : World) (hr0 : Kd.C k46 w A0 l0.length l0) (hr1 : Kd.C k46 w A1 l1.length l1) (hs0 : l0.length ≤ most) (hs1 : l1.length ≤ most) :
    Calls Try.prog 5 #[.slice A0 l0.length c0, .slice A1 l1.length c1] w fun e w' => e = .returned (.bool true) ∧ Below w.heap.size w w' := by
  have HR0 := Aside0.mk hr0
  have HR1 := Aside0.mk hr1
  have hb0 : (l0.length : Int) ≤ 5864062014804 := by unfold most at hs0; omega
  have hb1 : (l1.length : Int) ≤ 5864062014804 := by unfold most at hs1; omega
  have hu42 := Try.underlying42
  have TK1 := Aside0.mk trivial
  have TK2 := Aside0.mk trivial
  clear hr0 hr1
  go_enter Try.func5, Try.ntmps5
  go_wp2_with (first
    | (go_at_call 7; clear TK1; (refine (HP.new _).mono ?_); rintro e w1 ⟨p, rfl, hA, hb⟩; have HP1 := Aside0.mk hA; have HB1 := Aside0.mk hb; have HB1s := Aside0.mk (show w.heap.size ≤ w1.heap.size from hb.size); clear hA hb)
    | (go_at_call 7; clear TK2; (refine (HP.new _).mono ?_); rintro e w2 ⟨q, rfl, hA, hb⟩; have HP2 := Aside0.mk (HP1.out.below hb); have HQ2 := Aside0.mk hA; have HB2 := Aside0.mk (below_step HB1.out hb); have HS12 := Aside0.mk (show w1.heap.size ≤ w2.heap.size from hb.size); clear hA hb)
    | (go_at_call 15; (refine (Str.new_calls _).mono ?_); rintro e w3 ⟨r, mb, rfl, hA, hb⟩; have HP3 := Aside0.mk (HP2.out.below hb); have HQ3 := Aside0.mk (HQ2.out.below hb); have HR3 := Aside0.mk hA; have HB3 := Aside0.mk (below_step HB2.out hb); have HS23 := Aside0.mk (show w2.heap.size ≤ w3.heap.size from hb.size); clear hA hb HP1 HP2 HQ2 HB1)
    | (go_at_call 8; (refine (lives_calls _).mono ?_); rintro e w4 ⟨rfl, hb⟩; have HP4 := Aside0.mk (HP3.out.below hb); have HQ4 := Aside0.mk (HQ3.out.below hb); have HR4 := Aside0.mk (HR3.out.below hb); have HB4 := Aside0.mk (below_step HB3.out hb); have HS34 := Aside0.mk (show w3.heap.size ≤ w4.heap.size from hb.size); clear hb HP3 HQ3 HR3)
    | (go_at_call 16; (refine (str_push _ r mb _ _ _ HR4.out).mono ?_); rintro e w5 ⟨rfl, v3, m3, ok3, hA, ho, hF⟩; have HP5 := Aside0.mk (HP4.out.kept hF.k (fun k q q2 => by have := HS12.out; have := q.2; have := q2.1; omega)); have HQ5 := Aside0.mk (HQ4.out.kept hF.k (fun k q q2 => by have := q.2; have := q2.1; omega)); have HR5 := Aside0.mk hA; have HO5 := Aside0.mk (show ∀ k, ok3 k → w2.heap.size ≤ k from fun k q => (ho k q).elim (fun q => q.1) (fun q => by have := HS23.out; have := HS34.out; omega)); have HB5 := Aside0.mk (hF.new HB4.out (fun k q => by have := q.1; have := HB2.out.size; omega)); clear hA ho hF HP4 HQ4 HR4))
  have e1 : (w5.alloc (.cells #[.slice none 0 0, .int .i64 0] 42 (0, 0))).heap.size = w5.heap.size + 1 := Array.size_push _
  have Ba := Aside0.mk (blk_below (blk_new w5 (.cells #[.slice none 0 0, .int .i64 0] 42 (0, 0))) (below_alloc (Below.refl _ _) (.cells #[.slice none 0 0, .int .i64 0] 42 (0, 0))))
  have Bb := Aside0.mk (blk_new (w5.alloc (.cells #[.slice none 0 0, .int .i64 0] 42 (0, 0))) (.cells #[.slice none 0 0, .int .i64 0] 42 (0, 0)))
  rw [e1] at Bb
  have HL := Aside0.mk (below_alloc (below_alloc (Below.refl w5.heap.size w5) (.cells #[.slice none 0 0, .int .i64 0] 42 (0, 0))) (.cells #[.slice none 0 0, .int .i64 0] 42 (0, 0)))
  generalize (w5.alloc (.cells #[.slice none 0 0, .int .i64 0] 42 (0, 0))).alloc (.cells #[.slice none 0 0, .int .i64 0] 42 (0, 0)) = w7 at *
  have hw := HB2.out.size
  have D0 := Aside0.mk (show Duo w7 w p q r mb v3 m3 _ (fun _ => False) _ (fun _ => False) ok3 none 0 [] 0 none 0 [] 0 w5.heap.size (w5.heap.size + 1) from
    ⟨(Two.new HP5.out).below HL.out, (Two.new (HQ5.out.lower (by have := HB1s.out; omega))).below HL.out, (HR5.out.lower hw).below HL.out,
      ⟨fun k q => q.elim (fun q => ⟨fun q2 => q2.elim (fun q2 => by have := q.2; have := q2.1; omega) id, fun q2 => by have := HO5.out k q2; have := q.2; have := HS12.out; omega, by have := (HP5.out.bound k q).2; omega, by have := (HP5.out.bound k q).2; omega⟩) (fun q => q.elim),
       fun k q => q.elim (fun q => ⟨fun q2 => by have := HO5.out k q2; have := q.2; omega, by have := (HQ5.out.bound k q).2; omega, by have := (HQ5.out.bound k q).2; omega⟩) (fun q => q.elim),
       fun k q => ⟨by have := HR5.out.bound k q; omega, by have := HR5.out.bound k q; omega⟩, by omega⟩,
      Ba.out, Bb.out, below_step HB5.out HL.out, HB5.out.size, by have := HB5.out.size; omega⟩)
  clear HP5 HQ5 HR5 HO5 HB2 HB3 HB4 HB5 HS12 HS23 HS34 Ba Bb HL e1 hw
  generalize w5.heap.size = ga at *
  obtain ⟨gb, hgb⟩ : ∃ g, ga + 1 = g := ⟨_, rfl⟩
  rw [hgb] at D0 ⊢
  clear hgb
  go_loopw [10, 11] (fun v10 v11 wr => ∃ (i : Nat) (ok1 P1 ok2 P2 : Nat → Prop) (Aa : Option Addr) (ca : Nat) (la : List S34) (na : Int) (Ab : Option Addr) (cb : Nat) (lb : List S34) (nb : Int), v10 = .bool true ∧ v11 = .int .i64 (i : Int) ∧ Aside0 (i ≤ l0.length + l1.length ∧ la.length ≤ i ∧ la.length ≤ l0.length ∧ na ≤ i ∧ lb.length ≤ i ∧ lb.length ≤ l1.length ∧ nb ≤ i) ∧ Aside0 (Duo wr w p q r mb v3 m3 ok1 P1 ok2 P2 ok3 Aa ca la na Ab cb lb nb ga gb)) (fun _ v11 _ => (l0.length + l1.length) - (intOf v11).toNat)
  case atStart => exact ⟨0, _, _, _, _, none, 0, [], 0, none, 0, [], 0, rfl, rfl, ⟨by simp⟩, D0⟩
  case round =>
    clear D0
    obtain ⟨i, ok1, P1, ok2, P2, Aa, ca, la, na, Ab, cb, lb, nb, rfl, rfl, HI, DD⟩ := hrel
    by_cases h0 : (i : Int) < (l0.length : Int)
    · obtain ⟨ad0, y0, y1, y2, rfl, x0, x1, x2⟩ := act_now HR0.out DD.out.hb i (by omega)
      have s0 : wr.cell? ⟨ga, 0, none⟩ = some (.slice Aa la.length ca) := (blk_cell DD.out.b1 0).trans rfl
      have s1 : wr.cell? ⟨ga, 1, none⟩ = some (.int .i64 na) := (blk_cell DD.out.b1 1).trans rfl
      have hlm : la.length < most := by have := HI.out; omega
      have hnm : na ≤ (most : Nat) := by have := HI.out; omega
      go_wp2
      go_region_with (go_at_call 13; (refine (does_calls p ok1 P1 la Aa ca na y0 y1 y2 w _ (DD.out.below (pw_below_drewN (Below.refl _ _) _)).hb (DD.out.below (pw_below_drewN (Below.refl _ _) _)).t1 hlm hnm).mono ?_); rintro e w5 ⟨ok', P', l', A', c', n', rfl, hT, h1', h2', h3, h4, hF⟩; have HJ := Aside0.mk (And.intro h1' h2'); have HN := Aside0.mk ((DD.out.below (pw_below_drewN (Below.refl _ _) 1)).step hF hT h3 h4); clear hT h1' h2' h3 h4 hF s0 s1 x0 x1 x2; have s0 : w5.cell? ⟨ga, 0, none⟩ = some (.slice Aa la.length ca) := (blk_cell HN.out.1 0).trans rfl; have s1 : w5.cell? ⟨ga, 1, none⟩ = some (.int .i64 na) := (blk_cell HN.out.1 1).trans rfl; have z0 := blk_frozen HN.out.1 0; have z1 := blk_frozen HN.out.1 1)
      all_goals
        have DE := Aside0.mk HN.out.2
        clear HN s0 s1 z0 z1 hlm hnm
        by_cases h1 : (i : Int) < (l1.length : Int)
        · go_wp2
          generalize (w5.setCell ⟨ga, 0, none⟩ (.slice A' l'.length c')).setCell ⟨ga, 1, none⟩ (.int .i64 n') = w6 at *
          obtain ⟨ad1, y0, y1, y2, rfl, x0, x1, x2⟩ := act_now HR1.out DE.out.hb i (by omega)
          have s0 : w6.cell? ⟨gb, 0, none⟩ = some (.slice Ab lb.length cb) := (blk_cell DE.out.b2 0).trans rfl
          have s1 : w6.cell? ⟨gb, 1, none⟩ = some (.int .i64 nb) := (blk_cell DE.out.b2 1).trans rfl
          have hlm : lb.length < most := by have := HI.out; omega
          have hnm : nb ≤ (most : Nat) := by have := HI.out; omega
          go_region_with (go_at_call 13; (refine (does_calls q ok2 P2 lb Ab cb nb y0 y1 y2 w _ (DE.out.below (pw_below_drewN (Below.refl _ _) _)).hb (DE.out.below (pw_below_drewN (Below.refl _ _) _)).t2 hlm hnm).mono ?_); rintro e w8 ⟨ok2', P2', l2', A2', c2', n2', rfl, hT, h1', h2', h3, h4, hF⟩; have HK := Aside0.mk (And.intro h1' h2'); have HM := Aside0.mk ((DE.out.below (pw_below_drewN (Below.refl _ _) 1)).swap.step hF hT h3 h4); clear hT h1' h2' h3 h4 hF s0 s1 x0 x1 x2; have s0 : w8.cell? ⟨gb, 0, none⟩ = some (.slice Ab lb.length cb) := (blk_cell HM.out.1 0).trans rfl; have s1 : w8.cell? ⟨gb, 1, none⟩ = some (.int .i64 nb) := (blk_cell HM.out.1 1).trans rfl; have z0 := blk_frozen HM.out.1 0; have z1 := blk_frozen HM.out.1 1)
          all_goals
            have DF := Aside0.mk HM.out.2
            clear HM s0 s1 z0 z1 hlm hnm
            go_wp2
            go_roundw
            case rel => exact ⟨i + 1, ok', P', ok2', P2', A', c', l', n', A2', c2', l2', n2', rfl, by go_num, ⟨by have := HI.out; have := HJ.out; have := HK.out; omega⟩, ⟨DF.out.swap⟩⟩
            case measure => simp [intOf]; omega
        · go_wp2
          go_roundw
          case rel => exact ⟨i + 1, ok', P', ok2, P2, A', c', l', n', Ab, cb, lb, nb, rfl, by go_num, ⟨by have := HI.out; have := HJ.out; omega⟩, DE⟩
          case measure => simp [intOf]; omega
    · by_cases h1 : (i : Int) < (l1.length : Int)
      · obtain ⟨ad1, y0, y1, y2, rfl, x0, x1, x2⟩ := act_now HR1.out DD.out.hb i (by omega)
        have s0 : wr.cell? ⟨gb, 0, none⟩ = some (.slice Ab lb.length cb) := (blk_cell DD.out.b2 0).trans rfl
        have s1 : wr.cell? ⟨gb, 1, none⟩ = some (.int .i64 nb) := (blk_cell DD.out.b2 1).trans rfl
        have hlm : lb.length < most := by have := HI.out; omega
        have hnm : nb ≤ (most : Nat) := by have := HI.out; omega
        go_wp2
        go_region_with (go_at_call 13; (refine (does_calls q ok2 P2 lb Ab cb nb y0 y1 y2 w _ (DD.out.below (pw_below_drewN (Below.refl _ _) _)).hb (DD.out.below (pw_below_drewN (Below.refl _ _) _)).t2 hlm hnm).mono ?_); rintro e w8 ⟨ok2', P2', l2', A2', c2', n2', rfl, hT, h1', h2', h3, h4, hF⟩; have HK := Aside0.mk (And.intro h1' h2'); have HM := Aside0.mk ((DD.out.below (pw_below_drewN (Below.refl _ _) 1)).swap.step hF hT h3 h4); clear hT h1' h2' h3 h4 hF s0 s1 x0 x1 x2; have s0 : w8.cell? ⟨gb, 0, none⟩ = some (.slice Ab lb.length cb) := (blk_cell HM.out.1 0).trans rfl; have s1 : w8.cell? ⟨gb, 1, none⟩ = some (.int .i64 nb) := (blk_cell HM.out.1 1).trans rfl; have z0 := blk_frozen HM.out.1 0; have z1 := blk_frozen HM.out.1 1)
        all_goals
          have DF := Aside0.mk HM.out.2
          clear HM s0 s1 z0 z1 hlm hnm
          go_wp2
          go_roundw
          case rel => exact ⟨i + 1, ok1, P1, ok2', P2', Aa, ca, la, na, A2', c2', l2', n2', rfl, by go_num, ⟨by have := HI.out; have := HK.out; omega⟩, ⟨DF.out.swap⟩⟩
          case measure => simp [intOf]; omega
      · have hla : la.length ≤ most := by have := HI.out; omega
        have hlb : lb.length ≤ most := by have := HI.out; omega
        have TK3 := Aside0.mk trivial
        have TK4 := Aside0.mk trivial
        go_wp2_with (first
          | (go_at_call 17; (refine (str_top _ r mb _ _ _ wr DD.out.t3).mono ?_); rintro e wA ⟨rfl, hb⟩; have DA := Aside0.mk (DD.out.below hb); clear hb; have s0 : wA.cell? ⟨ga, 0, none⟩ = some (.slice Aa la.length ca) := (blk_cell DA.out.b1 0).trans rfl; have s1 : wA.cell? ⟨ga, 1, none⟩ = some (.int .i64 na) := (blk_cell DA.out.b1 1).trans rfl)
          | (go_at_call 14; clear TK3; (refine (told_calls w.heap.size p ok1 Aa ca la na 1 wA DA.out.t1.heap (Kd.R_reads' DA.out.t1.row).2.2 (Kd.R_reads' DA.out.t1.row).2.1 hla).mono ?_); rintro e wB ⟨rfl, hb⟩; have DB := Aside0.mk (DA.out.below hb); clear hb s0 s1; have s0 : wB.cell? ⟨gb, 0, none⟩ = some (.slice Ab lb.length cb) := (blk_cell DB.out.b2 0).trans rfl; have s1 : wB.cell? ⟨gb, 1, none⟩ = some (.int .i64 nb) := (blk_cell DB.out.b2 1).trans rfl)
          | (go_at_call 14; clear TK4; (refine (told_calls w.heap.size q ok2 Ab cb lb nb 1 wB DB.out.t2.heap (Kd.R_reads' DB.out.t2.row).2.2 (Kd.R_reads' DB.out.t2.row).2.1 hlb).mono ?_); rintro e wC ⟨rfl, hb⟩; have DC := Aside0.mk (DB.out.below hb); clear hb s0 s1)
          | (go_at_call 18; (refine (str_len _ r mb _ _ _ wC DC.out.t3).mono ?_); rintro e wD ⟨rfl, rfl⟩))
        go_ret
        exact ⟨rfl, DC.out.hb⟩
end Go.Proofs.Ytedkacknopcceaa.QHeap
