/- Any call of timers, told by what it does to what they hold. Conditions: each theorem's own. -/
import Derived.Test.YtceopcfmhidjlaaTaw
import Derived.Test.YtceopcfmhidjlaaTfu
set_option linter.unusedVariables false
set_option linter.unusedSimpArgs false
namespace Go.Proofs.Ytceopcfmhidjlaa.PTimerPlays
open Go.RowKit Go.Proofs.Ytceopcfmhidjlaa.Ef Go.Proofs.Ytceopcfmhidjlaa.Mp Go.Proofs.Ytceopcfmhidjlaa.Hp Go.Proofs.YtceopcfmhidjlaaW.PrintWords Go.Proofs.YtceopcfmhidjlaaW.PrintLast Go.Proofs.YtceopcfmhidjlaaW.PrintMore

instance (S : TS) : Decidable S.full := inferInstanceAs (Decidable (_ ∨ _))
def TS.sleepS (S : TS) (s g now t : Int) : TS := if S.sleeps (s, g) = true ∨ S.full then S else S.begin ⟨0, 1, ⟨s, g⟩, 0, 0, false, 0⟩ now t
def TS.afterS (S : TS) (ch now t : Int) : TS := if S.full then S else S.begin ⟨0, 2, ⟨0, 0⟩, ch, 0, false, 0⟩ now t
def TS.everyS (S : TS) (ch now t : Int) : TS := if t = 0 ∨ S.full then S else S.begin ⟨0, 3, ⟨0, 0⟩, ch, 0, false, t⟩ now t
def TS.stopS (S : TS) (id : Int) : TS := if S.all.any (fun x => x.f0 == id && x.f1 != 1) = true then S.rm id else S
def DueTo (now : Int) (S : TS) (l : List Tm) (S' : TS) : Prop := ∃ S1, Path now S l S1 ∧ (∀ n ∈ S1.hp, now < n.when) ∧ S' = l.foldl (rearm now) S1
/-- What a call leaves: timers that hold this. -/
def Left (base p : Nat) (ok : Nat → Prop) (S : TS) (w : World) (e : Ending) (w' : World) : Prop := ∃ (ok' : Nat → Prop) (v : Value), e = .returned v ∧ TP w' base p ok' S ∧ (∀ k, ok' k → ok k ∨ w.heap.size ≤ k) ∧ Fr base ok w w'
theorem Left.same {base p : Nat} {ok : Nat → Prop} {S : TS} {w w' : World} {v : Value} (H : TP w base p ok S) (hb : Below w.heap.size w w') : Left base p ok S w (.returned v) w' := ⟨ok, v, rfl, H.below hb, fun k q => .inl q, H.fr.below hb⟩
theorem room {S : TS} (h : ¬ S.full) : S.all.length < 1024 := by unfold TS.full at h; omega
section
variable (base p : Nat) (ok : Nat → Prop) (S : TS) (w : World) (H : TP w base p ok S)
include H
theorem sleep_any (s g now t : Int) (hl : S.last < 9223372036854775807) (hn1 : S.next ≤ 1000000000000000000) (h1 : u64 now) (h2 : u64 t) :
    Calls Try.prog 13 #[.pointer (some ⟨p, 0, none⟩), .agg #[.int .i64 s, .int .i64 g], .int .u64 now, .int .u64 t] w (Left base p ok (S.sleepS s g now t) w) := by
  by_cases hs : S.sleeps (s, g) = true
  · rw [show S.sleepS s g now t = S from if_pos (.inl hs)]
    exact (sleep_sleeps base p ok S s g now t w H hs).mono fun e w' ⟨he, hb⟩ => by subst he; exact Left.same H hb
  · have hs' : S.sleeps (s, g) = false := by simpa using hs
    by_cases hf : S.full
    · rw [show S.sleepS s g now t = S from if_pos (.inr hf)]
      exact (sleep_full base p ok S s g now t w H hs' hf).mono fun e w' ⟨he, hb⟩ => by subst he; exact Left.same H hb
    · rw [show S.sleepS s g now t = _ from if_neg (fun q => q.elim hs hf)]
      exact (sleep_ok base p ok S s g now t w H hs' (room hf) hl hn1 h1.1 h1.2 h2.1 h2.2).mono fun e w' ⟨ok', he, h3, h4, h5⟩ => ⟨ok', _, he, h3, h4, h5⟩
theorem after_any (ch now t : Int) (hl : S.last < 9223372036854775807) (hn1 : S.next ≤ 1000000000000000000) (h1 : u64 now) (h2 : u64 t) :
    Calls Try.prog 11 #[.pointer (some ⟨p, 0, none⟩), .int .i64 ch, .int .u64 now, .int .u64 t] w (Left base p ok (S.afterS ch now t) w) := by
  by_cases hf : S.full
  · rw [show S.afterS ch now t = S from if_pos hf]
    exact (after_full base p ok S ch now t w H hf).mono fun e w' ⟨he, hb⟩ => by subst he; exact Left.same H hb
  · rw [show S.afterS ch now t = _ from if_neg hf]
    exact (after_ok base p ok S ch now t w H (room hf) hl hn1 h1.1 h1.2 h2.1 h2.2).mono fun e w' ⟨ok', he, h3, h4, h5⟩ => ⟨ok', _, he, h3, h4, h5⟩
theorem every_any (ch now t : Int) (hl : S.last < 9223372036854775807) (hn1 : S.next ≤ 1000000000000000000) (h1 : u64 now) (h2 : u64 t) :
    Calls Try.prog 12 #[.pointer (some ⟨p, 0, none⟩), .int .i64 ch, .int .u64 now, .int .u64 t] w (Left base p ok (S.everyS ch now t) w) := by
  by_cases hz : t = 0
  · subst hz
    rw [show S.everyS ch now 0 = S from if_pos (.inl rfl)]
    exact (every_zero base p ok S ch now w H).mono fun e w' ⟨he, hb⟩ => by subst he; subst hb; exact Left.same H (Below.refl _ _)
  · by_cases hf : S.full
    · rw [show S.everyS ch now t = S from if_pos (.inr hf)]
      exact (every_full base p ok S ch now t w H hf hz).mono fun e w' ⟨he, hb⟩ => by subst he; exact Left.same H hb
    · rw [show S.everyS ch now t = _ from if_neg (fun q => q.elim hz hf)]
      exact (every_ok base p ok S ch now t w H hz (room hf) hl hn1 h1.1 h1.2 h2.1 h2.2).mono fun e w' ⟨ok', he, h3, h4, h5⟩ => ⟨ok', _, he, h3, h4, h5⟩
theorem stop_any (id : Int) :
    Calls Try.prog 14 #[.pointer (some ⟨p, 0, none⟩), .int .i64 id] w (Left base p ok (S.stopS id) w) := by
  by_cases h : S.all.any (fun x => x.f0 == id && x.f1 != 1) = true
  · rw [show S.stopS id = _ from if_pos h]
    obtain ⟨x, hx, hq⟩ := List.any_eq_true.1 h
    simp only [Bool.and_eq_true, beq_iff_eq, bne_iff_ne, ne_eq] at hq
    have := stop_ok base p ok S x w H hx hq.2
    rw [hq.1] at this
    exact this.mono fun e w' ⟨ok', he, h3, h4, h5⟩ => ⟨ok', _, he, h3, h4, h5⟩
  · rw [show S.stopS id = _ from if_neg h]
    have hno : ∀ x ∈ S.all, ¬ (x.f0 = id ∧ x.f1 ≠ 1) := fun x hx q => h (List.any_eq_true.2 ⟨x, hx, by simp [q.1, q.2]⟩)
    by_cases hi : ∃ x ∈ S.all, x.f0 = id
    · obtain ⟨x, hx, e⟩ := hi
      have hk : x.f1 = 1 := by
        by_cases q : x.f1 = 1
        · exact q
        · exact absurd ⟨e, q⟩ (hno x hx)
      exact (stop_sleep base p ok S id x w H hx e hk).mono fun e w' ⟨he, hb⟩ => by subst he; exact Left.same H hb
    · exact (stop_none base p ok S id w H (fun x hx e => hi ⟨x, hx, e⟩)).mono fun e w' ⟨he, hb⟩ => by subst he; exact Left.same H hb
end
/-! ### a script -/
structure S52 where
  f0 : Int
  f1 : S30
  f2 : Int
  f3 : Int
  f4 : Int
def z52 : S52 := ⟨(0 : Int), z30, (0 : Int), (0 : Int), (0 : Int)⟩
def k52 : Kd S52 := Kd.iso (Kd.pair (Kd.int .i64) (Kd.pair k30 (Kd.pair (Kd.int .i64) (Kd.pair (Kd.int .u64) (Kd.int .u64))))) (fun x : S52 => (x.f0, x.f1, x.f2, x.f3, x.f4))
abbrev OpT := S52
theorem op_open {w : World} {x : OpT} {cs : List Value} (h : k52.K w x cs) : cs = [.int .i64 x.f0, .int .i64 x.f1.f0, .int .i64 x.f1.f1, .int .i64 x.f2, .int .u64 x.f3, .int .u64 x.f4] := by
  obtain ⟨_, _, rfl, rfl, ⟨_, _, rfl, s2, ⟨_, _, rfl, rfl, ⟨_, _, rfl, rfl, rfl⟩⟩⟩⟩ := h
  obtain rfl := k30_open s2
  exact rfl
abbrev on (l : List OpT) (i : Nat) : OpT := (l[i]?).getD z52
theorem at_op {w : World} {A : Option Addr} {n : Nat} {xs : List OpT} (h : Kd.C k52 w A n xs) (i : Nat) (h1 : i < n) : ∃ ad : Addr, A = some ad ∧ w.cell? (ad.add (i * 6)) = some (.int .i64 (on xs i).f0) ∧ w.cell? ⟨(ad.add (i * 6)).block, (ad.add (i * 6)).off + 1, none⟩ = some (.int .i64 (on xs i).f1.f0) ∧ w.cell? ⟨(ad.add (i * 6)).block, (ad.add (i * 6)).off + 2, none⟩ = some (.int .i64 (on xs i).f1.f1) ∧ w.cell? ⟨(ad.add (i * 6)).block, (ad.add (i * 6)).off + 3, none⟩ = some (.int .i64 (on xs i).f2) ∧ w.cell? ⟨(ad.add (i * 6)).block, (ad.add (i * 6)).off + 4, none⟩ = some (.int .u64 (on xs i).f3) ∧ w.cell? ⟨(ad.add (i * 6)).block, (ad.add (i * 6)).off + 5, none⟩ = some (.int .u64 (on xs i).f4) := by
  obtain ⟨ad, c, e, _, hK, hc0⟩ := Kd.C_get h z52 (i : Int) (by omega) (by omega)
  rw [Int.toNat_natCast] at hc0 hK
  have hc : ∀ j u, c[j]? = some u → w.cell? (ad.add (i * 6 + j)) = some u := hc0
  obtain rfl := op_open hK
  exact ⟨ad, e, hc 0 _ rfl, by rw [← add_field _ _ 1 (by omega)]; exact hc 1 _ rfl, by rw [← add_field _ _ 2 (by omega)]; exact hc 2 _ rfl, by rw [← add_field _ _ 3 (by omega)]; exact hc 3 _ rfl, by rw [← add_field _ _ 4 (by omega)]; exact hc 4 _ rfl, by rw [← add_field _ _ 5 (by omega)]; exact hc 5 _ rfl⟩
/-- One call of a script. -/
def Does (S : TS) (o : OpT) (S' : TS) : Prop :=
  (o.f0 = 0 ∧ S' = S.sleepS o.f1.f0 o.f1.f1 o.f3 o.f4) ∨ (o.f0 = 1 ∧ S' = S.afterS o.f2 o.f3 o.f4) ∨ (o.f0 = 2 ∧ S' = S.everyS o.f2 o.f3 o.f4) ∨ (o.f0 = 3 ∧ S' = S.stopS o.f2) ∨ (o.f0 = 4 ∧ ∃ l, DueTo o.f3 S l S') ∨ ((o.f0 ≠ 0 ∧ o.f0 ≠ 1 ∧ o.f0 ≠ 2 ∧ o.f0 ≠ 3 ∧ o.f0 ≠ 4) ∧ S' = S)
inductive Runs : List OpT → TS → Prop
  | nil : Runs [] TS.nil
  | snoc {l : List OpT} {S S' : TS} {o : OpT} : Runs l S → Fine S → Once S.hp → Does S o S' → Runs (l ++ [o]) S'
/-- What stays within bounds. -/
structure Bnd (S : TS) (i : Nat) : Prop where
  rng : Rng S
  next : S.next ≤ 1024 * (i : Int)
  last : S.last ≤ i
  l0 : 0 ≤ S.last
  pos : ∀ x ∈ S.all, 1 ≤ x.f0
theorem Bnd.nil : Bnd TS.nil 0 := ⟨fun _ h => (by cases h), Int.le_refl _, Int.le_refl _, Int.le_refl _, fun _ h => (by cases h)⟩
theorem Bnd.more {S : TS} {i : Nat} (h : Bnd S i) : Bnd S (i + 1) := ⟨h.rng, by have := h.next; omega, by have := h.last; omega, h.l0, h.pos⟩
theorem ltr_u64 {a b : Int} (ha : u64 a) (hb : u64 b) : 0 ≤ ltr a b ∧ ltr a b < 18446744073709551616 := by
  obtain ⟨a0, a1⟩ := ha
  obtain ⟨b0, b1⟩ := hb
  unfold ltr
  split <;> omega
theorem Bnd.begin {S : TS} {i : Nat} (h : Bnd S i) (x : Tm) (now t : Int) (h1 : u64 now) (h2 : u64 t) (hp : 0 ≤ x.f6 ∧ x.f6 < 18446744073709551616 ∧ (x.f1 = 3 → 0 < x.f6)) : Bnd (S.begin x now t) (i + 1) := by
  have hb := begin_all S x now t
  refine ⟨fun y hy => ?_, by have := begin_next S x now t; have := h.next; omega, by rw [begin_last]; have := h.last; omega, by rw [begin_last]; have := h.l0; omega, fun y hy => by
    rcases List.mem_append.1 (hb.mem_iff.1 hy) with q | q
    · exact h.pos y q
    · rw [List.mem_singleton.1 q]; have := h.l0; show 1 ≤ S.last + 1; omega⟩
  rcases List.mem_append.1 (hb.mem_iff.1 hy) with q | q
  · exact h.rng y q
  · rw [List.mem_singleton.1 q]
    exact ⟨(ltr_u64 h1 h2).1, (ltr_u64 h1 h2).2, hp.1, hp.2.1, hp.2.2⟩
theorem again_rg {now : Int} {z : Tm} (h : Rg z) (hd : z.f4 ≤ now) (h3 : z.f1 = 3) : Rg (again now z) := by
  have hp := h.pp h3
  have hq : 0 ≤ (now - z.f4) / z.f6 := Int.ediv_nonneg (by omega) (by omega)
  unfold again
  by_cases hc : (18446744073709551615 - z.f4) / z.f6 ≤ (now - z.f4) / z.f6
  · rw [if_pos hc]
    exact ⟨Int.le_refl 0, (by decide : (0 : Int) < 18446744073709551616), h.p0, h.p1, h.pp⟩
  · rw [if_neg hc]
    have hf := again_fits hp h.t0 hq (Int.not_le.1 hc)
    have h0 : 0 ≤ ((now - z.f4) / z.f6 + 1) * z.f6 := Int.mul_nonneg (by omega) (by omega)
    have := h.t0
    exact ⟨by show 0 ≤ z.f4 + _; omega, by show z.f4 + _ < _; omega, h.p0, h.p1, h.pp⟩
theorem again_later {now : Int} {z : Tm} (h : Rg z) (hd : z.f4 ≤ now) (h3 : z.f1 = 3) (hn : (again now z).f5 = false) (hz : z.f5 = false) : now < (again now z).f4 := by
  have hp := h.pp h3
  unfold again at hn ⊢
  by_cases hc : (18446744073709551615 - z.f4) / z.f6 ≤ (now - z.f4) / z.f6
  · rw [if_pos hc] at hn; cases hn
  · rw [if_neg hc]
    show now < z.f4 + ((now - z.f4) / z.f6 + 1) * z.f6
    have h1 := Int.emod_lt_of_pos (now - z.f4) hp
    have h2 := Int.mul_ediv_add_emod (now - z.f4) z.f6
    rw [Int.add_mul, Int.one_mul, Int.mul_comm]
    omega
theorem Bnd.due {S S' : TS} {i : Nat} (h : Bnd S i) (F : Fine S) {now : Int} {l : List Tm} (hd : DueTo now S l S') : Bnd S' (i + 1) := by
  obtain ⟨S1, hp, hm, rfl⟩ := hd
  have P := hp.says F
  have Q := fold_says now S1 l
  have hl : l.length ≤ 1024 := by have h1 := P.perm.length_eq; have h2 := F.len; rw [List.length_append] at h1; omega
  refine ⟨fun y hy => ?_, by have h1 := Q.next.1; have h2 := P.next; have h3 := h.next; omega, by rw [Q.last, P.last]; have := h.last; omega, by rw [Q.last, P.last]; exact h.l0, fun y hy => by
    rcases Q.mem y hy with q | ⟨z, hz, h3, rfl⟩
    · exact h.pos y (P.perm.mem_iff.2 (List.mem_append.2 (.inr q)))
    · rw [(again_id now z).1]; exact h.pos z (P.perm.mem_iff.2 (List.mem_append.2 (.inl hz)))⟩
  rcases Q.mem y hy with q | ⟨z, hz, h3, rfl⟩
  · exact h.rng y (P.perm.mem_iff.2 (List.mem_append.2 (.inr q)))
  · exact again_rg (h.rng z (P.perm.mem_iff.2 (List.mem_append.2 (.inl hz)))) (P.due z hz).1 h3
theorem Bnd.step {S S' : TS} {i : Nat} (h : Bnd S i) (F : Fine S) {o : OpT} (h1 : u64 o.f3) (h2 : u64 o.f4) (hd : Does S o S') : Bnd S' (i + 1) := by
  rcases hd with ⟨_, rfl⟩ | ⟨_, rfl⟩ | ⟨_, rfl⟩ | ⟨_, rfl⟩ | ⟨_, l, hd⟩ | ⟨_, rfl⟩
  · unfold TS.sleepS
    split
    · exact h.more
    · exact h.begin _ _ _ h1 h2 ⟨Int.le_refl 0, (by decide : (0 : Int) < 18446744073709551616), fun q => absurd q (by decide : ¬ (1 : Int) = 3)⟩
  · unfold TS.afterS
    split
    · exact h.more
    · exact h.begin _ _ _ h1 h2 ⟨Int.le_refl 0, (by decide : (0 : Int) < 18446744073709551616), fun q => absurd q (by decide : ¬ (2 : Int) = 3)⟩
  · unfold TS.everyS
    split
    · exact h.more
    · rename_i hc
      have hne : o.f4 ≠ 0 := fun q => hc (.inl q)
      exact h.begin _ _ _ h1 h2 ⟨h2.1, h2.2, fun _ => by have := h2.1; show 0 < o.f4; omega⟩
  · unfold TS.stopS
    split
    · refine ⟨fun y hy => h.rng y (rm_mem hy), ?_, ?_, h.l0, fun y hy => h.pos y (rm_mem hy)⟩
      · have := h.next; show S.next ≤ _; omega
      · have := h.last; show S.last ≤ _; omega
    · exact h.more
  · exact h.due F hd
  · exact h.more
theorem TP.fine {w : World} {base p : Nat} {ok : Nat → Prop} {S : TS} (H : TP w base p ok S) : Fine S := by
  obtain ⟨P, v, ids, own, gs, _, _, _, hG⟩ := H
  exact hG.plain
theorem TP.idl {w : World} {base p : Nat} {ok : Nat → Prop} {S : TS} (H : TP w base p ok S) : ∀ x ∈ S.all, x.f0 ≤ S.last := by
  obtain ⟨P, v, ids, own, gs, _, _, _, hG⟩ := H
  exact hG.idl
theorem TP.once {w : World} {base p : Nat} {ok : Nat → Prop} {S : TS} (H : TP w base p ok S) : Once S.hp := by
  obtain ⟨P, v, ids, own, gs, _, _, hA, _⟩ := H
  exact hA.heap.once
theorem TP.nums {w : World} {base p : Nat} {ok : Nat → Prop} {S : TS} (H : TP w base p ok S) : ∀ n ∈ S.hp, n.num < S.next := by
  obtain ⟨P, v, ids, own, gs, _, _, _, hG⟩ := H
  exact hG.num
end Go.Proofs.Ytceopcfmhidjlaa.PTimerPlays
