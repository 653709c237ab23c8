/- rotaref05.Numbers: it changes nothing that was there. Conditions: each theorem's own. -/
import Derived.Test.YtedkacknopcceaaHrp
set_option linter.unusedVariables false
set_option linter.unusedSimpArgs false
namespace Go.Proofs.Ytedkacknopcceaa.QHeap
open Go.RowKit Go.Proofs.Ytedkacknopcceaa.Ef Go.Proofs.Ytedkacknopcceaa.Mp Go.Proofs.Ytedkacknopcceaa.Hp Go.Proofs.YtedkacknopcceaaW.PrintWords Go.Proofs.YtedkacknopcceaaW.PrintLast Go.Proofs.YtedkacknopcceaaW.PrintMore

theorem pop_any (A : Option Addr) (c : Nat) (l : List S34) (next : Int) (w : World) (hr : Kd.C k34 w A l.length l) (hc : l.length ≤ c) (hl : l.length ≤ most) (hp : 0 < l.length) :
    ∃ i : Nat, LeastAt l l.length i ∧ Calls Try.prog 28 #[.agg #[.slice A l.length c, .int .i64 next]] w fun e w' => ∃ A' c', e = .returned (.tuple #[.agg #[.slice A' (l.eraseIdx i).length c', .int .i64 next], .agg #[.int .u64 (l.getD i z34).f0, .int .i64 (l.getD i z34).f1, .int .i64 (l.getD i z34).f2], .int .i64 0]) ∧ Kd.R k34 34 w' w.heap.size (fun _ => True) (.slice A' (l.eraseIdx i).length c') (l.eraseIdx i) ∧ Below w.heap.size w w' := by
  obtain ⟨i, hi, h2, h1⟩ := top_eq l next hl hp (l.length + 1) (by omega)
  exact ⟨i, hi, pop_some' A c l next i w hr hc hl (l.length + 1) hi h1 h2 (without_eq l next i hl _ (by omega))⟩
structure Told (l l1 : List S34) (dd : List NI) : Prop where
  perm : (dd ++ l1.map toN).Perm (l.map toN)
  sorted : Sorted dd
  rest : ∀ y ∈ dd, ∀ z ∈ l1.map toN, ¬ lt z y
theorem told_next {l l1 : List S34} {dd : List NI} {i : Nat} (h : Told l l1 dd) (hi : LeastAt l1 l1.length i) : Told l (l1.eraseIdx i) (dd ++ [toN (l1.getD i z34)]) := by
  have hp := erase_toN l1 i hi.1
  have hL := least_toN hi
  refine ⟨?_, ?_, ?_⟩
  · rw [List.append_assoc]
    exact (List.Perm.append_left dd hp.symm).trans h.perm
  · unfold Sorted
    rw [List.pairwise_append]
    refine ⟨h.sorted, by simp, fun a ha b hb => ?_⟩
    rw [List.mem_singleton] at hb
    subst hb
    exact h.rest a ha _ hL.1
  · intro y hy z hz
    have hz' := hp.mem_iff.2 (List.mem_cons_of_mem _ hz)
    rcases List.mem_append.1 hy with q | q
    · exact h.rest y q z hz'
    · rw [List.mem_singleton] at q
      subst q
      exact hL.2 z hz'
/-- Where a state's row lies: it came in, or it is the call's own. -/
def Src (w : World) (A : Option Addr) (l : List S34) (g1 : Nat) (wr : World) (A1 : Option Addr) (c1 : Nat) (l1 : List S34) : Prop := (A1 = A ∧ l1 = l) ∨ Kd.R k34 34 wr w.heap.size (fun k => k ≠ g1) (.slice A1 l1.length c1) l1
theorem Src.reads {w wr : World} {A : Option Addr} {l : List S34} {g1 : Nat} {A1 : Option Addr} {c1 : Nat} {l1 : List S34} (h : Src w A l g1 wr A1 c1 l1) (hr : Kd.C k34 w A l.length l) (hb : Below w.heap.size w wr) : Kd.C k34 wr A1 l1.length l1 := by
  rcases h with ⟨rfl, rfl⟩ | h
  · exact Kd.C_below hr hb
  · exact (Kd.R_reads' h).2.2
theorem Src.below {w wr wn : World} {A : Option Addr} {l : List S34} {g1 : Nat} {A1 : Option Addr} {c1 : Nat} {l1 : List S34} (h : Src w A l g1 wr A1 c1 l1) (hb : Below wr.heap.size wr wn) : Src w A l g1 wn A1 c1 l1 := by
  rcases h with h | h
  · exact .inl h
  · exact .inr (Kd.R_below h hb)
def lenOf : Value → Nat
  | .slice _ n _ => n
  | _ => 0
set_option maxHeartbeats 4000000 in
set_option maxRecDepth 100000 in
theorem refnums_calls (A : Option Addr) (c : Nat) (l : List S34) (next : Int) (w : World) (hr : Kd.C k34 w A l.length l) (hc : l.length ≤ c) (hl : l.length ≤ most) :
    Calls Try.prog 20 #[.agg #[.slice A l.length c, .int .i64 next]] w fun e w' => ∃ v d, e = .returned v ∧ d.Perm (l.map toN) ∧ Sorted d ∧ Kd.R (Kd.int .i64) 3 w' w.heap.size (fun _ => True) v (d.map (·.num)) ∧ Below w.heap.size w w' := by
  have HR := Aside0.mk hr
  have HC := Aside0.mk hc
  clear hr hc
  have hu42 := Try.underlying42
  go_enter Try.func20, Try.ntmps20
  go_wp2_with (first
    | ((with_reducible refine gate_dst (N := 1) rfl ?_); refine box_event ?hg (N := 1) ?hd (cs := #[.slice A l.length c, .int .i64 next]) (t := 42) ?hr ?_; (case hd => rfl); (case hg => rfl); (case hr => first | (go_simp; done) | (go_simp; rfl)); intro g1 hg1 w1 hbox hb; have HB1 := Aside0.mk hb; have BK1 := Aside0.mk hbox; have HE1 := Aside0.mk (show w.heap.size ≤ g1 by omega); clear hb hbox hg1)
    | ((with_reducible refine gate_dst (N := 5) rfl ?_); refine Kd.R_lit (Kd.int .i64) (w0 := w) (W := w1) w.heap.size 3 rfl rfl (xs := []) (inner := []) (ok := fun k => k ≠ g1) (okp := fun _ => False) ?lR (Reps.none _ _) (fun _ h => h.elim) ?lF HB1.out HB1.out.size (by simp) ?_; (case lR => first | (go_simp; done) | (go_simp; rfl)); (case lF => have := blk_lt BK1.out; omega); intro v5 w2 hrow hb2 hg2 hat; have HB2 := Aside0.mk hb2; have HO2 := Aside0.mk hrow; have BK2 := Aside0.mk (blk_grown BK1.out hg2 (by simp)); clear hrow hb2 hg2 hat HB1 BK1))
  obtain ⟨A3, c3, e3⟩ := Kd.R_slice HO2.out
  simp only [List.length_nil] at e3
  subst e3
  go_loopw [3] (fun v3 wr => ∃ (l1 : List S34) (A1 : Option Addr) (c1 : Nat) (dd : List NI) (A3 : Option Addr) (c3 : Nat), v3 = .slice A3 dd.length c3 ∧ Aside0 (Told l l1 dd) ∧ Aside0 (l1.length + dd.length = l.length) ∧ Aside0 (wr.heap[g1]? = some (.cells #[.slice A1 l1.length c1, .int .i64 next] 42 (0, 0))) ∧ Aside0 (l1.length ≤ c1) ∧ Aside0 (Src w A l g1 wr A1 c1 l1) ∧ Aside0 (Kd.R (Kd.int .i64) 3 wr w.heap.size (fun k => k ≠ g1) (.slice A3 dd.length c3) (dd.map (·.num))) ∧ Aside0 (Below w.heap.size w wr)) (fun v3 _ => l.length - lenOf v3)
  case atStart => exact ⟨l, A, c, [], A3, c3, rfl, ⟨⟨by simp, List.Pairwise.nil, by simp⟩⟩, ⟨by simp⟩, BK2, HC, ⟨.inl ⟨rfl, rfl⟩⟩, HO2, HB2⟩
  case round =>
    clear HO2 HB2 BK2
    obtain ⟨l1, A1, c1, dd, A3, c3, rfl, HT, HL, BK, HC1, HS, HO, HB⟩ := hrel
    have hs0 : wr.cell? ⟨g1, 0, none⟩ = some (.slice A1 l1.length c1) := (blk_cell BK.out 0).trans rfl
    have hs1 : wr.cell? ⟨g1, 1, none⟩ = some (.int .i64 next) := (blk_cell BK.out 1).trans rfl
    by_cases hp : 0 < l1.length
    · have hp' : (0 : Int) < (l1.length : Int) := by omega
      have hm1 : l1.length ≤ most := by have := HL.out; omega
      obtain ⟨i, hi, hcall⟩ : ∃ i : Nat, LeastAt l1 l1.length i ∧ ∀ W, Below wr.heap.size wr W → Calls Try.prog 28 #[.agg #[.slice A1 l1.length c1, .int .i64 next]] W fun e w' => ∃ A' c', e = .returned (.tuple #[.agg #[.slice A' (l1.eraseIdx i).length c', .int .i64 next], .agg #[.int .u64 (l1.getD i z34).f0, .int .i64 (l1.getD i z34).f1, .int .i64 (l1.getD i z34).f2], .int .i64 0]) ∧ Kd.R k34 34 w' W.heap.size (fun _ => True) (.slice A' (l1.eraseIdx i).length c') (l1.eraseIdx i) ∧ Below W.heap.size W w' := by
        obtain ⟨i, hi, h2, h1⟩ := top_eq l1 next hm1 hp (l1.length + 1) (by omega)
        exact ⟨i, hi, fun W hW => pop_some' A1 c1 l1 next i W (Kd.C_below (HS.out.reads HR.out HB.out) hW) HC1.out hm1 (l1.length + 1) hi h1 h2 (without_eq l1 next i hm1 _ (by omega))⟩
      obtain ⟨x, HX⟩ : ∃ x : S34, Aside0 (l1.getD i z34 = x) := ⟨_, ⟨rfl⟩⟩
      obtain ⟨r, HRr⟩ : ∃ r, Aside0 (l1.eraseIdx i = r) := ⟨_, ⟨rfl⟩⟩
      have HLen : Aside0 (r.length + 1 = l1.length) := ⟨by rw [← HRr.out, List.length_eraseIdx, if_pos hi.1]; omega⟩
      have HTn := Aside0.mk (told_next HT.out hi)
      rw [HX.out, HRr.out] at hcall
      rw [HX.out, HRr.out] at HTn
      have HCall := Aside0.mk hcall
      clear hcall hi
      go_wp2_with (first
        | ((with_reducible refine gate_dst (N := 4) rfl ?_); refine box_event ?hg (N := 4) ?hd (cs := #[.int .u64 0, .int .i64 0, .int .i64 0]) (t := 34) ?hr ?_; (case hd => rfl); (case hg => rfl); (case hr => first | (go_simp; done) | (go_simp; rfl)); intro g4 hg4 w4 hbox hb; have HB4 := Aside0.mk hb; have BX4 := Aside0.mk hbox; have HO4 := Aside0.mk (Kd.R_below (Kd.R_mono (Kd.R_bound HO.out) (ok' := fun k => k ≠ g1 ∧ k ≠ g4) (fun k hk => ⟨hk.1, by have := hk.2.2.1; omega⟩)) hb); have HE4 := Aside0.mk (show wr.heap.size ≤ g4 from by omega); have HN4 := Aside0.mk (show g1 ≠ g4 from by have := blk_lt BK.out; omega); clear hb hbox hg4 hs0 hs1)
        | ((with_reducible refine gate_store (t := 34) (p := 4) (v := .tmp 10) rfl ?_); refine step_store rfl rfl rfl BX4.out rfl (u := .agg #[.int .u64 0, .int .i64 0, .int .i64 0]) (seg := [.int .u64 0, .int .i64 0, .int .i64 0]) rfl rfl (by kernel_rfl) (by simp [Value.oneCell']) (Nat.le_refl 3) (cur' := #[.int .u64 0, .int .i64 0, .int .i64 0]) rfl ?_; intro w5 hb5 hg5 hs5; have HB5 := Aside0.mk (below_mput HB4.out hg5 HE4.out HB4.out.size); have BX5 := Aside0.mk hb5; have HO5 := Aside0.mk (Kd.R_grown HO4.out hg5 (fun k hk e => by cases e; exact hk.2 rfl)); clear hb5 hg5 hs5 HB4 BX4 HO4; have BK5 := Aside0.mk (blk_below BK.out HB5.out); have hs0 : w5.cell? ⟨g1, 0, none⟩ = some (.slice A1 l1.length c1) := (blk_cell BK5.out 0).trans rfl; have hs1 : w5.cell? ⟨g1, 1, none⟩ = some (.int .i64 next) := (blk_cell BK5.out 1).trans rfl)
        | (go_at_call 28; (refine (HCall.out _ HB5.out).mono ?_); rintro e w6 ⟨A', c', rfl, hrow, hb⟩; have HB6 := Aside0.mk (below_step HB5.out hb); have BX6 := Aside0.mk (blk_below BX5.out hb); have BK6 := Aside0.mk (blk_below BK5.out hb); have HO6 := Aside0.mk (Kd.R_below HO5.out hb); have HS6 := Aside0.mk (Kd.R_mono (Kd.R_bound hrow) (ok' := fun k => k ≠ g1 ∧ k ≠ g4) (fun k hk => ⟨by have := hk.2.1; have := blk_lt BK5.out; omega, by have := hk.2.1; have := blk_lt BX5.out; omega⟩)); have HZ6 := Aside0.mk HB5.out.size; clear hb hrow hs0 hs1 HB5 BX5 BK5 HO5)
        | ((with_reducible refine gate_store (t := 42) (p := 1) (v := .tmp 14) rfl ?_); refine step_store rfl rfl rfl BK6.out rfl (u := .agg #[.slice A' r.length c', .int .i64 next]) (seg := [.slice A' r.length c', .int .i64 next]) rfl rfl (by kernel_rfl) (by simp [Value.oneCell']) (Nat.le_refl 2) (cur' := #[.slice A' r.length c', .int .i64 next]) rfl ?_; intro w7 hb7 hg7 hs7; have BK7 := Aside0.mk hb7; have BX7 := Aside0.mk (blk_grown BX6.out hg7 (by intro e; cases e; exact HN4.out rfl)); have HO7 := Aside0.mk (Kd.R_grown HO6.out hg7 (fun k hk e => by cases e; exact hk.1 rfl)); have HS7 := Aside0.mk (Kd.R_grown HS6.out hg7 (fun k hk e => by cases e; exact hk.1 rfl)); have HB7 := Aside0.mk (below_mput (below_step HB.out HB6.out) hg7 HE1.out (Nat.le_trans HB.out.size HB6.out.size)); clear hb7 hg7 hs7 BK6 BX6 HO6 HS6)
        | ((with_reducible refine gate_store (t := 34) (p := 4) (v := .tmp 15) rfl ?_); refine step_store rfl rfl rfl BX7.out rfl (u := .agg #[.int .u64 x.f0, .int .i64 x.f1, .int .i64 x.f2]) (seg := [.int .u64 x.f0, .int .i64 x.f1, .int .i64 x.f2]) rfl rfl (by kernel_rfl) (by simp [Value.oneCell']) (Nat.le_refl 3) (cur' := #[.int .u64 x.f0, .int .i64 x.f1, .int .i64 x.f2]) rfl ?_; intro w8 hb8 hg8 hs8; have BK8 := Aside0.mk (blk_grown BK7.out hg8 (by intro e; cases e; exact HN4.out rfl)); have HO8 := Aside0.mk (Kd.R_mono (Kd.R_grown HO7.out hg8 (fun k hk e => by cases e; exact hk.2 rfl)) (ok' := fun k => k ≠ g1) (fun k hk => hk.1)); have HS8 := Aside0.mk (Kd.R_mono (Kd.R_grown HS7.out hg8 (fun k hk e => by cases e; exact hk.2 rfl)) (ok' := fun k => k ≠ g1) (fun k hk => hk.1)); have HB8 := Aside0.mk (below_mput HB7.out hg8 (Nat.le_trans HB.out.size HE4.out) HB7.out.size); have hx1 : w8.cell? ⟨g4, 1, none⟩ = some (.int .i64 x.f1) := (blk_cell hb8 1).trans rfl; clear hb8 hg8 hs8 BK7 BX7 HO7 HS7 HB7)
        | ((with_reducible refine gate_builtin (b := .append) (xs := #[.tmp 17, .tmp 20]) rfl ?_); at_builtin; refine Kd.R_append (Kd.int .i64) (w0 := w) (W := w8) w.heap.size rfl (.tmp 17) (.tmp 20) 23 3 (.int .i64 0) 8 rfl Try.underlying23 info3i rfl (by decide) (by omega) (.slice A3 dd.length c3) (dd.map (·.num)) x.f1 [.int .i64 x.f1] (fun k => k ≠ g1) (fun _ => False) rfl rfl ?aP (fun _ hk => hk.elim) ?aF HO8.out HB8.out HB8.out.size ?aL ?_; (case aP => exact rfl); (case aF => exact fun k hk => by have := blk_lt BK8.out; omega); (case aL => rw [List.length_map]; have := HL.out; unfold most at hl; omega); intro v9 w9 hrow hb9 hg9 hat; obtain ⟨A9, c9, e9⟩ := Kd.R_slice hrow; have HO9 := Aside0.mk hrow; have HB9 := Aside0.mk hb9; have BK9 := Aside0.mk (blk_grown BK8.out hg9 (fun e => HO8.out.1 g1 e.symm rfl)); have HS9 := Aside0.mk (Kd.R_mono (Kd.R_grown (Kd.R_apartR HS8.out HO8.out (by decide)) hg9 (fun k hk => hk.2)) (ok' := fun k => k ≠ g1) (fun k hk => hk.1)); clear hrow hb9 hg9 hat hx1))
      have hn := HS9.out
      have e9' : v9 = .slice A9 (dd ++ [toN x]).length c9 := by rw [e9]; simp
      have HO10 : Aside0 (Kd.R (Kd.int .i64) 3 w9 w.heap.size (fun k => k ≠ g1) (.slice A9 (dd ++ [toN x]).length c9) ((dd ++ [toN x]).map (·.num))) := ⟨by have := HO9.out; rw [e9'] at this; rw [List.map_append]; exact this⟩
      subst e9'
      go_roundw
      case rel => exact ⟨r, A', c', dd ++ [toN x], A9, c9, by simp, HTn, ⟨by have := HLen.out; have := HL.out; rw [List.length_append, List.length_singleton]; omega⟩, BK9, ⟨(Kd.R_reads' hn).2.1⟩, ⟨.inr (Kd.R_lower hn (Nat.le_trans HB.out.size HZ6.out))⟩, HO10, HB9⟩
      case measure => have h1 := HL.out; simp only [lenOf, List.length_append, List.length_singleton]; omega
    · have hnil : l1 = [] := List.eq_nil_of_length_eq_zero (by omega)
      subst hnil
      go_wp2
      go_ret
      have hp := HT.out.perm
      rw [List.map_nil, List.append_nil] at hp
      exact ⟨_, dd, rfl, hp, HT.out.sorted, Kd.R_mono HO.out (fun _ _ => trivial), HB.out⟩
end Go.Proofs.Ytedkacknopcceaa.QHeap
