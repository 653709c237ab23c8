/- Numbers of a heap: those of what it holds, by (when, number). Conditions: each theorem's own. -/
import Derived.Test.YtceopcfmhidjlaaTcm
import Derived.Test.YtceopcfmhidjlaaFs
import Derived.Test.YtceopcfmhidjlaaShN
set_option linter.unusedVariables false
set_option linter.unusedSimpArgs false
namespace Go.Proofs.Ytceopcfmhidjlaa.PTimerPlays
open Go.RowKit Go.Proofs.Ytceopcfmhidjlaa.Ef Go.Proofs.Ytceopcfmhidjlaa.Mp Go.Proofs.Ytceopcfmhidjlaa.Hp Go.Proofs.Ytceopcfmhidjlaa.Fs Go.Proofs.YtceopcfmhidjlaaW.PrintWords Go.Proofs.YtceopcfmhidjlaaW.PrintLast Go.Proofs.YtceopcfmhidjlaaW.PrintMore

def eN (x : NI) : List Value := [.int .u64 x.when, .int .i64 x.num, .int .i64 x.val.f0, .int .i64 x.val.f1, .int .i64 x.val.f2.f0, .int .i64 x.val.f2.f1, .int .i64 x.val.f3, .int .u64 x.val.f4, .bool x.val.f5, .int .u64 x.val.f6]
theorem flatN : Flat kN eN := {
  len := fun _ => rfl
  one := fun x v hv => by simp [eN] at hv; rcases hv with rfl | rfl | rfl | rfl | rfl | rfl | rfl | rfl | rfl | rfl <;> rfl
  mkM := fun w base ok x => kN_mkM w base ok x
  op := fun h => kN_openM h }
theorem lt_cmp (x y : NI) : Go.Proofs.ltOf cmpN x y = Hp.ahead x y := by
  unfold Go.Proofs.ltOf cmpN cmpI Hp.ahead
  by_cases h1 : x.when < y.when
  · simp [h1]
  · by_cases h2 : y.when < x.when
    · have h3 : ¬ x.when = y.when := by omega
      simp [h1, h2, h3]
    · have h3 : x.when = y.when := by omega
      by_cases h4 : x.num < y.num
      · simp [h3, h4]
      · by_cases h5 : y.num < x.num <;> simp [h3, h4, h5]
theorem ltN_eq : Go.Proofs.ltOf cmpN = Hp.ahead := by funext x y; exact lt_cmp x y
theorem swoN : Go.Sort.SWO (Go.Proofs.ltOf cmpN) := {
  irrefl := fun x => by rw [ltN_eq]; exact (ahead_not _ _).2 (lt_irrefl x)
  trans := fun x y z h1 h2 => by rw [ltN_eq] at *; exact (ahead_iff _ _).2 (lt_trans ((ahead_iff _ _).1 h1) ((ahead_iff _ _).1 h2))
  ntrans := fun x y z h1 h2 => by rw [ltN_eq] at *; exact (ahead_not _ _).2 (nlt_trans ((ahead_not _ _).1 h2) ((ahead_not _ _).1 h1)) }
theorem clone_row {base g cap : Nat} {ok : Nat → Prop} {l : List NI} {w : World} (H : kN.R 105 w base ok (.slice (some ⟨g, 0, none⟩) l.length cap) l) (hl : l.length * 80 ≤ 140737488355328) :
    Calls Try.prog 51 #[.slice (some ⟨g, 0, none⟩) l.length cap] w fun e w' => ∃ v', e = .returned v' ∧ kN.R 105 w' w.heap.size (fun k => w.heap.size ≤ k) v' l ∧ Below w.heap.size w w' := by
  obtain ⟨i0, hi, hzz⟩ := Option.map_eq_some_iff.1 infoN
  simp only [Prod.mk.injEq] at hzz
  obtain ⟨hz0, hz1, hz2⟩ := hzz
  have hH := flat_holds flatN (by decide) H
  have hcon := AnyE.slices_Clone Try.cloneN i0 (.agg #[.int .u64 0, .int .i64 0, .int .i64 0, .int .i64 0, .int .i64 0, .int .i64 0, .int .i64 0, .int .u64 0, .bool false, .int .u64 0]) 10 80 hi hz0 hz1 hz2 rfl (by decide) Try.sizeOf105 g 0 l.length cap (Go.Sort.flatK eN 10 l.toArray).toList w (by simp) (by unfold maxLen; omega) hl
    (fun j u hu => by
      have hj := (List.getElem?_eq_some_iff.1 hu).1
      have hj' : j < (Go.Sort.flatK eN 10 l.toArray).size := by simpa using hj
      have h2 := (hH j hj').1
      have e : (Go.Sort.flatK eN 10 l.toArray)[j]! = u := by
        rw [getElem!_pos (Go.Sort.flatK eN 10 l.toArray) j hj']
        have := (List.getElem?_eq_some_iff.1 hu).2
        rw [← this]
        simp
      rw [show kN.sz = 10 from rfl] at h2
      rw [e] at h2
      exact h2)
    (fun u hu => by
      obtain ⟨j, hj, rfl⟩ := List.getElem_of_mem hu
      have hj2 : j < l.length * 10 := by simpa using hj
      have hq : j / 10 < l.length := by omega
      have hg := Go.Sort.get_flatK eN 10 l.toArray j (by simpa using hj2)
      rw [Array.getElem_toList, ← getElem!_pos (Go.Sort.flatK eN 10 l.toArray) j (by simpa using hj2), hg]
      have hlen : j % 10 < (eN l.toArray[j / 10]!).length := by rw [show (eN l.toArray[j / 10]!).length = 10 from rfl]; omega
      rw [getElem!_pos (eN l.toArray[j / 10]!) (j % 10) hlen]
      exact flatN.one _ _ (List.getElem_mem _))
  refine Calls.mono hcon ?_
  rintro e w' ⟨v', he, how, _, hb⟩
  refine ⟨v', he, ⟨fun k hk => ?_, (Go.Sort.flatK eN 10 l.toArray).toList, how, ?_⟩, hb⟩
  · exact own_base how k hk
  · have := flat_reps flatN (by decide) w' w.heap.size (fun k => w.heap.size ≤ k ∧ some k ≠ v'.ownBlock) l.toArray
    rw [show l.toArray.toList = l by simp] at this
    exact this
theorem sort_row {base g cap : Nat} {ok : Nat → Prop} {l : List NI} {w : World} (H : kN.R 105 w base ok (.slice (some ⟨g, 0, none⟩) l.length cap) l) (hl : l.length ≤ 1000000000000000000) :
    Calls Try.prog 52 #[.slice (some ⟨g, 0, none⟩) l.length cap, .func (.func 53) #[] #[]] w fun e w' => e = .returned (.tuple #[]) ∧ ∃ d : List NI, d.Perm l ∧ Sorted d ∧ kN.R 105 w' base ok (.slice (some ⟨g, 0, none⟩) l.length cap) d ∧ w.grownBy w' (some g) := by
  have hH := flat_holds flatN (by decide) H
  have hgl : g < w.heap.size := (Kd.R_lt H) g (by simp [Value.ownBlock])
  have eg : ∀ args w, (callFunc 53 args).run Try.prog w = .ok (.enter 53 args) w := enters_of Try.func53 (by kernel_rfl) rfl
  have hsz : l.toArray.size = l.length := by simp
  have hcon := AnyQ.slices_SortFunc Try.sortN 10 Try.isAgg105 Try.sizeOf105 eN (fun _ => rfl) flatN.one cmpN swoN 53 #[] g 0 cap l.toArray w eg (fun _ _ _ _ x y => cmpN_calls x y _) hH hgl (by rw [hsz]; omega)
  rw [hsz] at hcon
  refine Calls.mono hcon ?_
  rintro e w' ⟨he, d', n, os, hp, hs, rfl⟩
  have hd : d'.size = l.length := by rw [hp.1, hsz]
  have hb := flat_back flatN (by decide) (n := n) (os := os) (D := d') H hd
  refine ⟨he, d'.toList, ?_, ?_, hb.1, hb.2⟩
  · have h2 := hp.2.2
    have q1 : (d'.extract 0 l.length).toList = d'.toList := by
      rw [← hd]; simp
    have q2 : (l.toArray.extract 0 l.length).toList = l := by simp
    rw [q1, q2] at h2
    exact h2
  · have h3 := sorted_list (lt := Go.Proofs.ltOf cmpN) (d' := d') (by rw [hd]; exact hs)
    unfold Sorted
    refine h3.imp (fun {a b} hab => ?_)
    rw [ltN_eq] at hab
    exact (ahead_not _ _).1 hab

theorem info3i : (Try.prog.info? 3).map (fun i => (i.zero, i.size, i.bytes)) = some (some (.int .i64 0), 1, 8) := by kernel_rfl
theorem nums_none (base p : Nat) (ok : Nat → Prop) (next : Int) (w : World) (H : HP w base p ok [] next) :
    Calls Try.prog 35 #[.pointer (some ⟨p, 0, none⟩)] w fun e w' => e = .returned (.slice none 0 0) ∧ w = w' := by
  have HH := Aside0.mk H
  clear H
  go_enter Try.func35, Try.ntmps35
  go_wp2_with (go_at_call 49; (refine (HP.len base p ok [] next _ HH.out).mono ?_); rintro e w1 ⟨rfl, rfl⟩)
  go_ret
  exact ⟨rfl, rfl⟩
set_option maxHeartbeats 2000000 in
set_option maxRecDepth 100000 in
theorem nums_some (base p mb : Nat) (v : Value) (ok : Nat → Prop) (l : List NI) (m : List (Int × Int)) (next : Int) (w : World) (H : HeapAt w base p mb v ok l m next) (hl : 0 < l.length) (hsm : l.length * 80 ≤ 140737488355328) :
    Calls Try.prog 35 #[.pointer (some ⟨p, 0, none⟩)] w fun e w' => ∃ v d, e = .returned v ∧ d.Perm l ∧ Sorted d ∧ Kd.R (Kd.int .i64) 3 w' w.heap.size (fun _ => True) v (d.map (·.num)) ∧ Below w.heap.size w w' := by
  have HH := Aside0.mk H
  obtain ⟨g, cap, rfl, hbg, hgl, cells0, hg0⟩ := Kd.R_form H.row hl
  have hp0 : w.cell? ⟨p, 0, none⟩ = some (.slice (some ⟨g, 0, none⟩) l.length cap) := (blk_cell H.blk 0).trans rfl
  have hl0 : ((l.length : Int) == 0) = false := by simp; intro e; rw [e] at hl; exact absurd hl (by decide)
  clear H hg0
  go_enter Try.func35, Try.ntmps35
  go_wp2_with (first
    | (go_at_call 49; (refine (len_calls base p mb _ ok l m next _ HH.out).mono ?_); rintro e w1 ⟨rfl, rfl⟩)
    | (go_at_call 51; (refine (clone_row HH.out.row hsm).mono ?_); rintro e w2 ⟨v2, rfl, hr, hb⟩; obtain ⟨g2, cap2, rfl, hbg2, _⟩ := Kd.R_form hr hl; have HR2 := Aside0.mk hr; have HB2 := Aside0.mk hb; have HG2 := Aside0.mk hbg2; clear hr hb hbg2 hp0)
    | (go_at_call 52; (refine (sort_row HR2.out (by omega)).mono ?_); rintro e w3 ⟨rfl, d, hp, hs, hr, hg⟩; have HR3 := Aside0.mk hr; have HB3 := Aside0.mk (below_mput HB2.out hg HG2.out HB2.out.size); have HPm := Aside0.mk hp; have HS := Aside0.mk hs; have hdl : d.length = l.length := hp.length_eq; clear hr hg hp hs HR2 HB2))
  have HT3 := Aside0.mk (Kd.R_mono (Kd.R_tight2 (d := kN) rfl HR3.out) (ok' := fun k => k = g2) (fun k hk => by have := hk.1; simp [Value.ownBlock] at this; exact this))
  have hll : (d.length : Int) = (l.length : Int) := by omega
  have HLL := Aside0.mk hll
  clear hll HR3
  go_loopw [4, 19] (fun v4 v19 wr => ∃ i : Nat, v19 = .int .i64 (i : Int) ∧ Aside0 (i ≤ l.length) ∧ Aside0 (Kd.R (Kd.int .i64) 3 wr w.heap.size (fun k => k ≠ g2) v4 ((d.take i).map (·.num))) ∧ Aside0 (kN.R 105 wr w.heap.size (fun k => k = g2) (.slice (some ⟨g2, 0, none⟩) l.length cap2) d) ∧ Aside0 (Below w.heap.size w wr)) (fun _ v19 _ => l.length - (intOf v19).toNat)
  case atStart => exact ⟨0, rfl, ⟨Nat.zero_le _⟩, ⟨Kd.R_nil _ _ _ _ _⟩, HT3, HB3⟩
  case round =>
    clear HT3 HB3
    obtain ⟨i, rfl, HI, HO, HT, HB⟩ := hrel
    by_cases hlt : (i : Int) < (l.length : Int)
    · have hid : i < d.length := by omega
      have hi0 : (0 : Int) ≤ (i : Int) := by omega
      obtain ⟨x, HX⟩ : ∃ x, Aside0 (nd d i = x) := ⟨_, ⟨rfl⟩⟩
      obtain ⟨hx0, hx1, hx2, hx3, hx4, hx5, hx6, hx7, hx8, hx9⟩ := at_row HT.out i (by omega)
      rw [HX.out] at hx0 hx1 hx2 hx3 hx4 hx5 hx6 hx7 hx8 hx9
      have hlen : ((d.take i).map (·.num)).length = i := by simp; omega
      have HLN := Aside0.mk hlen
      have HGB := Aside0.mk (show w.heap.size ≤ g2 from (Kd.R_base HT.out) g2 (by simp [Value.ownBlock]))
      clear hlen
      go_wp2_with (first
        | ((with_reducible refine gate_dst (N := 6) rfl ?_); refine box_event ?hg (N := 6) ?hd (cs := #[.int .u64 0, .int .i64 0, .int .i64 0, .int .i64 0, .int .i64 0, .int .i64 0, .int .i64 0, .int .u64 0, .bool false, .int .u64 0]) (t := 105) ?hr ?_; (case hd => rfl); (case hg => rfl); (case hr => first | (go_simp; done) | (go_simp; rfl)); intro bl hbl w5 hbox hb; have HB5 := Aside0.mk (below_step HB.out hb); have HT5 := Aside0.mk (Kd.R_below HT.out hb); have HO5 := Aside0.mk (Kd.R_below (Kd.R_mono (Kd.R_bound HO.out) (ok' := fun k => k ≠ g2 ∧ k ≠ bl) (fun k hk => ⟨hk.1, by have := hk.2.2.1; omega⟩)) hb); have BK5 := Aside0.mk hbox; have HNB := Aside0.mk (show w.heap.size ≤ bl from by have := HB.out.size; omega); have HNG := Aside0.mk (show g2 ≠ bl from by have := (Kd.R_lt HT.out) g2 (by simp [Value.ownBlock]); omega); clear hb hbox hbl hx0 hx1 hx2 hx3 hx4 hx5 hx6 hx7 hx8 hx9)
        | ((with_reducible refine gate_store (t := 105) (p := 6) (v := .tmp 22) rfl ?_); refine step_store rfl rfl rfl BK5.out rfl (u := .agg (cN x)) (seg := (cN x).toList) rfl rfl (by kernel_rfl) (by simp [Value.oneCell']) (Nat.le_refl 10) (cur' := cN x) rfl ?_; intro w6 hb6 hg6 hs6; have BK6 := Aside0.mk hb6; have HB6 := Aside0.mk (below_mput HB5.out hg6 HNB.out HB5.out.size); have HT6 := Aside0.mk (Kd.R_grown HT5.out hg6 (fun k hk e => by cases e; exact HNG.out hk.symm)); have HO6 := Aside0.mk (Kd.R_mono (Kd.R_grown HO5.out hg6 (fun k hk e => by cases e; exact hk.2 rfl)) (ok' := fun k => k ≠ g2) (fun k hk => hk.1)); have hn1 : w6.cell? ⟨bl, 1, none⟩ = some (.int .i64 x.num) := (blk_cell hb6 1).trans rfl; clear hb6 hg6 hs6 BK5 HB5 HT5 HO5)
        | ((with_reducible refine gate_builtin (b := .append) (xs := #[.tmp 23, .tmp 26]) rfl ?_); at_builtin; refine Kd.R_append (Kd.int .i64) (w0 := w) (W := w6) w.heap.size rfl (.tmp 23) (.tmp 26) 84 3 (.int .i64 0) 8 rfl Try.underlying84 info3i rfl (by decide) (by omega) u4 ((d.take i).map (·.num)) x.num [.int .i64 x.num] (fun k => k ≠ g2) (fun _ => False) rfl rfl ?aP (fun _ hk => hk.elim) ?aF HO6.out HB6.out HB6.out.size ?aL ?_; (case aP => exact rfl); (case aF => exact fun k hk => by have := (Kd.R_lt HT6.out) g2 (by simp [Value.ownBlock]); omega); (case aL => rw [HLN.out]; omega); intro v7 w7 hrow hb7 hg7 hat; have HO7 := Aside0.mk hrow; have HB7 := Aside0.mk hb7; have HT7 := Aside0.mk (Kd.R_grown HT6.out hg7 (fun k hk e => (HO6.out.1 k e.symm) hk)); clear hrow hb7 hg7 hat HO6 HB6 HT6 hn1))
      go_roundw
      case rel => exact ⟨i + 1, by go_num, ⟨by omega⟩, ⟨by rw [List.take_succ_eq_append_getElem hid, List.map_append, List.map_cons, List.map_nil, ← nd_at hid, HX.out]; exact HO7.out⟩, HT7, HB7⟩
      case measure => simp [intOf]; omega
    · have hi : i = d.length := by have := HI.out; omega
      go_wp2
      go_ret
      have := HO.out
      rw [hi, List.take_length] at this
      exact ⟨_, rfl, d, HPm.out, HS.out, Kd.R_mono this (fun _ _ => trivial), HB.out⟩
theorem HP.nums (base p : Nat) (ok : Nat → Prop) (items : List NI) (next : Int) (w : World) (H : HP w base p ok items next) (hsm : items.length * 80 ≤ 140737488355328) :
    Calls Try.prog 35 #[.pointer (some ⟨p, 0, none⟩)] w fun e w' => ∃ v d, e = .returned v ∧ d.Perm items ∧ Sorted d ∧ Kd.R (Kd.int .i64) 3 w' w.heap.size (fun _ => True) v (d.map (·.num)) ∧ Below w.heap.size w w' := by
  by_cases hl : items = []
  · subst hl
    refine (nums_none base p ok next w H).mono ?_
    rintro e w' ⟨he, rfl⟩
    exact ⟨_, [], he, .refl _, List.Pairwise.nil, Kd.R_nil _ _ _ _ _, Below.refl _ _⟩
  · obtain ⟨mb, v, l, m, h1, h2, h3⟩ := H
    have hlen : 0 < l.length := by rw [h3.length_eq]; exact List.length_pos_iff.2 hl
    refine (nums_some base p mb v ok l m next w h1 hlen (by rw [h3.length_eq]; exact hsm)).mono ?_
    rintro e w' ⟨v, d, he, hp, hs, hr, hb⟩
    exact ⟨v, d, he, hp.trans h3, hs, hr, hb⟩
end Go.Proofs.Ytceopcfmhidjlaa.PTimerPlays
