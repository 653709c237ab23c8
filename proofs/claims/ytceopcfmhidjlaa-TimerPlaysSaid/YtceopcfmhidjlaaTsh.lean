/- State tells the last name and all that run: those that are due by (when, number), then the others. Conditions: the theorem's own. -/
import Derived.Test.YtceopcfmhidjlaaTny
import Derived.Test.YtceopcfmhidjlaaMr
import Derived.Test.YtceopcfmhidjlaaTnu
import Derived.Deep.RegionLaw
set_option linter.unusedVariables false
set_option linter.unusedSimpArgs false
namespace Go.Proofs.Ytceopcfmhidjlaa.PTimerPlays
open Go.RowKit Go.Proofs.Ytceopcfmhidjlaa.Ef Go.Proofs.Ytceopcfmhidjlaa.Mp Go.Proofs.Ytceopcfmhidjlaa.Hp Go.Proofs.YtceopcfmhidjlaaW.PrintWords Go.Proofs.YtceopcfmhidjlaaW.PrintLast Go.Proofs.YtceopcfmhidjlaaW.PrintMore

theorem once_in {items : List NI} (H : Once items) : ∀ a ∈ items, ∀ b ∈ items, a.num = b.num → a = b := by
  intro a ha b hb e
  obtain ⟨i, hi, rfl⟩ := List.getElem_of_mem ha
  obtain ⟨j, hj, rfl⟩ := List.getElem_of_mem hb
  have h3 : (items.map (·.num))[i]'(by simpa using hi) = (items.map (·.num))[j]'(by simpa using hj) := by rw [List.getElem_map, List.getElem_map]; exact e
  have := (List.getElem_inj H).1 h3
  subst this
  rfl
theorem all_once {S : TS} (hn : (S.all.map (·.f0)).Nodup) {x y : Tm} (hx : x ∈ S.all) (hy : y ∈ S.all) (h : x.f0 = y.f0) : x = y := by
  obtain ⟨i, hi, rfl⟩ := List.getElem_of_mem hx
  obtain ⟨j, hj, rfl⟩ := List.getElem_of_mem hy
  have h3 : (S.all.map (·.f0))[i]'(by simpa using hi) = (S.all.map (·.f0))[j]'(by simpa using hj) := by rw [List.getElem_map, List.getElem_map]; exact h
  have := (List.getElem_inj hn).1 h3
  subst this
  rfl
/-- What has been told of the timers that have come, by their numbers. -/
def Shown (S : TS) (D : Int → Prop) (m : List (Int × Int)) : Prop := ∀ n ∈ S.hp, D n.val.f0 → getI n.num m = some n.val.f0
theorem shown_due {S : TS} {D : Int → Prop} {m : List (Int × Int)} {n : NI} (hn : (S.all.map (·.f0)).Nodup) (ho : ∀ a ∈ S.hp, ∀ b ∈ S.hp, a.num = b.num → a = b) (h : Shown S D m) (hm : n ∈ S.hp) : Shown S (fun k => D k ∨ k = n.val.f0) (insI n.num n.val.f0 m) := by
  intro a ha hd
  by_cases e : a.num = n.num
  · rw [ho a ha n hm e]; exact get_ins_same _ _ _
  · rw [get_ins_other e]
    rcases hd with hd | hd
    · exact h a ha hd
    · have h1 : a.val ∈ S.all := List.mem_append.2 (.inl (List.mem_map.2 ⟨a, ha, rfl⟩))
      have h2 : n.val ∈ S.all := List.mem_append.2 (.inl (List.mem_map.2 ⟨n, hm, rfl⟩))
      have h3 := all_once hn h1 h2 hd
      have h4 : (S.hp.map (·.val.f0)).Nodup := by
        have : S.all.map (·.f0) = S.hp.map (·.val.f0) ++ S.nv.map (·.f0) := by simp [TS.all, Function.comp_def]
        rw [this] at hn
        exact (List.nodup_append.1 hn).1
      obtain ⟨i, hi, rfl⟩ := List.getElem_of_mem ha
      obtain ⟨j, hj, rfl⟩ := List.getElem_of_mem hm
      have h5 : (S.hp.map (·.val.f0))[i]'(by simpa using hi) = (S.hp.map (·.val.f0))[j]'(by simpa using hj) := by rw [List.getElem_map, List.getElem_map]; exact hd
      have := (List.getElem_inj h4).1 h5
      subst this
      exact absurd rfl e
theorem shown_never {S : TS} {D : Int → Prop} {m : List (Int × Int)} {x : Tm} (hn : (S.all.map (·.f0)).Nodup) (h : Shown S D m) (hm : x ∈ S.nv) : Shown S (fun k => D k ∨ k = x.f0) m := by
  intro a ha hd
  rcases hd with hd | hd
  · exact h a ha hd
  · have hs : S.all.map (·.f0) = S.hp.map (·.val.f0) ++ S.nv.map (·.f0) := by simp [TS.all, Function.comp_def]
    rw [hs] at hn
    exact absurd hd ((List.nodup_append.1 hn).2.2 _ (List.mem_map.2 ⟨a, ha, rfl⟩) _ (List.mem_map.2 ⟨x, hm, rfl⟩))
theorem run_lookI {w : World} {b : Nat} {m : List (Int × Int)} (hM : MapOf (Value.int .i64) w b (m.map kv)) {k v : Int} (h : getI k m = some v) : (Instr.lookup 83 (.map (some b)) (.int .i64 k) false).run Try.prog w = .ok (.int .i64 v) w := by
  have := run_look keyI Try.underlying83 (zeroL _) hM k false
  rw [if_neg (by simp), get_kv, h] at this
  exact this
theorem run_lookT {w : World} {b : Nat} {l : List (Int × Value)} (hM : MapOf (Value.int .i64) w b l) {k : Int} {v : Value} (h : get k l = some v) : (Instr.lookup 55 (.map (some b)) (.int .i64 k) false).run Try.prog w = .ok v w := by
  have := run_look keyL Try.underlying55 (zeroT w) hM k false
  rw [if_neg (by simp), h] at this
  exact this
theorem at_rowI {w : World} {e base g n cap : Nat} {ok : Nat → Prop} {xs : List Int} (h : (Kd.int .i64).R e w base ok (.slice (some ⟨g, 0, none⟩) n cap) xs) (i : Nat) (hi : i < n) : w.cell? ⟨g, i, none⟩ = some (.int .i64 ((xs[i]?).getD 0)) := by
  obtain ⟨c, hcl, hM, hc0, _⟩ := Kd.R_elem h (0 : Int) (i : Int) (Int.natCast_nonneg i) (by omega)
  rw [Int.toNat_natCast] at hc0 hM
  have hM' : c = [.int .i64 ((xs[i]?).getD 0)] := hM
  subst hM'
  have hc : ∀ j u, [Value.int .i64 ((xs[i]?).getD 0)][j]? = some u → w.cell? ⟨g, i * 1 + j, none⟩ = some u := hc0
  have := hc 0 _ rfl
  rw [Nat.mul_one, Nat.add_zero] at this
  exact this
set_option maxHeartbeats 8000000 in
set_option maxRecDepth 100000 in
theorem state_calls (base p : Nat) (ok : Nat → Prop) (S : TS) (w : World) (H : TP w base p ok S) :
    Calls Try.prog 21 #[.pointer (some ⟨p, 0, none⟩)] w fun e w' => ∃ v d, e = .returned (.tuple #[.int .i64 S.last, v]) ∧ d.Perm S.hp ∧ Sorted d ∧ kT.R 40 w' w.heap.size (fun k => w.heap.size ≤ k) v (d.map (·.val) ++ S.nv) ∧ Below w.heap.size w w' := by
  obtain ⟨P, vN, ids, own, gs, rfl, rfl, hA, hG⟩ := id H
  have hmm := @run_makeMap Try.prog
  have hu83 := Try.underlying83
  have HI := Aside0.mk (is_calls base P.p P.ok S w H)
  have HA := Aside0.mk hA
  have HG := Aside0.mk hG
  have HN := Aside0.mk hG.ni
  have HO := Aside0.mk (once_in hA.heap.once)
  have p4 : (w.alloc (.map #[] 0)).cell? ⟨P.p, 4, none⟩ = some (.map (some P.bi)) := ((below_alloc (Below.refl _ _) _).cell (p := ⟨P.p, 4, none⟩) (blk_lt hA.blk)).trans ((blk_cell hA.blk 4).trans rfl)
  have e1 : (w.alloc (.map #[] 0)).heap.size = w.heap.size + 1 := Array.size_push _
  have hmi : Aside0 (MapS (Value.int .i64) (w.alloc (.map #[] 0)) P.bi ids) := ⟨hA.mi.below (below_alloc (Below.refl _ _) _)⟩
  have hbi : P.bi < w.heap.size := hA.mi.lt
  have hlast := blk_lt hA.blk
  clear hA hG H
  go_enter Try.func21, Try.ntmps21
  go_wp2_with (first
    | (go_at_call 26; (refine HI.out.mono ?_); rintro e w1 ⟨rfl, rfl⟩)
    | (at_range; refine step_range rfl _ 54 rfl Try.underlying54 rfl hmi.out ?_; rw [e1]; intro w2 hrg hgr hs; have HRg := Aside0.mk hrg; have HGr := Aside0.mk hgr; have HSz := Aside0.mk hs; clear hrg hgr hs)
    | go_in)
  go_frame
  have hle1 : Aside0 (Below w.heap.size w w2 ∧ MapOf (Value.int .i64) w2 w.heap.size (([] : List (Int × Int)).map kv)) := ⟨⟨(below_alloc (Below.refl _ _) _).grown HGr.out (by rw [e1]; omega) (fun j hj => by cases hj), (MapOf.new w).grown HGr.out (by simp)⟩⟩
  clear HGr p4 hmi e1
  go_loopw [5] (fun _ wr => ∃ (D : Int → Prop) (m : List (Int × Int)), Aside0 (Going (Value.int .i64) wr P.bi (w.heap.size + 1) ids D) ∧ Aside0 (MapOf (Value.int .i64) wr w.heap.size (m.map kv)) ∧ Aside0 (Shown S D m) ∧ Aside0 (Below w.heap.size w wr)) (fun _ wr => wr.rangeLeft P.bi (w.heap.size + 1))
  case atStart => exact ⟨_, [], HRg, ⟨hle1.out.2⟩, ⟨fun n _ h => h.elim⟩, ⟨hle1.out.1⟩⟩
  case round =>
    clear hle1 HRg HSz
    obtain ⟨D, m, HR, HM, HS, HB⟩ := hrel
    go_wp2_with (first
      | (at_next; refine step_next rfl _ rfl rfl HR.out ?_ ?_)
      | go_in)
    · intro hall
      have HLk : Aside0 (∀ n ∈ S.hp, getI n.num m = some n.val.f0) := ⟨fun n hn => HS.out n hn (hall _ _ (HG.out.pi.mem_iff.2 (List.mem_append.2 (.inl (List.mem_map.2 ⟨n, hn, rfl⟩)))))⟩
      have HOw : Aside0 (∀ x ∈ S.all, get x.f0 own = some (.agg (cT x))) := ⟨fun x hx => get_mem (own_key HG.out) (HG.out.po.mem_iff.2 (List.mem_map.2 ⟨x, hx, rfl⟩))⟩
      have HAr := Aside0.mk (HA.out.below HB.out)
      have p2 : wr.cell? ⟨P.p, 2, none⟩ = some (.pointer (some ⟨P.q, 0, none⟩)) := (blk_cell HAr.out.blk 2).trans rfl
      have hsm : S.hp.length * 80 ≤ 140737488355328 := by have := HG.out.len; simp [TS.all] at this; omega
      have HLe : Aside0 (S.hp.length + S.nv.length ≤ 1024) := ⟨by have := HG.out.len; simpa [TS.all] using this⟩
      clear hall HS HR
      go_wp2_with (go_at_call 35; (refine (HP.nums base P.q P.H S.hp S.next _ HAr.out.heap hsm).mono ?_); rintro e w4 ⟨v, d, rfl, hp, hs, hr, hb⟩; obtain ⟨A, c, rfl⟩ := Kd.R_slice hr; rw [List.length_map] at hr ⊢; have HA4 := Aside0.mk (HAr.out.below hb); have HM4 := Aside0.mk (HM.out.below hb); have HB4 := Aside0.mk (below_step HB.out hb); have HRn := Aside0.mk hr; have HPm := Aside0.mk hp; have HSo := Aside0.mk hs; clear hp hs hr hb HAr HM HB p2)
      go_loopw [7, 37] (fun v7 v37 wr => ∃ i : Nat, v37 = .int .i64 (i : Int) ∧ Aside0 (i ≤ d.length) ∧ Aside0 (kT.R 40 wr w4.heap.size (fun k => w4.heap.size ≤ k) v7 ((d.take i).map (·.val))) ∧ Aside0 (Below w4.heap.size w4 wr)) (fun _ v37 _ => d.length - (intOf v37).toNat)
      case atStart => exact ⟨0, rfl, ⟨Nat.zero_le _⟩, ⟨Kd.R_nil _ _ _ _ _⟩, ⟨Below.refl _ _⟩⟩
      case round =>
        obtain ⟨i, rfl, HI, HO7, HB7⟩ := hrel
        by_cases hlt : (i : Int) < (d.length : Int)
        · have hid : i < d.length := by omega
          have hi0 : (0 : Int) ≤ (i : Int) := by omega
          obtain ⟨n, hne⟩ : ∃ n, d[i] = n := ⟨_, rfl⟩
          have hnh : n ∈ S.hp := HPm.out.mem_iff.1 (hne ▸ List.getElem_mem hid)
          obtain ⟨A7, c7, rfl⟩ := Kd.R_slice HO7.out
          obtain ⟨L7, hL7⟩ : ∃ L, (d.take i).map (·.val) = L := ⟨_, rfl⟩
          have hL8 : (d.take (i + 1)).map (·.val) = L7 ++ [n.val] := by rw [List.take_succ_eq_append_getElem hid, List.map_append, hL7, hne]; rfl
          have hl7 : (L7.length + 1) * 64 ≤ 140737488355328 := by have h1 := HPm.out.length_eq; have h2 := HLe.out; rw [← hL7]; simp; omega
          have HL8 := Aside0.mk hL8
          have HL7' := Aside0.mk hl7
          rw [hL7] at HO7 ⊢
          clear hL7 hL8 hl7
          have HR7 := Kd.R_below HRn.out HB7.out
          obtain ⟨g, cap, heq, -, -, -⟩ := Kd.R_form HR7 (by simpa using Nat.lt_of_le_of_lt (Nat.zero_le _) hid)
          simp only [Value.slice.injEq] at heq
          obtain ⟨rfl, -, rfl⟩ := heq
          have n0 : wr.cell? ⟨g, i, none⟩ = some (.int .i64 n.num) := by
            have := at_rowI HR7 i (by simpa using hid)
            rw [List.getElem?_map, List.getElem?_eq_getElem hid, hne] at this
            exact this
          have HA7 := HA4.out.below HB7.out
          have p5 : wr.cell? ⟨P.p, 5, none⟩ = some (.map (some P.bo)) := (blk_cell HA7.blk 5).trans rfl
          have l1 := run_lookI (HM4.out.below HB7.out) (HLk.out n hnh)
          have l1d := run_lookI (HM4.out.below HB7.out).drew (HLk.out n hnh)
          have l2 := run_lookT HA7.mo.of (HOw.out n.val (List.mem_append.2 (.inl (List.mem_map.2 ⟨n, hnh, rfl⟩))))
          have l2d := run_lookT HA7.mo.of.drew (HOw.out n.val (List.mem_append.2 (.inl (List.mem_map.2 ⟨n, hnh, rfl⟩))))
          have HId := Aside0.mk hid
          clear HR7 hnh HA7 hne
          go_wp2
          go_region_law ((refine Kd.R_append_step kT (w0 := w4) (W := wr.drew) w4.heap.size ?q0 (.tmp 41) (.tmp 50) 37 40 (.agg #[.int .i64 0, .int .i64 0, .int .i64 0, .int .i64 0, .int .i64 0, .int .u64 0, .bool false, .int .u64 0]) 64 ?q3 Try.underlying37 infoT rfl (by decide) (by omega) (.slice A7 L7.length c7) L7 n.val (List.toArray [.int .i64 n.val.f0, .int .i64 n.val.f1, .int .i64 n.val.f2.f0, .int .i64 n.val.f2.f1, .int .i64 n.val.f3, .int .u64 n.val.f4, .bool n.val.f5, .int .u64 n.val.f6]).toList (fun k => w4.heap.size ≤ k) (fun _ => False) ?q1 ?q2 (k40_mkM _ _ _ _) (fun _ h => h.elim) ?aF ?aO ?aB ?aS HL7'.out ?_); (case q0 => rfl); (case q1 => rfl); (case q2 => rfl); (case q3 => rfl); (case aF => exact fun k hk => Nat.le_trans HB7.out.size hk); (case aO => exact Kd.R_below HO7.out (below_drew (Below.refl _ _))); (case aB => exact below_drew HB7.out); (case aS => exact HB7.out.size); intro v1 w5 hrow hb5 hg5 hat)
          all_goals
            have HO8 := Aside0.mk hrow
            have HB8 := Aside0.mk hb5
            clear hrow hb5 hg5 hat p5 l1 l1d l2 l2d n0
            go_wp2
            have hid9 := HId.out
            have hd9 : d.length ≤ 1024 := by have h1 := HPm.out.length_eq; have h2 := HLe.out; omega
            have hwr : wrap64 ((i : Int) + 1) = ((i + 1 : Nat) : Int) := by unfold wrap64; omega
            go_roundw
            case rel => exact ⟨i + 1, by rw [hwr], ⟨HId.out⟩, ⟨by rw [HL8.out]; exact HO8.out⟩, HB8⟩
            case measure => rw [hwr]; exact show d.length - ((i + 1 : Nat) : Int).toNat < d.length - ((i : Nat) : Int).toNat by rw [Int.toNat_natCast, Int.toNat_natCast]; omega
        · have hi : i = d.length := by have := HI.out; omega
          obtain ⟨A7, c7, rfl⟩ := Kd.R_slice HO7.out
          rw [hi, List.take_length] at HO7 ⊢
          obtain ⟨L7, hL7⟩ : ∃ L, d.map (·.val) = L := ⟨_, rfl⟩
          have hl7 : (L7.length + S.nv.length) * 64 ≤ 140737488355328 := by have h1 := HPm.out.length_eq; have h2 := HLe.out; rw [← hL7]; simp; omega
          have HL7 := Aside0.mk hL7
          have HL8 := Aside0.mk hl7
          rw [hL7] at HO7 ⊢
          have HA7 := Aside0.mk (HA4.out.below HB7.out)
          obtain ⟨An, cn, rfl⟩ := Kd.R_slice HA7.out.row
          have p1 : wr.cell? ⟨P.p, 1, none⟩ = some (.int .i64 S.last) := (blk_cell HA7.out.blk 1).trans rfl
          have p3 : wr.cell? ⟨P.p, 3, none⟩ = some (.slice An S.nv.length cn) := (blk_cell HA7.out.blk 3).trans rfl
          have HB8 := Aside0.mk (below_step HB4.out HB7.out)
          clear hL7 hl7 hi hlt
          go_wp2
          go_region_law ((refine Kd.R_append_rows_step kT (w0 := w) (W := wr.drew) w.heap.size ?q0 (.tmp 57) (.tmp 61) 37 40 (.agg #[.int .i64 0, .int .i64 0, .int .i64 0, .int .i64 0, .int .i64 0, .int .u64 0, .bool false, .int .u64 0]) 64 ?q3 Try.underlying37 infoT rfl (by decide) (by omega) (.slice A7 L7.length c7) L7 S.nv An S.nv.length cn (fun k => w.heap.size ≤ k) (fun _ => False) ?q1 ?q2 ?aO ?aR (fun _ _ h => h) (fun _ h => h.elim) ?aF ?aB ?aS HL8.out ?_); (case q0 => rfl); (case q1 => rfl); (case q2 => rfl); (case q3 => rfl); (case aF => exact fun k hk => Nat.le_trans HB8.out.size hk); (case aO => exact Kd.R_lower (Kd.R_mono (Kd.R_below HO7.out (below_drew (Below.refl _ _))) (fun k hk => Nat.le_trans HB4.out.size hk)) HB4.out.size); (case aR => exact (Kd.R_reads' HA7.out.drew.row).2.2); (case aB => exact below_drew HB8.out); (case aS => exact HB8.out.size); intro v1 w5 hrow hb5 hg5 hat; have p15 : w5.cell? ⟨P.p, 1, none⟩ = some (.int .i64 S.last) := (hb5.cell (p := ⟨P.p, 1, none⟩) hlast).trans ((blk_cell HA.out.blk 1).trans rfl))
          all_goals
            have HO8 := Aside0.mk hrow
            have HB9 := Aside0.mk hb5
            clear hrow hb5 hg5 hat p1 p3 p15
            go_wp2
            go_ret2
            exact ⟨v1, d, rfl, HPm.out, HSo.out, by rw [HL7.out]; exact HO8.out, HB9.out⟩
    · intro q1 q2 w3 hq hrg hlt hgr hs hen
      have HR3 := Aside0.mk hrg
      have HB3 := Aside0.mk (below_mput HB.out hgr (Nat.le_succ _) HB.out.size)
      have HM3 := Aside0.mk (HM.out.grown hgr (fun e => by have := Option.some.inj e; omega))
      have HL3 := Aside0.mk hlt
      have hq0 := HG.out.pi.mem_iff.1 hq
      clear hrg hgr hs hlt hq HM HB
      rcases List.mem_append.1 hq0 with hq3 | hq3
      · obtain ⟨n, hn, hqe⟩ := List.mem_map.1 hq3
        obtain ⟨rfl, rfl⟩ := Prod.mk.inj hqe
        have HS3 := Aside0.mk (shown_due HN.out HO.out HS.out hn)
        clear hq0 hq3 hn HS
        clear hqe
        go_wp2_with (first
          | ((with_reducible refine gate_dst (N := 6) rfl ?_); refine box_event ?hg (N := 6) ?hd (cs := #[.int .i64 0, .bool false]) (t := 73) ?hr ?_; (case hd => rfl); (case hg => rfl); (case hr => first | (go_simp; done) | (go_simp; rfl)); intro g4 hg4 w4 hbox hb; have HR4 := Aside0.mk (HR3.out.below hb); have HM4 := Aside0.mk (HM3.out.below hb); have HB4 := Aside0.mk (below_step HB3.out hb); have HL4 := Aside0.mk (Nat.lt_of_le_of_lt (Nat.le_of_eq (left_kept HR3.out hb)) HL3.out); have B4 := Aside0.mk hbox; have G4 := Aside0.mk (show g4 ≠ P.bi ∧ g4 ≠ w.heap.size + 1 ∧ g4 ≠ w.heap.size ∧ w.heap.size ≤ g4 from by have := HR3.out.lt; omega); clear hb hbox hg4 hen HR3 HM3 HB3 HL3)
          | ((with_reducible refine gate_store (t := 73) (p := 6) (v := .tmp 23) rfl ?_); refine step_store rfl rfl rfl B4.out rfl (u := .agg #[.int .i64 n.num, .bool false]) (seg := [.int .i64 n.num, .bool false]) rfl rfl (by kernel_rfl) (by simp [Value.oneCell']) (Nat.le_refl 2) (cur' := #[.int .i64 n.num, .bool false]) rfl ?_; intro w5 hb5 hg5 hs5; have HR5 := Aside0.mk (HR4.out.grown hg5 (fun e => G4.out.1 (Option.some.inj e).symm) (fun e => G4.out.2.1 (Option.some.inj e).symm)); have HM5 := Aside0.mk (HM4.out.grown hg5 (fun e => G4.out.2.2.1 (Option.some.inj e).symm)); have HB5 := Aside0.mk (below_mput HB4.out hg5 G4.out.2.2.2 HB4.out.size); have HL5 := Aside0.mk (Nat.lt_of_le_of_lt (Nat.le_of_eq (left_grown HR4.out hg5 (fun e => G4.out.1 (Option.some.inj e).symm) (fun e => G4.out.2.1 (Option.some.inj e).symm))) HL4.out); have c0 : w5.cell? ⟨g4, 0, none⟩ = some (.int .i64 n.num) := (blk_cell hb5 0).trans rfl; have c1 : w5.cell? ⟨g4, 1, none⟩ = some (.bool false) := (blk_cell hb5 1).trans rfl; clear hb5 hg5 hs5 HR4 HM4 HB4 HL4 B4)
          | ((with_reducible refine gate_put (T := 83) (x := .tmp 27) (y := .tmp 29) (u := .tmp 30) rfl ?_); refine step_put keyI Try.underlying83 rfl rfl HM5.out n.num (.int .i64 n.val.f0) rfl rfl rfl ?_; intro w6 hm hg hs; have HR6 := Aside0.mk (HR5.out.grown hg (fun e => by have := Option.some.inj e; omega) (fun e => by have := Option.some.inj e; omega)); have HB6 := Aside0.mk (below_mput HB5.out hg (Nat.le_refl _) HB5.out.size); have HL6 := Aside0.mk (Nat.lt_of_le_of_lt (Nat.le_of_eq (left_grown HR5.out hg (fun e => by have := Option.some.inj e; omega) (fun e => by have := Option.some.inj e; omega))) HL5.out); rw [ins_kv] at hm; have HM6 := Aside0.mk hm; clear hm hg hs c0 c1 HR5 HM5 HB5 HL5))
        go_frame
        go_roundw
        case rel => exact ⟨_, _, HR6, HM6, HS3, HB6⟩
        case measure => exact HL6.out
      · obtain ⟨x, hx, hqe⟩ := List.mem_map.1 hq3
        obtain ⟨rfl, rfl⟩ := Prod.mk.inj hqe
        have HS3 := Aside0.mk (shown_never HN.out HS.out hx)
        clear hq0 hq3 hx HS hqe
        go_wp2_with (first
          | ((with_reducible refine gate_dst (N := 6) rfl ?_); refine box_event ?hg (N := 6) ?hd (cs := #[.int .i64 0, .bool false]) (t := 73) ?hr ?_; (case hd => rfl); (case hg => rfl); (case hr => first | (go_simp; done) | (go_simp; rfl)); intro g4 hg4 w4 hbox hb; have HR4 := Aside0.mk (HR3.out.below hb); have HM4 := Aside0.mk (HM3.out.below hb); have HB4 := Aside0.mk (below_step HB3.out hb); have HL4 := Aside0.mk (Nat.lt_of_le_of_lt (Nat.le_of_eq (left_kept HR3.out hb)) HL3.out); have B4 := Aside0.mk hbox; have G4 := Aside0.mk (show g4 ≠ P.bi ∧ g4 ≠ w.heap.size + 1 ∧ g4 ≠ w.heap.size ∧ w.heap.size ≤ g4 from by have := HR3.out.lt; omega); clear hb hbox hg4 hen HR3 HM3 HB3 HL3)
          | ((with_reducible refine gate_store (t := 73) (p := 6) (v := .tmp 23) rfl ?_); refine step_store rfl rfl rfl B4.out rfl (u := .agg #[.int .i64 0, .bool true]) (seg := [.int .i64 0, .bool true]) rfl rfl (by kernel_rfl) (by simp [Value.oneCell']) (Nat.le_refl 2) (cur' := #[.int .i64 0, .bool true]) rfl ?_; intro w5 hb5 hg5 hs5; have HR5 := Aside0.mk (HR4.out.grown hg5 (fun e => G4.out.1 (Option.some.inj e).symm) (fun e => G4.out.2.1 (Option.some.inj e).symm)); have HM5 := Aside0.mk (HM4.out.grown hg5 (fun e => G4.out.2.2.1 (Option.some.inj e).symm)); have HB5 := Aside0.mk (below_mput HB4.out hg5 G4.out.2.2.2 HB4.out.size); have HL5 := Aside0.mk (Nat.lt_of_le_of_lt (Nat.le_of_eq (left_grown HR4.out hg5 (fun e => G4.out.1 (Option.some.inj e).symm) (fun e => G4.out.2.1 (Option.some.inj e).symm))) HL4.out); have c0 : w5.cell? ⟨g4, 0, none⟩ = some (.int .i64 0) := (blk_cell hb5 0).trans rfl; have c1 : w5.cell? ⟨g4, 1, none⟩ = some (.bool true) := (blk_cell hb5 1).trans rfl; clear hb5 hg5 hs5 HR4 HM4 HB4 HL4 B4))
        go_roundw
        case rel => exact ⟨_, _, HR5, HM5, HS3, HB5⟩
        case measure => exact HL5.out
end Go.Proofs.Ytceopcfmhidjlaa.PTimerPlays
