/- rotalaw05.HeapSorts: whatever was pushed and dropped, Pop tells by rising (when, number), each pushed one that was not dropped, once. Conditions: at most 1048576 numbers come in. -/
import Derived.Test.YtedkacknopcceaaHlv
set_option linter.unusedVariables false
set_option linter.unusedSimpArgs false
namespace Go.Proofs.Ytedkacknopcceaa.QHeap
open Go.RowKit Go.Proofs.Ytedkacknopcceaa.Ef Go.Proofs.Ytedkacknopcceaa.Mp Go.Proofs.Ytedkacknopcceaa.Hp Go.Proofs.YtedkacknopcceaaW.PrintWords Go.Proofs.YtedkacknopcceaaW.PrintLast Go.Proofs.YtedkacknopcceaaW.PrintMore

def nodeAt (ws : List Int) (j : Nat) : NI := ⟨rd ws (j : Int), (j : Int), (j : Int)⟩
def initial (ws : List Int) (i : Nat) : List NI := (List.range i).map (nodeAt ws)
theorem initial_succ (ws : List Int) (i : Nat) : initial ws (i + 1) = initial ws i ++ [nodeAt ws i] := by simp [initial, List.range_succ]
theorem initial_num (ws : List Int) (i : Nat) : ∀ x ∈ initial ws i, x.num ≠ (i : Int) := by
  intro x hx e
  obtain ⟨j, hj, rfl⟩ := List.mem_map.1 hx
  have := List.mem_range.1 hj
  have e' : (j : Int) = (i : Int) := e
  omega
theorem initial_len (ws : List Int) (i : Nat) : (initial ws i).length = i := by simp [initial]
/-- What is there is what isn't gone. -/
structure Acc (ws : List Int) (g : List Bool) (items : List NI) : Prop where
  len : g.length = ws.length
  sub : ∀ x ∈ items, ∃ j : Nat, j < ws.length ∧ rdOf false g (j : Int) = false ∧ x = nodeAt ws j
  sup : ∀ j : Nat, j < ws.length → rdOf false g (j : Int) = false → nodeAt ws j ∈ items
theorem acc_start (ws : List Int) : Acc ws (List.replicate ws.length false) (initial ws ws.length) where
  len := by simp
  sub := fun x hx => by
    obtain ⟨j, hj, rfl⟩ := List.mem_map.1 hx
    have := List.mem_range.1 hj
    exact ⟨j, this, by simp [rdOf, this], rfl⟩
  sup := fun j hj _ => List.mem_map.2 ⟨j, List.mem_range.2 hj, rfl⟩
theorem rdOf_set {g : List Bool} {j k : Nat} : rdOf false (g.set j true) (k : Int) = if j = k ∧ j < g.length then true else rdOf false g (k : Int) := by
  simp only [rdOf, Int.toNat_natCast, List.getD_eq_getElem?_getD, List.getElem?_set]
  by_cases e : j = k
  · subst e
    by_cases h : j < g.length
    · simp [h]
    · simp [h]
  · simp [e]
theorem acc_drop {ws : List Int} {g : List Bool} {items rest : List NI} {j : Nat} (h : Acc ws g items) (hO : Once items) (hj : j < ws.length) (hp : items.Perm (nodeAt ws j :: rest)) : Acc ws (g.set j true) rest := by
  have hO2 : Once (nodeAt ws j :: rest) := once_perm hp.symm hO
  have hne : ∀ y ∈ rest, y.num ≠ (j : Int) := by
    intro y hy e
    unfold Once at hO2
    rw [List.map_cons, List.nodup_cons] at hO2
    exact hO2.1 (List.mem_map.2 ⟨y, hy, e⟩)
  refine ⟨by rw [List.length_set]; exact h.len, fun x hx => ?_, fun k hk hg => ?_⟩
  · obtain ⟨k, hk, hg, rfl⟩ := h.sub x (hp.mem_iff.2 (List.mem_cons_of_mem _ hx))
    have hkj : j ≠ k := fun e => hne _ hx (by rw [e]; rfl)
    exact ⟨k, hk, by rw [rdOf_set, if_neg (fun q => hkj q.1)]; exact hg, rfl⟩
  · rw [rdOf_set] at hg
    by_cases e : j = k ∧ j < g.length
    · rw [if_pos e] at hg; cases hg
    · rw [if_neg e] at hg
      have hkj : j ≠ k := fun q => e ⟨q, by rw [h.len]; exact hj⟩
      have := hp.mem_iff.1 (h.sup k hk hg)
      rcases List.mem_cons.1 this with q | q
      · have : (k : Int) = (j : Int) := congrArg Nd.num q
        omega
      · exact q
theorem split_mem {items : List NI} {x : NI} (h : x ∈ items) : ∃ rest, items.Perm (x :: rest) ∧ items.length = rest.length + 1 := by
  obtain ⟨s, t, rfl⟩ := List.append_of_mem h
  exact ⟨s ++ t, List.perm_middle, by simp; omega⟩
theorem HP.least {w : World} {base p : Nat} {ok : Nat → Prop} {items : List NI} {next : Int} (h : HP w base p ok items next) (hl : 0 < items.length) : ∃ x, Least items x := by
  obtain ⟨mb, v, l, m, h1, h2, h3⟩ := h
  have hl' : 0 < l.length := by rw [h3.length_eq]; exact hl
  exact ⟨nd l 0, h3.mem_iff.1 (nd_mem hl'), fun y hy => top_spec h2 y (h3.mem_iff.2 hy)⟩
theorem info4 : (Try.prog.info? 4).map (fun i => (i.zero, i.size, i.bytes)) = some (some (.bool false), 1, 1) := by kernel_rfl
/-- A row that came in, read now. -/
theorem C_now {α : Type} {d : Kd α} {w W : World} {A : Option Addr} {n : Nat} {xs : List α} (h : d.C w A n xs) (hb : Below w.heap.size w W) : d.C W A n xs := Kd.C_below h hb

set_option maxHeartbeats 8000000 in
set_option maxRecDepth 200000 in
theorem sorts_calls (A0 : Option Addr) (c0 : Nat) (l0 : List Int) (A1 : Option Addr) (c1 : Nat) (l1 : List Int) (w : World) (hr0 : Kd.C (Kd.int .u64) w A0 l0.length l0) (hr1 : Kd.C (Kd.int .i64) w A1 l1.length l1) (hs0 : l0.length ≤ 1048576) (hs1 : l1.length ≤ 1048576) :
    Calls Try.prog 3 #[.slice A0 l0.length c0, .slice A1 l1.length c1] w fun e w' => e = .returned (.bool true) ∧ Below w.heap.size w w' := by
  have HR0 := Aside0.mk hr0
  have HR1 := Aside0.mk hr1
  have hb0 : (l0.length : Int) ≤ 1048576 := by omega
  have hb1 : (l1.length : Int) ≤ 1048576 := by omega
  have infoI : (Try.prog.info? 34).map (·.size) = some ([Value.int .i64 0, Value.int .i64 0, Value.int .i64 0].length) := by kernel_rfl
  clear hr0 hr1
  go_enter Try.func3, Try.ntmps3
  go_wp2_with (first
    | (go_at_call 7; (refine (HP.new _).mono ?_); rintro e w1 ⟨p, rfl, hA, hb⟩; have HA1 := Aside0.mk hA; have HB1 := Aside0.mk hb; clear hA hb)
    | (go_at_call 8; (refine (lives_calls _).mono ?_); rintro e w2 ⟨rfl, hb⟩; have HA2 := Aside0.mk (HA1.out.below hb); have HB2 := Aside0.mk (below_step HB1.out hb); clear hb HA1 HB1))
  go_loopw [6] (fun v6 wr => ∃ (i : Nat) (ok : Nat → Prop), v6 = .int .i64 (i : Int) ∧ Aside0 (i ≤ l0.length) ∧ Aside0 (HP wr w.heap.size p ok (initial l0 i) (i : Int)) ∧ Aside0 (Below w.heap.size w wr)) (fun v6 _ => l0.length - (intOf v6).toNat)
  case atStart => exact ⟨0, _, rfl, ⟨Nat.zero_le _⟩, HA2, HB2⟩
  case round =>
    clear HA2 HB2
    obtain ⟨i, ok, rfl, HI, HA, HB⟩ := hrel
    by_cases hlt : (i : Int) < (l0.length : Int)
    · obtain ⟨ad, rfl, hx⟩ := Kd.at_int HR0.out (i : Int) (by omega) hlt
      replace hx := (HB.out.cell (World.block_lt_of_cell? w _ hx)).trans hx
      rw [Int.toNat_natCast] at hx
      go_wp2_with (first
        | (go_at_call 9; (refine (HP.push w.heap.size p ok (initial l0 i) (i : Int) _ _ _ HA.out (initial_num l0 i) (by rw [initial_len]; omega) (by omega) (by omega)).mono ?_); rintro e w3 ⟨ok', rfl, hA, ho, hF⟩; have HA3 := Aside0.mk hA; have HB3 := Aside0.mk (hF.new HB.out (fun k q => (HA.out.bound k q).1)); clear hA ho hF hx HA HB))
      go_roundw
      case rel => exact ⟨i + 1, ok', by go_num, ⟨by omega⟩, ⟨by rw [initial_succ]; exact HA3.out⟩, HB3⟩
      case measure => simp [intOf]; omega
    · have hi : i = l0.length := by have := HI.out; omega
      subst hi
      go_wp2_with ((with_reducible refine gate_dst (N := 48) rfl ?_); refine Kd.R_make Kd.bool (w0 := w) w.heap.size 4 rfl rfl 29 (.tmp 47) (.tmp 47) rfl (l0.length : Int) rfl rfl Try.underlying29 (.bool false) 1 info4 rfl (by decide) (by decide) false (ok := fun k => ¬ ok k) (okp := fun _ => False) ?mZ (fun _ h => h.elim) ?mF (by omega) (by simp; omega) HB.out HB.out.size ?_; (case mZ => rfl); (case mF => exact fun q => Nat.lt_irrefl _ (HA.out.bound _ q).2); intro v7 w4 hrow hb4 hg4 hat; have HA4 := Aside0.mk (HA.out.below ⟨hg4.os, hg4.tape, hg4.output, hg4.size, fun k hk => hg4.block k hk (by simp)⟩); have HB4 := Aside0.mk hb4; have HG4 := Aside0.mk hrow; clear hrow hb4 hg4 hat HA HB)
      go_loopw [8, 9] (fun v8 v9 wr => ∃ (i : Nat) (g : List Bool) (items : List NI) (ok : Nat → Prop), v8 = .int .i64 (items.length : Int) ∧ v9 = .int .i64 (i : Int) ∧ Aside0 (i ≤ l1.length ∧ items.length ≤ l0.length) ∧ Aside0 (Acc l0 g items) ∧ Aside0 (HP wr w.heap.size p ok items (l0.length : Int)) ∧ Aside0 (Kd.bool.R 4 wr w.heap.size (fun k => ¬ ok k) v7 g) ∧ Aside0 (Below w.heap.size w wr)) (fun _ v9 _ => l1.length - (intOf v9).toNat)
      case atStart => exact ⟨0, List.replicate l0.length false, initial l0 l0.length, ok, by rw [initial_len], rfl, ⟨Nat.zero_le _, by rw [initial_len]; exact Nat.le_refl _⟩, ⟨acc_start l0⟩, HA4, HG4, HB4⟩
      case round =>
        clear HA4 HB4 HG4
        obtain ⟨i, g, items, ok, rfl, rfl, HI, HC, HA, HG, HB⟩ := hrel
        by_cases hlt : (i : Int) < (l1.length : Int)
        · obtain ⟨ad1, rfl, hx⟩ := Kd.at_int HR1.out (i : Int) (by omega) hlt
          rw [Int.toNat_natCast] at hx
          have HXL := Aside0.mk (World.block_lt_of_cell? w _ hx)
          have HX0 := Aside0.mk hx
          replace hx := (HB.out.cell HXL.out).trans hx
          obtain ⟨d, hd⟩ : ∃ d, rd l1 (i : Int) = d := ⟨_, rfl⟩
          have HD := Aside0.mk hd
          have HX := Aside0.mk (HX0.out.trans (by rw [hd]))
          rw [hd] at hx
          clear hd HX0
          by_cases hin : (0 ≤ d ∧ d < (l0.length : Int)) ∧ rdOf false g d = false
          · obtain ⟨⟨d0, d1⟩, hg⟩ := hin
            obtain ⟨j, rfl⟩ : ∃ j : Nat, d = (j : Int) := ⟨d.toNat, by omega⟩
            obtain ⟨rest, hp, hlen⟩ := split_mem (HC.out.sup j (by omega) hg)
            have HP0 := Aside0.mk hp
            have hlen' : (items.length : Int) = (rest.length : Int) + 1 := by omega
            have HLEN := Aside0.mk hlen'
            have hq1 : (1 : Int) ≤ (items.length : Int) := by omega
            have hq2 : (items.length : Int) ≤ 1048576 := by have := HI.out; omega
            obtain ⟨ad0, rfl, hy⟩ := Kd.at_int HR0.out (j : Int) d0 d1
            rw [Int.toNat_natCast] at hy
            have HY := Aside0.mk hy
            have HGJ := Aside0.mk hg
            obtain ⟨gg, cap, rfl, hbg, hgl, cells0, hg0⟩ := Kd.R_form HG.out (by rw [HC.out.len]; omega)
            have hgll : (j : Int) < (g.length : Int) := by rw [HC.out.len]; omega
            have HRI := Aside0.mk hlen
            clear hp hlen hlen' hy hg hg0 hbg hgl
            go_wp2_with (first
              | (go_at_call 10; (refine (HP.drop w.heap.size p ok items rest (l0.length : Int) (nodeAt l0 j) _ HA.out HP0.out (by have := HI.out; omega)).mono ?_); rintro e w5 ⟨he, hA, hF⟩; (replace he : e = .returned (.tuple #[.int .u64 (rd l0 (j : Int)), .int .i64 (j : Int), .int .i64 0]) := he); subst he; have HA5 := Aside0.mk hA; have HB5 := Aside0.mk (hF.new HB.out (fun k q => (HA.out.bound k q).1)); have HG5 := Aside0.mk (Kd.R_kept HG.out hF.k (fun k hk q => hk q)); clear hA hF hx; have hx := (HB5.out.cell HXL.out).trans HX.out; have hy := (HB5.out.cell (World.block_lt_of_cell? w _ HY.out)).trans HY.out; obtain ⟨hz, hzf⟩ := Kd.R_celln false HG5.out (j : Int) (by omega) hgll; rw [HGJ.out, Int.toNat_natCast] at hz; rw [Int.toNat_natCast] at hzf))
            obtain ⟨hrow, hgw⟩ := Kd.R_putg HG5.out (j : Int) true
            rw [Int.toNat_natCast] at hrow hgw
            have hngg := HG5.out.1 gg (by simp [Value.ownBlock])
            go_roundw
            case rel =>
              refine ⟨i + 1, g.set j true, rest, ok, by have := HLEN.out; rw [this]; go_num, by go_num, ⟨by omega, by have := HI.out; have := HLEN.out; omega⟩, ⟨acc_drop HC.out HA.out.once (by omega) HP0.out⟩, ⟨?_⟩, ⟨hrow⟩, ⟨below_mput HB5.out hgw (by have := (Kd.R_base HG5.out) gg (by simp [Value.ownBlock]); exact this) HB5.out.size⟩⟩
              exact HA5.out.kept (S := fun k => k = gg) ⟨hgw.size, fun k hk hn => hgw.block k hk (fun e => hn (by cases e; rfl))⟩ (fun k hk e => hngg (e ▸ hk))
            case measure => simp [intOf]; omega
          · have hno : ∀ x ∈ items, x.num ≠ d := by
              intro x hx e
              obtain ⟨j, hj, hg, rfl⟩ := HC.out.sub x hx
              have e' : (j : Int) = d := e
              subst e'
              exact hin ⟨⟨by omega, by omega⟩, hg⟩
            have HNO := Aside0.mk hno
            clear hno
            by_cases d0 : 0 ≤ d
            · by_cases d1 : d < (l0.length : Int)
              · have hg : rdOf false g d = true := by
                  cases hh : rdOf false g d with
                  | true => rfl
                  | false => exact absurd ⟨⟨d0, d1⟩, hh⟩ hin
                have HGJ := Aside0.mk hg
                obtain ⟨gg, cap, rfl, hbg, hgl, cells0, hg0⟩ := Kd.R_form HG.out (by rw [HC.out.len]; omega)
                have hgll : d < (g.length : Int) := by rw [HC.out.len]; omega
                obtain ⟨hz, hzf⟩ := Kd.R_celln false HG.out d d0 hgll
                rw [hg] at hz
                clear hg hg0 hbg hgl hin hzf
                go_wp2_with (first
                  | (go_at_call 10; (refine (HP.drop_none w.heap.size p ok items (l0.length : Int) d _ HA.out HNO.out).mono ?_); rintro e w5 ⟨rfl, rfl⟩))
                go_roundw
                case rel => exact ⟨i + 1, g, items, ok, rfl, by go_num, ⟨by omega, HI.out.2⟩, HC, HA, HG, HB⟩
                case measure => simp [intOf]; omega
              · clear hin
                go_wp2_with (first
                  | (go_at_call 10; (refine (HP.drop_none w.heap.size p ok items (l0.length : Int) d _ HA.out HNO.out).mono ?_); rintro e w5 ⟨rfl, rfl⟩))
                go_roundw
                case rel => exact ⟨i + 1, g, items, ok, rfl, by go_num, ⟨by omega, HI.out.2⟩, HC, HA, HG, HB⟩
                case measure => simp [intOf]; omega
            · clear hin
              go_wp2_with (first
                | (go_at_call 10; (refine (HP.drop_none w.heap.size p ok items (l0.length : Int) d _ HA.out HNO.out).mono ?_); rintro e w5 ⟨rfl, rfl⟩))
              go_roundw
              case rel => exact ⟨i + 1, g, items, ok, rfl, by go_num, ⟨by omega, HI.out.2⟩, HC, HA, HG, HB⟩
              case measure => simp [intOf]; omega
        · go_wp2_with (first
            | ((with_reducible refine gate_dst (N := 14) rfl ?_); refine box_event ?hg (N := 14) ?hd (cs := #[.int .u64 0, .int .i64 0, .int .i64 0]) (t := 34) ?hr ?_; (case hd => rfl); (case hg => rfl); (case hr => first | (go_simp; done) | (go_simp; rfl)); intro bl hbl w5 hbox hb; have HA5 := Aside0.mk (HA.out.below hb); have HB5 := Aside0.mk (below_step HB.out hb); have HG5 := Aside0.mk (Kd.R_below (Kd.R_mono (Kd.R_bound HG.out) (ok' := fun k => ¬ ok k ∧ k ≠ bl) (fun k hk => ⟨hk.1, by have := hk.2.2.1; omega⟩)) hb); have HN := Aside0.mk (show wr.heap.size ≤ bl by omega); have HBL := Aside0.mk (show w.heap.size ≤ bl from Nat.le_trans HB.out.size HN.out); have HNB := Aside0.mk (show ¬ ok bl from fun q => by have := (HA.out.bound _ q).2; omega); have BK1 := Aside0.mk hbox; clear hb hbox hbl)
            | ((with_reducible refine gate_store (t := 34) (p := 14) (v := .tmp 126) rfl ?_); refine step_store rfl rfl rfl BK1.out rfl (u := .agg #[.int .u64 0, .int .i64 0, .int .i64 0]) (seg := [.int .u64 0, .int .i64 0, .int .i64 0]) rfl rfl (by kernel_rfl) (by simp [Value.oneCell']) (Nat.le_refl 3) (cur' := #[.int .u64 0, .int .i64 0, .int .i64 0]) rfl ?_; intro w6 hb6 hg6 hs6; have BK6 := Aside0.mk hb6; have HA6 := Aside0.mk (HA5.out.kept (S := fun k => k = bl) ⟨hg6.size, fun k hk hn => hg6.block k hk (fun e => hn (by cases e; rfl))⟩ (fun k hk e => by have := (HA.out.bound k hk).2; have := HN.out; omega)); have HB6 := Aside0.mk (below_mput HB5.out hg6 (Nat.le_trans HB.out.size HN.out) HB5.out.size); have HG6 := Aside0.mk (Kd.R_grown HG5.out hg6 (fun k hk e => by cases e; exact hk.2 rfl)); clear hb6 hg6 hs6 BK1 HA5 HB5 HG5))
          go_loopw [15] (fun v15 wr => ∃ (q : Nat) (g : List Bool) (its : List NI) (ok : Nat → Prop) (lw ln : Int), v15 = .int .i64 (q : Int) ∧ Aside0 (q + its.length = items.length) ∧ Aside0 (Acc l0 g its) ∧ Aside0 (HP wr w.heap.size p ok its (l0.length : Int)) ∧ Aside0 (Kd.bool.R 4 wr w.heap.size (fun k => ¬ ok k ∧ k ≠ bl) v7 g) ∧ Aside0 (wr.heap[bl]? = some (.cells #[.int .u64 lw, .int .i64 ln, .int .i64 0] 34 (0, 0))) ∧ Aside0 (0 < q → ∀ y ∈ its, lt ⟨lw, ln, 0⟩ y) ∧ Aside0 (¬ ok bl) ∧ Aside0 (Below w.heap.size w wr)) (fun v15 _ => items.length - (intOf v15).toNat)
          case atStart => exact ⟨0, g, items, ok, 0, 0, rfl, ⟨by omega⟩, HC, HA6, HG6, BK6, ⟨fun h => absurd h (by decide)⟩, HNB, HB6⟩
          case round =>
            clear HA6 HB6 HG6 BK6 HC HA HB HG HNB
            obtain ⟨q, g, its, ok, lw, ln, rfl, HQ, HC, HA, HG, BK, HO, HNB, HB⟩ := hrel
            by_cases hlq : (q : Int) < (items.length : Int)
            · have hpos : 0 < its.length := by have := HQ.out; omega
              obtain ⟨x, hx⟩ := HA.out.least hpos
              obtain ⟨j, hj, hg, rfl⟩ := HC.out.sub x hx.1
              obtain ⟨rest, hp, hlen⟩ := split_mem hx.1
              have HX := Aside0.mk hx
              have HP0 := Aside0.mk hp
              have HRI := Aside0.mk hlen
              have HGJ := Aside0.mk hg
              have d1 : (j : Int) < (l0.length : Int) := by omega
              have d0 : 0 ≤ (j : Int) := by omega
              obtain ⟨ad0, rfl, hy⟩ := Kd.at_int HR0.out (j : Int) d0 d1
              rw [Int.toNat_natCast] at hy
              have HY := Aside0.mk hy
              obtain ⟨gg, cap, rfl, hbg, hgl, cells0, hg0⟩ := Kd.R_form HG.out (by rw [HC.out.len]; omega)
              have hgll : (j : Int) < (g.length : Int) := by rw [HC.out.len]; omega
              have hord : (q : Int) ≤ 0 ∨ (0 < (q : Int) ∧ (lw < rd l0 (j : Int) ∨ (lw = rd l0 (j : Int) ∧ ln < (j : Int)))) := by
                rcases Nat.eq_zero_or_pos q with h | h
                · exact .inl (by omega)
                · exact .inr ⟨by omega, HO.out h _ hx.1⟩
              have hq3 : (items.length : Int) ≤ 1048576 := by have := HI.out; omega
              clear hx hp hlen hy hg hg0 hbg hgl
              rcases hord with hq0 | ⟨h0, h0 | ⟨rfl, h0⟩⟩
              all_goals
                go_wp2_with (first
                  | (go_at_call 11; (refine (HP.pop w.heap.size p ok its rest (l0.length : Int) (nodeAt l0 j) _ HA.out HX.out HP0.out (by have := HQ.out; have := HI.out; omega)).mono ?_); rintro e w8 ⟨he, hA, hF⟩; (replace he : e = .returned (.tuple #[.int .u64 (rd l0 (j : Int)), .int .i64 (j : Int), .int .i64 (j : Int), .int .i64 0]) := he); subst he; have HA8 := Aside0.mk hA; have HB8 := Aside0.mk (hF.new HB.out (fun k q => (HA.out.bound k q).1)); have HG8 := Aside0.mk (Kd.R_kept HG.out hF.k (fun k hk q => hk.1 q)); have BK8 := Aside0.mk (hF.blk BK.out HNB.out); clear hA hF; have hy := (HB8.out.cell (World.block_lt_of_cell? w _ HY.out)).trans HY.out; obtain ⟨hz, hzf⟩ := Kd.R_celln false HG8.out (j : Int) d0 hgll; rw [HGJ.out, Int.toNat_natCast] at hz; rw [Int.toNat_natCast] at hzf; have hl0 := (blk_cell BK8.out 0).trans rfl; have hl1 := (blk_cell BK8.out 1).trans rfl)
                  | ((with_reducible refine gate_store (t := 34) (p := 14) (v := .tmp 195) rfl ?_); obtain ⟨hrow, hgw⟩ := Kd.R_putg HG8.out (j : Int) true; rw [Int.toNat_natCast] at hrow hgw; have hgk := HG8.out.1 gg (by simp [Value.ownBlock]); have BK9 := Aside0.mk (blk_grown BK8.out hgw (by intro e; cases e; exact hgk.2 rfl)); refine step_store rfl rfl rfl BK9.out rfl (u := .agg #[.int .u64 (rd l0 (j : Int)), .int .i64 (j : Int), .int .i64 0]) (seg := [.int .u64 (rd l0 (j : Int)), .int .i64 (j : Int), .int .i64 0]) rfl rfl infoI (by simp [Value.oneCell']) (Nat.le_refl 3) (cur' := #[.int .u64 (rd l0 (j : Int)), .int .i64 (j : Int), .int .i64 0]) rfl ?_; intro w9 hb9 hg9 hs9; have HA9 := Aside0.mk ((HA8.out.kept (S := fun k => k = gg) ⟨hgw.size, fun k hk hn => hgw.block k hk (fun e => hn (by cases e; rfl))⟩ (fun k hk e => hgk.1 (e ▸ hk))).kept (S := fun k => k = bl) ⟨hg9.size, fun k hk hn => hg9.block k hk (fun e => hn (by cases e; rfl))⟩ (fun k hk e => HNB.out (e ▸ hk))); have HB9 := Aside0.mk (below_mput (below_mput HB8.out hgw ((Kd.R_base HG8.out) gg (by simp [Value.ownBlock])) HB8.out.size) hg9 HBL.out (Nat.le_trans HB8.out.size hgw.size)); have HG9 := Aside0.mk (Kd.R_grown hrow hg9 (fun k hk e => by cases e; exact hk.2 rfl)); have BKl := Aside0.mk hb9; clear hb9 hg9 hs9 hrow hgw hgk hl0 hl1 hy hz hzf BK8 BK9 HA8 HB8 HG8))
              all_goals
                go_roundw
                case rel =>
                  refine ⟨q + 1, g.set j true, rest, ok, rd l0 (j : Int), (j : Int), by go_num, ⟨by have := HQ.out; have := HRI.out; omega⟩, ⟨acc_drop HC.out HA.out.once (by omega) HP0.out⟩, HA9, HG9, BKl, ⟨fun _ y hy => ?_⟩, HNB, HB9⟩
                  have hO2 : Once (nodeAt l0 j :: rest) := once_perm HP0.out.symm HA.out.once
                  have hm := HP0.out.mem_iff.2 (List.mem_cons_of_mem _ hy)
                  have h1 := HX.out.2 y hm
                  have h2 : y.num ≠ (j : Int) := by
                    intro e
                    unfold Once at hO2
                    rw [List.map_cons, List.nodup_cons] at hO2
                    exact hO2.1 (List.mem_map.2 ⟨y, hy, e⟩)
                  unfold lt at h1 ⊢
                  simp only [nodeAt] at h1
                  dsimp only
                  omega
                case measure => simp [intOf]; omega
            · have hnil : its = [] := List.eq_nil_of_length_eq_zero (by have := HQ.out; omega)
              subst hnil
              go_wp2_with (first
                | (go_at_call 11; (refine (HP.pop_none w.heap.size p ok (l0.length : Int) _ HA.out).mono ?_); rintro e w8 ⟨rfl, hb⟩; have HA8 := Aside0.mk (HA.out.below hb); have HB8 := Aside0.mk (below_step HB.out hb); clear hb)
                | (go_at_call 12; (refine (HP.len w.heap.size p ok [] (l0.length : Int) _ HA8.out).mono ?_); rintro e w9 ⟨rfl, rfl⟩))
              go_ret
              exact ⟨rfl, HB8.out⟩
end Go.Proofs.Ytedkacknopcceaa.QHeap
