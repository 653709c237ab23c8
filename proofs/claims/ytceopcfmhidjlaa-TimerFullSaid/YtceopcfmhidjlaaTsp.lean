/- Stop, at a name that it does not stop. Conditions: each theorem's own. -/
import Derived.Test.YtceopcfmhidjlaaTde
import Derived.Deep.RegionHeld3
set_option linter.unusedVariables false
set_option linter.unusedSimpArgs false
namespace Go.Proofs.Ytceopcfmhidjlaa.PTimerPlays
open Go.RowKit Go.Proofs.Ytceopcfmhidjlaa.Ef Go.Proofs.Ytceopcfmhidjlaa.Mp Go.Proofs.Ytceopcfmhidjlaa.Hp Go.Proofs.YtceopcfmhidjlaaW.PrintWords Go.Proofs.YtceopcfmhidjlaaW.PrintLast Go.Proofs.YtceopcfmhidjlaaW.PrintMore

/-- Stop's first look: the place is read into a box of its own. -/
theorem look_ids {w : World} {base : Nat} {P : Pl} {v : Value} {last next id : Int} {hp : List NI} {nv : List Tm} {ids own : List (Int × Value)} {gs : List ((Int × Int) × Value)} (h : TA w base P v last hp next nv ids own gs) {W : World} (hb : Below w.heap.size w W) {r : Option Value} (hr : Mp.get id ids = r) :
    (Instr.lookup 54 (.map (some P.bi)) (.int .i64 id) true).run Try.prog W = .ok (.tuple #[r.getD (plc 0 false), .bool r.isSome]) W := by
  have := run_look keyL Try.underlying54 (zeroP W) (h.below hb).mi.of id true
  rw [hr] at this
  exact this
theorem look_own {w : World} {base : Nat} {P : Pl} {v : Value} {last next id : Int} {hp : List NI} {nv : List Tm} {ids own : List (Int × Value)} {gs : List ((Int × Int) × Value)} (h : TA w base P v last hp next nv ids own gs) {W : World} (hb : Below w.heap.size w W) {r : Option Value} (hr : Mp.get id own = r) :
    (Instr.lookup 55 (.map (some P.bo)) (.int .i64 id) false).run Try.prog W = .ok (r.getD (.agg (cT z40))) W := by
  have := run_look keyL Try.underlying55 (zeroT W) (h.below hb).mo.of id false
  rw [hr] at this
  exact this
set_option maxHeartbeats 4000000 in
set_option maxRecDepth 100000 in
theorem stop_none (base p : Nat) (ok : Nat → Prop) (S : TS) (id : Int) (w : World) (H : TP w base p ok S) (hid : ∀ x ∈ S.all, x.f0 ≠ id) :
    Calls Try.prog 14 #[.pointer (some ⟨p, 0, none⟩), .int .i64 id] w fun e w' => e = .returned (.bool false) ∧ Below w.heap.size w w' := by
  have HT := Aside0.mk H
  obtain ⟨P, v, ids, own, gs, rfl, rfl, hA, hG⟩ := H
  have hg : Mp.get id ids = none := get_fresh (fun q hq e => by
    have h2 : q.1 ∈ S.ids.map (·.1) := List.mem_map.2 ⟨q, hG.pi.mem_iff.1 hq, rfl⟩
    have h3 : S.ids.map (·.1) = S.all.map (·.f0) := by simp [TS.ids, TS.all, Function.comp_def]
    rw [h3] at h2
    obtain ⟨y, hy, e2⟩ := List.mem_map.1 h2
    exact hid y hy (by rw [e2, e]))
  have HH := Aside0.mk hA
  have HG := Aside0.mk hg
  have HQ := Aside0.mk hG
  clear hA hG hg
  go_enter Try.func14, Try.ntmps14
  go_wp2_with (first
    | ((with_reducible refine gate_dst (N := 3) rfl ?_); refine box_event ?hg (N := 3) ?hd (cs := #[.int .i64 id]) (t := 2) ?hr ?_; (case hd => rfl); (case hg => rfl); (case hr => first | (go_simp; done) | (go_simp; rfl)); intro g3 hg3 w1 hbox hb; have HB := Aside0.mk hb; have HG3 := Aside0.mk (show w.heap.size ≤ g3 by omega); have HA1 := Aside0.mk (HH.out.below hb); have HT1 := Aside0.mk (HT.out.below hb); have B3 := Aside0.mk hbox; have pi : w1.cell? ⟨P.p, 4, none⟩ = some (.map (some P.bi)) := (blk_cell HA1.out.blk 4).trans rfl; have y0 : w1.cell? ⟨g3, 0, none⟩ = some (.int .i64 id) := (blk_cell hbox 0).trans rfl; clear hb hbox hg3)
    | (go_at_call 26; (refine (is_calls base P.p P.ok S _ HT1.out).mono ?_); rintro e w1' ⟨rfl, rfl⟩))
  have hlk0 := look_ids HA1.out (Below.refl _ _) HG.out
  have hlk1 := look_ids HA1.out (below_drew (Below.refl _ _)) HG.out
  have hlk2 := fun o => look_ids HA1.out (below_alloc (Below.refl _ w1) o) HG.out
  have hlk3 := fun o => look_ids HA1.out (below_drew (below_alloc (Below.refl _ w1) o)) HG.out
  have hK : ∀ o, (w1.alloc o).cell? ⟨P.p, 4, none⟩ = some (.map (some P.bi)) ∧ (w1.alloc o).cell? ⟨g3, 0, none⟩ = some (.int .i64 id) := fun o => ⟨((below_alloc (Below.refl _ _) o).cell (p := ⟨P.p, 4, none⟩) (blk_lt HA1.out.blk)).trans pi, ((below_alloc (Below.refl _ _) o).cell (p := ⟨g3, 0, none⟩) (blk_lt B3.out)).trans y0⟩
  simp only [Option.getD_none, Option.isSome_none] at hlk0 hlk1 hlk2 hlk3
  go_region_held3 (fun w' => w'.cell? ⟨P.p, 4, none⟩ = some (.map (some P.bi)) ∧ w'.cell? ⟨g3, 0, none⟩ = some (.int .i64 id)) (first | go_keep | exact hK _) (fail)
  all_goals
    have hbd := below_drew (below_alloc (Below.refl w1.heap.size w1) (.cells #[.int .i64 0, .bool false] 73 (0, 0)))
    have HB2 := Aside0.mk (HB.out.trans (below_up hbd HB.out.size))
    have HA2 := Aside0.mk (HA1.out.below hbd)
    have B32 := Aside0.mk (blk_below B3.out hbd)
    have B5 : Aside0 ((w1.alloc (.cells #[.int .i64 0, .bool false] 73 (0, 0))).drew.heap[w1.heap.size]? = some (.cells #[.int .i64 0, .bool false] 73 (0, 0))) := ⟨blk_new _ _⟩
    have HG5 := Aside0.mk HB.out.size
    clear hlk0 hlk1 hlk2 hlk3 hK pi y0 hbd HA1 HT1 B3 HB
    rename_i hHeld
    clear hHeld
    generalize (w1.alloc (.cells #[.int .i64 0, .bool false] 73 (0, 0))).drew = w2 at *
    generalize w1.heap.size = g5 at *
    go_wp2
    go_region
    go_wp2
    go_ret
    exact ⟨rfl, below_drew HB2.out⟩
theorem field_kind (x : Tm) (w : World) : (Instr.field 40 (.agg #[.int .i64 x.f0, .int .i64 x.f1, .int .i64 x.f2.f0, .int .i64 x.f2.f1, .int .i64 x.f3, .int .u64 x.f4, .bool x.f5, .int .u64 x.f6]) 1).run Try.prog w = .ok (.int .i64 x.f1) w := by kernel_rfl
/-- What Stop sees. -/
theorem see_h {S : TS} {ids own : List (Int × Value)} {gs : List ((Int × Int) × Value)} (G : Good S ids own gs) {n : NI} (hn : n ∈ S.hp) : Mp.get n.val.f0 ids = some (plc n.num false) ∧ Mp.get n.val.f0 own = some (.agg (cT n.val)) :=
  ⟨get_mem (ids_key G) (G.pi.mem_iff.2 (List.mem_append.2 (.inl (List.mem_map.2 ⟨n, hn, rfl⟩)))), get_mem (own_key G) (G.po.mem_iff.2 (List.mem_map.2 ⟨n.val, List.mem_append.2 (.inl (List.mem_map.2 ⟨n, hn, rfl⟩)), rfl⟩))⟩
theorem see_v {S : TS} {ids own : List (Int × Value)} {gs : List ((Int × Int) × Value)} (G : Good S ids own gs) {x : Tm} (hx : x ∈ S.nv) : Mp.get x.f0 ids = some (plc 0 true) ∧ Mp.get x.f0 own = some (.agg (cT x)) :=
  ⟨get_mem (ids_key G) (G.pi.mem_iff.2 (List.mem_append.2 (.inr (List.mem_map.2 ⟨x, hx, rfl⟩)))), get_mem (own_key G) (G.po.mem_iff.2 (List.mem_map.2 ⟨x, List.mem_append.2 (.inr hx), rfl⟩))⟩
set_option maxHeartbeats 4000000 in
set_option maxRecDepth 100000 in
theorem stop_sleep (base p : Nat) (ok : Nat → Prop) (S : TS) (id : Int) (x : Tm) (w : World) (H : TP w base p ok S) (hx : x ∈ S.all) (hid : x.f0 = id) (hk : x.f1 = 1) :
    Calls Try.prog 14 #[.pointer (some ⟨p, 0, none⟩), .int .i64 id] w fun e w' => e = .returned (.bool false) ∧ Below w.heap.size w w' := by
  have hk' : (x.f1 == 1) = true := by simp [hk]
  have hfl := field_kind x
  have HT := Aside0.mk H
  obtain ⟨P, v, ids, own, gs, rfl, rfl, hA, hG⟩ := H
  obtain ⟨num, nev, hg⟩ : ∃ num nev, Mp.get id ids = some (plc num nev) ∧ Mp.get id own = some (.agg (cT x)) := by
    rw [← hid]
    rcases List.mem_append.1 hx with q | q
    · obtain ⟨n, hn, rfl⟩ := List.mem_map.1 q
      exact ⟨_, _, see_h hG hn⟩
    · exact ⟨_, _, see_v hG q⟩
  clear hx hid hk
  have HH := Aside0.mk hA
  have HG := Aside0.mk hg
  have HQ := Aside0.mk hG
  clear hA hG hg
  go_enter Try.func14, Try.ntmps14
  go_wp2_with (first
    | ((with_reducible refine gate_dst (N := 3) rfl ?_); refine box_event ?hg (N := 3) ?hd (cs := #[.int .i64 id]) (t := 2) ?hr ?_; (case hd => rfl); (case hg => rfl); (case hr => first | (go_simp; done) | (go_simp; rfl)); intro g3 hg3 w1 hbox hb; have HB := Aside0.mk hb; have HG3 := Aside0.mk (show w.heap.size ≤ g3 by omega); have HA1 := Aside0.mk (HH.out.below hb); have HT1 := Aside0.mk (HT.out.below hb); have B3 := Aside0.mk hbox; have pi : w1.cell? ⟨P.p, 4, none⟩ = some (.map (some P.bi)) := (blk_cell HA1.out.blk 4).trans rfl; have y0 : w1.cell? ⟨g3, 0, none⟩ = some (.int .i64 id) := (blk_cell hbox 0).trans rfl; clear hb hbox hg3)
    | (go_at_call 26; (refine (is_calls base P.p P.ok S _ HT1.out).mono ?_); rintro e w1' ⟨rfl, rfl⟩))
  have hlk0 := look_ids HA1.out (Below.refl _ _) HG.out.1
  have hlk1 := look_ids HA1.out (below_drew (Below.refl _ _)) HG.out.1
  have hlk2 := fun o => look_ids HA1.out (below_alloc (Below.refl _ w1) o) HG.out.1
  have hlk3 := fun o => look_ids HA1.out (below_drew (below_alloc (Below.refl _ w1) o)) HG.out.1
  have hK : ∀ o, (w1.alloc o).cell? ⟨P.p, 4, none⟩ = some (.map (some P.bi)) ∧ (w1.alloc o).cell? ⟨g3, 0, none⟩ = some (.int .i64 id) := fun o => ⟨((below_alloc (Below.refl _ _) o).cell (p := ⟨P.p, 4, none⟩) (blk_lt HA1.out.blk)).trans pi, ((below_alloc (Below.refl _ _) o).cell (p := ⟨g3, 0, none⟩) (blk_lt B3.out)).trans y0⟩
  simp only [Option.getD_some, Option.isSome_some] at hlk0 hlk1 hlk2 hlk3
  go_region_held3 (fun w' => w'.cell? ⟨P.p, 4, none⟩ = some (.map (some P.bi)) ∧ w'.cell? ⟨g3, 0, none⟩ = some (.int .i64 id)) (first | go_keep | exact hK _) (fail)
  all_goals
    have hbd := below_drew (below_alloc (Below.refl w1.heap.size w1) (.cells #[.int .i64 num, .bool nev] 73 (0, 0)))
    have HB2 := Aside0.mk (HB.out.trans (below_up hbd HB.out.size))
    have HA2 := Aside0.mk (HA1.out.below hbd)
    have B32 := Aside0.mk (blk_below B3.out hbd)
    have B5 : Aside0 ((w1.alloc (.cells #[.int .i64 num, .bool nev] 73 (0, 0))).drew.heap[w1.heap.size]? = some (.cells #[.int .i64 num, .bool nev] 73 (0, 0))) := ⟨blk_new _ _⟩
    have HG5 := Aside0.mk HB.out.size
    clear hlk0 hlk1 hlk2 hlk3 hK pi y0 hbd HA1 HT1 B3 HB
    rename_i hHeld
    clear hHeld
    generalize (w1.alloc (.cells #[.int .i64 num, .bool nev] 73 (0, 0))).drew = w2 at *
    generalize w1.heap.size = g5 at *
    go_wp2
    have po : w2.cell? ⟨P.p, 5, none⟩ = some (.map (some P.bo)) := (blk_cell HA2.out.blk 5).trans rfl
    have y0 : w2.cell? ⟨g3, 0, none⟩ = some (.int .i64 id) := (blk_cell B32.out 0).trans rfl
    have hlo0 := look_own HA2.out (Below.refl _ _) HG.out.2
    have hlo1 := look_own HA2.out (below_drew (Below.refl _ _)) HG.out.2
    simp only [Option.getD_some, cT] at hlo0 hlo1
    go_region
    all_goals
      have HA3 := Aside0.mk HA2.out.drew
      have B33 : Aside0 (w2.drew.heap[g3]? = some (.cells #[.int .i64 id] 2 (0, 0))) := ⟨B32.out⟩
      have B53 : Aside0 (w2.drew.heap[g5]? = some (.cells _ 73 (0, 0))) := ⟨B5.out⟩
      have HB3 := Aside0.mk (below_drew HB2.out)
      clear po y0 hlo0 hlo1 HA2 B32 B5 HB2
      generalize w2.drew = w3 at *
      go_wp2
      go_ret
      exact ⟨rfl, HB3.out⟩
end Go.Proofs.Ytceopcfmhidjlaa.PTimerPlays
