/- A mutex: hand. Conditions: each theorem's own. -/
import Derived.Test.YtielcanihooagaaDoorSgo
import Derived.Test.YtielcanihooagaaDoorSpo
set_option linter.unusedVariables false
set_option linter.unusedSimpArgs false
namespace Go.Proofs.YtielcanihooagaaDoor.PSemaExcludes
open Go.RowKit Go.Proofs.YtielcanihooagaaDoor.Ef Go.Proofs.YtielcanihooagaaDoor.Mp Go.Proofs.YtielcanihooagaaDoorW.PrintWords Go.Proofs.YtielcanihooagaaDoorW.PrintLast Go.Proofs.YtielcanihooagaaDoorW.PrintMore

def lenV : Value → Nat | .slice _ n _ => n | _ => 0
def handM : List S83 → Bool → Int → List S83 × Bool × Int × List S34
  | [], lo, rd => ([], lo, rd, [])
  | x :: r, lo, rd => if goesB (x :: r) lo rd = true then
      ((handM r (if x.f1 = true then lo else true) (if x.f1 = true then rd + 1 else rd)).1, (handM r (if x.f1 = true then lo else true) (if x.f1 = true then rd + 1 else rd)).2.1, (handM r (if x.f1 = true then lo else true) (if x.f1 = true then rd + 1 else rd)).2.2.1, x.f0 :: (handM r (if x.f1 = true then lo else true) (if x.f1 = true then rd + 1 else rd)).2.2.2)
    else (x :: r, lo, rd, [])
/-- A mutex in memory. -/
structure MX (w : World) (base gb n : Nat) (v : Value) (ok : Nat → Prop) (q : List S83) (lo : Bool) (rd : Int) : Prop where
  c : ∃ c, w.heap[gb]? = some (.cells c 79 (0, 0)) ∧ LK c n v lo rd
  row : k83.R 83 w base ok v q
  ne : ∀ k, ok k → k ≠ gb
  low : base ≤ gb
  n : n < 256
section
variable {w W : World} {base gb n : Nat} {v : Value} {ok : Nat → Prop} {q : List S83} {lo : Bool} {rd : Int}
theorem MX.below (h : MX w base gb n v ok q lo rd) (hb : Below w.heap.size w W) : MX W base gb n v ok q lo rd := ⟨let ⟨c, a, b⟩ := h.c; ⟨c, blk_below a hb, b⟩, Kd.R_below h.row hb, h.ne, h.low, h.n⟩
theorem MX.at_ (h : MX w base gb n v ok q lo rd) : w.cell? ⟨gb, 3 * n, none⟩ = some v ∧ w.cell? ⟨gb, 3 * n + 1, none⟩ = some (.bool lo) ∧ w.cell? ⟨gb, 3 * n + 2, none⟩ = some (.int .i64 rd) ∧ w.frozen? ⟨gb, 3 * n + 1, none⟩ = false ∧ w.frozen? ⟨gb, 3 * n + 2, none⟩ = false := by
  obtain ⟨c, a, b⟩ := h.c
  exact ⟨(blk_cell a _).trans b.q, (blk_cell a _).trans b.l, (blk_cell a _).trans b.r, blk_frozen a _, blk_frozen a _⟩
theorem MX.lt (h : MX w base gb n v ok q lo rd) : gb < w.heap.size := by
  obtain ⟨c, a, b⟩ := h.c
  exact blk_lt a
theorem MX.grown (h : MX w base gb n v ok q lo rd) {g : Nat} (hg : w.grownBy W (some g)) (h1 : gb ≠ g) (h2 : ∀ k, ok k → k ≠ g) : MX W base gb n v ok q lo rd := ⟨let ⟨c, a, b⟩ := h.c; ⟨c, blk_grown a hg (fun e => h1 (Option.some.inj e)), b⟩, Kd.R_grown h.row hg (fun k hk e => h2 k hk (Option.some.inj e)), h.ne, h.low, h.n⟩
theorem MX.putl (h : MX w base gb n v ok q lo rd) (b : Bool) : MX (w.setCell ⟨gb, 3 * n + 1, none⟩ (.bool b)) base gb n v ok q b rd ∧ w.grownBy (w.setCell ⟨gb, 3 * n + 1, none⟩ (.bool b)) (some gb) := by
  obtain ⟨c, a, hc⟩ := h.c
  obtain ⟨h1, h2⟩ := set_step a (3 * n + 1) (.bool b) rfl
  exact ⟨⟨⟨_, h1, hc.setl h.n b⟩, Kd.R_grown h.row h2 (fun k hk e => h.ne k hk (Option.some.inj e)), h.ne, h.low, h.n⟩, h2⟩
theorem MX.putr (h : MX w base gb n v ok q lo rd) (k : Int) : MX (w.setCell ⟨gb, 3 * n + 2, none⟩ (.int .i64 k)) base gb n v ok q lo k ∧ w.grownBy (w.setCell ⟨gb, 3 * n + 2, none⟩ (.int .i64 k)) (some gb) := by
  obtain ⟨c, a, hc⟩ := h.c
  obtain ⟨h1, h2⟩ := set_step a (3 * n + 2) (.int .i64 k) rfl
  exact ⟨⟨⟨_, h1, hc.setr h.n k⟩, Kd.R_grown h.row h2 (fun k hk e => h.ne k hk (Option.some.inj e)), h.ne, h.low, h.n⟩, h2⟩
end
theorem goes_mx {w : World} {base gb n : Nat} {v : Value} {ok : Nat → Prop} {q : List S83} {lo : Bool} {rd : Int} (h : MX w base gb n v ok q lo rd) : Calls Tryd.prog 32 #[.pointer (some ⟨gb, 3 * n, none⟩)] w fun e w' => e = .returned (.bool (goesB q lo rd)) ∧ w = w' := by
  obtain ⟨A, c, rfl⟩ := Kd.R_slice h.row
  exact goes_calls gb (3 * n) A c q lo rd w h.at_.1 h.at_.2.1 h.at_.2.2.1 (Kd.R_reads' h.row).2.2
theorem pop_mx {w : World} {base gb n : Nat} {v : Value} {ok : Nat → Prop} {x : S83} {r : List S83} {lo : Bool} {rd : Int} (h : MX w base gb n v ok (x :: r) lo rd) (hb : base ≤ w.heap.size) (hq : ∀ k, ok k → k < w.heap.size) :
    Calls Tryd.prog 63 #[.pointer (some ⟨gb, 3 * n, none⟩)] w fun e w' => ∃ v', e = .returned (.agg #[.int .i64 x.f0.f0, .int .i64 x.f0.f1, .bool x.f1]) ∧ MX w' base gb n v' ok r lo rd ∧ Fr base (fun k => k = gb ∨ (ok k ∧ base ≤ k)) w w' := by
  obtain ⟨c, a, hc⟩ := h.c
  exact (popL_calls base gb (3 * n) 79 c v ok x r w ⟨a, hc.q, h.row, h.ne, h.low⟩ hb hq).mono fun e w' ⟨v', he, hC, hF⟩ => ⟨v', he, ⟨⟨_, hC.blk, hc.setq h.n v'⟩, hC.row, h.ne, h.low, h.n⟩, hF⟩
set_option maxHeartbeats 4000000 in
set_option maxRecDepth 100000 in
theorem hand_calls (base gb n : Nat) (v : Value) (ok : Nat → Prop) (q : List S83) (lo : Bool) (rd : Int) (w : World) (H : MX w base gb n v ok q lo rd) (hb : base ≤ w.heap.size) (hq : ∀ k, ok k → k < w.heap.size) (h0 : 0 ≤ rd) (hs : rd + (q.length : Int) ≤ 4000000000000) {q' : List S83} {lo' : Bool} {rd' : Int} {wk : List S34} (hH : handM q lo rd = (q', lo', rd', wk)) :
    Calls Tryd.prog 29 #[.pointer (some ⟨gb, 3 * n, none⟩)] w fun e w' => ∃ v' vo, e = .returned vo ∧ MX w' base gb n v' ok q' lo' rd' ∧ k34.R 34 w' w.heap.size (fun k => w.heap.size ≤ k) vo wk ∧ Fr base (fun k => k = gb ∨ (ok k ∧ base ≤ k)) w w' := by
  have hu79 := Tryd.underlying79
  have hu83 := Tryd.underlying83
  have hu34 := Tryd.underlying34
  have HH := Aside0.mk H
  have HQ := Aside0.mk hq
  have HS := Aside0.mk hs
  have HE := Aside0.mk hH
  have HGb := Aside0.mk H.lt
  have HF := Aside0.mk (Fr.refl (S := fun k => k = gb ∨ (ok k ∧ base ≤ k)) (w := w) hb (fun k q => q.elim (fun e => e ▸ H.low) (fun q => q.2)))
  clear H hq hH hs
  go_enter Tryd.func29, Tryd.ntmps29
  go_wp2
  go_loopw [3] (fun v3 wr => ∃ (q1 : List S83) (lo1 : Bool) (rd1 : Int) (v1 : Value) (wk1 o : List S34) (Ao : Option Addr) (co : Nat), v3 = .slice Ao o.length co ∧ Aside0 (handM q1 lo1 rd1 = (q', lo', rd', wk1) ∧ o ++ wk1 = wk ∧ 0 ≤ rd1 ∧ rd1 + (q1.length : Int) ≤ 4000000000000 ∧ (o.length : Int) + q1.length ≤ 4000000000000) ∧ Aside0 (MX wr base gb n v1 ok q1 lo1 rd1) ∧ Aside0 (k34.R 34 wr w.heap.size (fun k => w.heap.size ≤ k) (.slice Ao o.length co) o) ∧ Aside0 (Fr base (fun k => k = gb ∨ (ok k ∧ base ≤ k)) w wr)) (fun v3 _ => wk.length + 1 - lenV v3)
  case atStart => exact ⟨q, lo, rd, v, wk, [], none, 0, rfl, ⟨HE.out, rfl, h0, HS.out, by have := HS.out; show (0 : Int) + _ ≤ _; omega⟩, HH, ⟨Kd.R_nil _ _ _ _ _⟩, HF⟩
  case round =>
    clear HH HF HE HS
    obtain ⟨q1, lo1, rd1, v1, wk1, o, Ao, co, rfl, HP, HM, HO, HF⟩ := hrel
    cases hgo : goesB q1 lo1 rd1 with
    | false =>
      have hfin : q1 = q' ∧ lo1 = lo' ∧ rd1 = rd' ∧ o = wk := by
        have h1 := HP.out.1
        have h2 := HP.out.2.1
        cases q1 with
        | nil => unfold handM at h1; cases h1; rw [List.append_nil] at h2; exact ⟨rfl, rfl, rfl, h2⟩
        | cons x r => unfold handM at h1; rw [hgo, if_neg (by decide)] at h1; cases h1; rw [List.append_nil] at h2; exact ⟨rfl, rfl, rfl, h2⟩
      have HG := Aside0.mk (hgo ▸ goes_mx HM.out)
      clear hgo
      go_wp2_with (go_at_call 32; (refine HG.out.mono ?_); rintro e w2 ⟨rfl, rfl⟩)
      go_ret
      obtain ⟨rfl, rfl, rfl, rfl⟩ := hfin
      exact ⟨v1, _, rfl, HM.out, HO.out, HF.out⟩
    | true =>
      cases q1 with
      | nil => cases hgo
      | cons x r =>
        have h1 := HP.out.1
        unfold handM at h1
        rw [hgo, if_pos rfl] at h1
        obtain ⟨⟨xs, xg⟩, xb⟩ := x
        have HG := Aside0.mk (hgo ▸ goes_mx HM.out)
        have HPp := Aside0.mk (pop_mx HM.out (Nat.le_trans hb HF.out.size) (fun k q => Nat.lt_of_lt_of_le (HQ.out k q) HF.out.size))
        obtain ⟨wk2, he, hw⟩ : ∃ wk2, handM r (if xb = true then lo1 else true) (if xb = true then rd1 + 1 else rd1) = (q', lo', rd', wk2) ∧ wk1 = ⟨xs, xg⟩ :: wk2 := by
          refine ⟨(handM r (if xb = true then lo1 else true) (if xb = true then rd1 + 1 else rd1)).2.2.2, ?_, ?_⟩
          · have a1 := congrArg (·.1) h1
            have a2 := congrArg (·.2.1) h1
            have a3 := congrArg (·.2.2.1) h1
            simp only at a1 a2 a3
            rw [← a1, ← a2, ← a3]
          · exact (congrArg (·.2.2.2) h1).symm
        clear h1 hgo
        cases xb with
        | true =>
          have hh : handM r lo1 (rd1 + 1) = (q', lo', rd', wk2) := he
          clear he
          have hn1 : (r.length : Int) + 1 ≤ 4000000000000 - rd1 := by have := HP.out.2.2.2.1; rw [List.length_cons] at this; omega
          have hn2 : (o.length : Int) + ((r.length : Int) + 1) ≤ 4000000000000 := by have := HP.out.2.2.2.2; rw [List.length_cons] at this; omega
          have hp0 := HP.out.2.2.1
          have ho : (o ++ [⟨xs, xg⟩]) ++ wk2 = wk := by have := HP.out.2.1; rw [hw] at this; rw [← this, List.append_assoc]; rfl
          have HP2 := Aside0.mk (show handM r lo1 (rd1 + 1) = (q', lo', rd', wk2) ∧ (o ++ [⟨xs, xg⟩]) ++ wk2 = wk ∧ 0 ≤ rd1 + 1 ∧ (rd1 + 1) + (r.length : Int) ≤ 4000000000000 ∧ ((o ++ [⟨xs, xg⟩] : List S34).length : Int) + r.length ≤ 4000000000000 from ⟨hh, ho, by omega, by omega, by rw [List.length_append]; first | (simp; done) | (simp; omega)⟩)
          have hwr : IntKind.i64.wrap (rd1 + 1) = rd1 + 1 := by simp [IntKind.wrap, IntKind.bits, IntKind.signed]; omega
          have hol : (o.length + 1) * 16 ≤ 140737488355328 := by omega
          have hlt : o.length < wk.length := by rw [← ho]; first | (simp; done) | (simp; omega)
          have HL := Aside0.mk hlt
          clear hh ho hw hn1 hn2 hp0 hlt
          go_upto_region 7 with (first
            | (go_at_call 32; (refine HG.out.mono ?_); rintro e w2 ⟨rfl, rfl⟩)
            | (go_at_call 63; (refine HPp.out.mono ?_); rintro e w2 ⟨v2, rfl, hm, hF⟩; have HM2 := Aside0.mk hm; have HF2 := Aside0.mk (HF.out.then_ hF (Nat.le_refl _) (fun k q => .inl q)); have HO2 := Aside0.mk (Kd.R_kept HO.out hF.k (fun k q s => s.elim (fun e => by have := HGb.out; omega) (fun s => by have := HQ.out k s.1; omega))); clear hm hF)
            | ((with_reducible refine gate_dst (N := 4) rfl ?_); refine box_event ?hg (N := 4) ?hd (cs := #[.int .i64 0, .int .i64 0, .bool false]) (t := 83) ?hr ?_; (case hd => rfl); (case hg => rfl); (case hr => first | (go_simp; done) | (go_simp; rfl)); intro g4 hg4 w3 hbox hb3; have HE4 := Aside0.mk (show w.heap.size ≤ g4 from by have := HF2.out.size; omega); have HN4 := Aside0.mk (show w2.heap.size ≤ g4 by omega); have HM3 := Aside0.mk (HM2.out.below hb3); have HF3 := Aside0.mk (HF2.out.below hb3); have HO3 := Aside0.mk (Kd.R_below (Kd.R_elderB HO2.out g4 HN4.out) hb3); have B4 := Aside0.mk hbox; clear hbox hb3 hg4)
            | ((with_reducible refine gate_store (t := 83) (p := 4) (v := .tmp 10) rfl ?_); refine step_store rfl rfl rfl B4.out rfl (u := .agg #[.int .i64 xs, .int .i64 xg, .bool true]) (seg := [.int .i64 xs, .int .i64 xg, .bool true]) rfl rfl (by kernel_rfl) (by simp [Value.oneCell']) (Nat.le_refl 3) (cur' := #[.int .i64 xs, .int .i64 xg, .bool true]) rfl ?_; intro w4 hbs hgs hss; have HM4 := Aside0.mk (HM3.out.grown hgs (by have := HGb.out; have := HE4.out; omega) (fun k q e => by have := HQ.out k q; have := HE4.out; omega)); have HF4 := Aside0.mk (HF3.out.grown hgs (.inr HE4.out)); have HO4 := Aside0.mk (Kd.R_grown HO3.out hgs (fun k q e => q.2 (Option.some.inj e))); have B44 := Aside0.mk hbs; clear hbs hgs hss; have k2 : w4.cell? ⟨g4, 2, none⟩ = some (.bool true) := (blk_cell B44.out 2).trans rfl; have r0 : w4.cell? ⟨gb, 3 * n + 2, none⟩ = some (.int .i64 rd1) := HM4.out.at_.2.2.1; have r1 : w4.frozen? ⟨gb, 3 * n + 2, none⟩ = false := HM4.out.at_.2.2.2.2))
          obtain ⟨m1, m2⟩ := HM4.out.putr (rd1 + 1)
          have HM5 := Aside0.mk m1
          have HF5 := Aside0.mk (HF4.out.grown m2 (.inl (.inl rfl)))
          have HO5 := Aside0.mk (Kd.R_grown HO4.out m2 (fun k q e => by have := HGb.out; have := Option.some.inj e; have := q.1; omega))
          have B45 := Aside0.mk (blk_grown B44.out m2 (fun e => by have := HGb.out; have := HE4.out; have := Option.some.inj e; omega))
          clear m1 m2 k2 r0 r1 HM4 HF4 HO4 B44
          generalize w4.setCell ⟨gb, 3 * n + 2, none⟩ (.int .i64 (rd1 + 1)) = w5 at *
          have k0 : w5.cell? ⟨g4, 0, none⟩ = some (.int .i64 xs) := (blk_cell B45.out 0).trans rfl
          have k1 : w5.cell? ⟨g4, 1, none⟩ = some (.int .i64 xg) := (blk_cell B45.out 1).trans rfl
          go_wp2_with ((with_reducible refine gate_builtin (b := .append) (xs := #[.tmp 23, .tmp 26]) rfl ?_); (at_builtin; refine Kd.R_append k34 (w0 := w5) (W := _) w.heap.size rfl (.tmp 23) (.tmp 26) 27 34 (.agg #[.int .i64 0, .int .i64 0]) 16 rfl Tryd.underlying27 infoG rfl (by decide) (by omega) (.slice Ao o.length co) o (⟨xs, xg⟩ : S34) [.int .i64 xs, .int .i64 xg] (fun k => w.heap.size ≤ k ∧ k ≠ g4) (fun _ => False) rfl rfl (k34_mkM _ _ _ _) (fun _ hk => hk.elim) ?aF HO5.out (below_up (Below.refl _ _) HF5.out.size) HF5.out.size hol ?_; (case aF => exact fun k hk => ⟨Nat.le_trans HF5.out.size hk, by have := blk_lt B45.out; omega⟩); intro v8 w9 hrow hb9 hg9 hat; obtain ⟨A9, c9, rfl⟩ := Kd.R_slice hrow; have HO9 := Aside0.mk (Kd.R_mono hrow (fun k q => q.1)); have HF9 := Aside0.mk (HF5.out.grownO hg9 (fun k hk => .inr (HO5.out.1 k hk).1)); have HM9 := Aside0.mk (show MX w9 base gb n v2 ok r lo1 (rd1 + 1) from ⟨(let ⟨c, a, b⟩ := HM5.out.c; ⟨c, blk_grown a hg9 (fun e => by have := (HO5.out.1 gb e.symm).1; have := HGb.out; omega), b⟩), Kd.R_grown HM5.out.row hg9 (fun k q e => by have := (HO5.out.1 k e.symm).1; have := HQ.out k q; omega), HM5.out.ne, HM5.out.low, HM5.out.n⟩); clear hrow hb9 hg9 hat k0 k1))
          go_roundw
          case rel => exact ⟨r, lo1, rd1 + 1, v2, wk2, o ++ [⟨xs, xg⟩], A9, c9, by first | rfl | simp, HP2, HM9, HO9, HF9⟩
          case measure => simp [lenV]; have := HL.out; omega
        | false =>
          have hh : handM r true (rd1) = (q', lo', rd', wk2) := he
          clear he
          have hn1 : (r.length : Int) + 1 ≤ 4000000000000 - rd1 := by have := HP.out.2.2.2.1; rw [List.length_cons] at this; omega
          have hn2 : (o.length : Int) + ((r.length : Int) + 1) ≤ 4000000000000 := by have := HP.out.2.2.2.2; rw [List.length_cons] at this; omega
          have hp0 := HP.out.2.2.1
          have ho : (o ++ [⟨xs, xg⟩]) ++ wk2 = wk := by have := HP.out.2.1; rw [hw] at this; rw [← this, List.append_assoc]; rfl
          have HP2 := Aside0.mk (show handM r true (rd1) = (q', lo', rd', wk2) ∧ (o ++ [⟨xs, xg⟩]) ++ wk2 = wk ∧ 0 ≤ rd1 ∧ (rd1) + (r.length : Int) ≤ 4000000000000 ∧ ((o ++ [⟨xs, xg⟩] : List S34).length : Int) + r.length ≤ 4000000000000 from ⟨hh, ho, by omega, by omega, by rw [List.length_append]; first | (simp; done) | (simp; omega)⟩)
          have hwr : IntKind.i64.wrap (rd1 + 1) = rd1 + 1 := by simp [IntKind.wrap, IntKind.bits, IntKind.signed]; omega
          have hol : (o.length + 1) * 16 ≤ 140737488355328 := by omega
          have hlt : o.length < wk.length := by rw [← ho]; first | (simp; done) | (simp; omega)
          have HL := Aside0.mk hlt
          clear hh ho hw hn1 hn2 hp0 hlt
          go_upto_region 7 with (first
            | (go_at_call 32; (refine HG.out.mono ?_); rintro e w2 ⟨rfl, rfl⟩)
            | (go_at_call 63; (refine HPp.out.mono ?_); rintro e w2 ⟨v2, rfl, hm, hF⟩; have HM2 := Aside0.mk hm; have HF2 := Aside0.mk (HF.out.then_ hF (Nat.le_refl _) (fun k q => .inl q)); have HO2 := Aside0.mk (Kd.R_kept HO.out hF.k (fun k q s => s.elim (fun e => by have := HGb.out; omega) (fun s => by have := HQ.out k s.1; omega))); clear hm hF)
            | ((with_reducible refine gate_dst (N := 4) rfl ?_); refine box_event ?hg (N := 4) ?hd (cs := #[.int .i64 0, .int .i64 0, .bool false]) (t := 83) ?hr ?_; (case hd => rfl); (case hg => rfl); (case hr => first | (go_simp; done) | (go_simp; rfl)); intro g4 hg4 w3 hbox hb3; have HE4 := Aside0.mk (show w.heap.size ≤ g4 from by have := HF2.out.size; omega); have HN4 := Aside0.mk (show w2.heap.size ≤ g4 by omega); have HM3 := Aside0.mk (HM2.out.below hb3); have HF3 := Aside0.mk (HF2.out.below hb3); have HO3 := Aside0.mk (Kd.R_below (Kd.R_elderB HO2.out g4 HN4.out) hb3); have B4 := Aside0.mk hbox; clear hbox hb3 hg4)
            | ((with_reducible refine gate_store (t := 83) (p := 4) (v := .tmp 10) rfl ?_); refine step_store rfl rfl rfl B4.out rfl (u := .agg #[.int .i64 xs, .int .i64 xg, .bool false]) (seg := [.int .i64 xs, .int .i64 xg, .bool false]) rfl rfl (by kernel_rfl) (by simp [Value.oneCell']) (Nat.le_refl 3) (cur' := #[.int .i64 xs, .int .i64 xg, .bool false]) rfl ?_; intro w4 hbs hgs hss; have HM4 := Aside0.mk (HM3.out.grown hgs (by have := HGb.out; have := HE4.out; omega) (fun k q e => by have := HQ.out k q; have := HE4.out; omega)); have HF4 := Aside0.mk (HF3.out.grown hgs (.inr HE4.out)); have HO4 := Aside0.mk (Kd.R_grown HO3.out hgs (fun k q e => q.2 (Option.some.inj e))); have B44 := Aside0.mk hbs; clear hbs hgs hss; have k2 : w4.cell? ⟨g4, 2, none⟩ = some (.bool false) := (blk_cell B44.out 2).trans rfl; have r0 : w4.cell? ⟨gb, 3 * n + 1, none⟩ = some (.bool lo1) := HM4.out.at_.2.1; have r1 : w4.frozen? ⟨gb, 3 * n + 1, none⟩ = false := HM4.out.at_.2.2.2.1))
          obtain ⟨m1, m2⟩ := HM4.out.putl true
          have HM5 := Aside0.mk m1
          have HF5 := Aside0.mk (HF4.out.grown m2 (.inl (.inl rfl)))
          have HO5 := Aside0.mk (Kd.R_grown HO4.out m2 (fun k q e => by have := HGb.out; have := Option.some.inj e; have := q.1; omega))
          have B45 := Aside0.mk (blk_grown B44.out m2 (fun e => by have := HGb.out; have := HE4.out; have := Option.some.inj e; omega))
          clear m1 m2 k2 r0 r1 HM4 HF4 HO4 B44
          generalize w4.setCell ⟨gb, 3 * n + 1, none⟩ (.bool true) = w5 at *
          have k0 : w5.cell? ⟨g4, 0, none⟩ = some (.int .i64 xs) := (blk_cell B45.out 0).trans rfl
          have k1 : w5.cell? ⟨g4, 1, none⟩ = some (.int .i64 xg) := (blk_cell B45.out 1).trans rfl
          go_wp2_with ((with_reducible refine gate_builtin (b := .append) (xs := #[.tmp 23, .tmp 26]) rfl ?_); (at_builtin; refine Kd.R_append k34 (w0 := w5) (W := _) w.heap.size rfl (.tmp 23) (.tmp 26) 27 34 (.agg #[.int .i64 0, .int .i64 0]) 16 rfl Tryd.underlying27 infoG rfl (by decide) (by omega) (.slice Ao o.length co) o (⟨xs, xg⟩ : S34) [.int .i64 xs, .int .i64 xg] (fun k => w.heap.size ≤ k ∧ k ≠ g4) (fun _ => False) rfl rfl (k34_mkM _ _ _ _) (fun _ hk => hk.elim) ?aF HO5.out (below_up (Below.refl _ _) HF5.out.size) HF5.out.size hol ?_; (case aF => exact fun k hk => ⟨Nat.le_trans HF5.out.size hk, by have := blk_lt B45.out; omega⟩); intro v8 w9 hrow hb9 hg9 hat; obtain ⟨A9, c9, rfl⟩ := Kd.R_slice hrow; have HO9 := Aside0.mk (Kd.R_mono hrow (fun k q => q.1)); have HF9 := Aside0.mk (HF5.out.grownO hg9 (fun k hk => .inr (HO5.out.1 k hk).1)); have HM9 := Aside0.mk (show MX w9 base gb n v2 ok r true (rd1) from ⟨(let ⟨c, a, b⟩ := HM5.out.c; ⟨c, blk_grown a hg9 (fun e => by have := (HO5.out.1 gb e.symm).1; have := HGb.out; omega), b⟩), Kd.R_grown HM5.out.row hg9 (fun k q e => by have := (HO5.out.1 k e.symm).1; have := HQ.out k q; omega), HM5.out.ne, HM5.out.low, HM5.out.n⟩); clear hrow hb9 hg9 hat k0 k1))
          go_roundw
          case rel => exact ⟨r, true, rd1, v2, wk2, o ++ [⟨xs, xg⟩], A9, c9, by first | rfl | simp, HP2, HM9, HO9, HF9⟩
          case measure => simp [lenV]; have := HL.out; omega
end Go.Proofs.YtielcanihooagaaDoor.PSemaExcludes
