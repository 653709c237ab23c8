/- The law SemaExcludes, walked. Conditions: the theorem's own. -/
import Derived.Test.YtielcanihooagaaDoorSli
import Derived.Test.YtielcanihooagaaDoorSun
import Derived.Test.YtielcanihooagaaDoorSep
set_option linter.unusedVariables false
set_option linter.unusedSimpArgs false
namespace Go.Proofs.YtielcanihooagaaDoor.PSemaExcludes
open Go.RowKit Go.Proofs.YtielcanihooagaaDoor.Ef Go.Proofs.YtielcanihooagaaDoor.Mp Go.Proofs.YtielcanihooagaaDoorW.PrintWords Go.Proofs.YtielcanihooagaaDoorW.PrintLast Go.Proofs.YtielcanihooagaaDoorW.PrintMore

def stA (st : List Int) : Array Value := (st.map (Value.int .i64)).toArray
theorem stA_at {st : List Int} {g : Nat} (h : g < st.length) : (stA st)[g]? = some (.int .i64 (sn st g)) := by simp [stA, sn, h]
theorem stA_set (st : List Int) (g : Nat) (v : Int) : (stA st).setIfInBounds g (.int .i64 v) = stA (st.set g v) := by simp [stA]
theorem made8 : madeCells #[.int .i64 0] 8 = stA [0, 0, 0, 0, 0, 0, 0, 0] := by kernel_rfl
abbrev un (l : List Int) (i : Nat) : Int := (l[i]?).getD 0
theorem at_u8 {w : World} {A : Option Addr} {n : Nat} {xs : List Int} (h : Kd.C (Kd.int .u8) w A n xs) (i : Nat) (h1 : i < n) : ∃ ad : Addr, A = some ad ∧ w.cell? (ad.add i) = some (.int .u8 (un xs i)) := by
  obtain ⟨ad, c, e, _, hK, hc0⟩ := Kd.C_get h (0 : Int) (i : Int) (by omega) (by omega)
  rw [Int.toNat_natCast] at hc0 hK
  obtain rfl : c = [.int .u8 (un xs i)] := hK
  have hc := hc0 0 _ rfl
  exact ⟨ad, e, by have h2 : i * (Kd.int .u8).sz + 0 = i := (by show i * 1 + 0 = i; omega); rw [h2] at hc; exact hc⟩
theorem wake_len : ∀ (l : List S34) (st : List Int), (l.foldl wake st).length = st.length
  | [], _ => rfl
  | x :: r, st => by rw [List.foldl_cons, wake_len r]; unfold wake; rw [List.length_set]
theorem cnt_take {l : List Int} {i : Nat} (h : i < l.length) (c : Int) : (l.take (i + 1)).count c = (l.take i).count c + (if sn l i = c then 1 else 0) := by
  have e : sn l i = l[i] := by simp [sn, h]
  rw [List.take_succ_eq_append_getElem h, List.count_append, e, List.count_singleton]
  congr 1
  by_cases q : l[i] = c <;> simp [q]
def fitsX (turns : List Int) : Prop := ∀ x ∈ turns, 0 ≤ x ∧ x < 256
instance (turns : List Int) : Decidable (fitsX turns) := inferInstanceAs (Decidable (∀ x ∈ turns, _))
def rotalaw13_SemaExcludes.f (k : Nat) (turns : List Int) : Option Bool := if fitsX turns then some true else none
theorem cell_grown {w W : World} {g : Nat} (h : w.grownBy W (some g)) {a : Addr} {u : Value} (hc : w.cell? a = some u) (hne : a.block ≠ g) : W.cell? a = some u := by
  have := h.block a.block (World.block_lt_of_cell? _ _ hc) (fun e => hne (Option.some.inj e))
  unfold World.cell? at hc ⊢
  rw [this]
  exact hc
theorem wrap_s (a : Nat) (h : a ≤ 100) : wrap64 (a : Int) = (a : Int) := by unfold wrap64; omega
theorem ne_z (a : Nat) (h : 0 < a) : ((a : Int) == 0) = false := by simp; omega
set_option maxHeartbeats 8000000 in
set_option maxRecDepth 100000 in
theorem rotalaw13_SemaExcludes.calls (k : Nat) (A0 : Option Addr) (c0 : Nat) (turns : List Int) (r : Bool) (w : World) (hr0 : Kd.C (Kd.int .u8) w A0 turns.length turns) (hc0 : turns.length ≤ c0) (h : rotalaw13_SemaExcludes.f k turns = some r) :
    Calls Tryd.prog 4 #[.slice A0 turns.length c0] w fun e w' => e = .returned (.bool r) ∧ Below w.heap.size w w' := by
  have hr : fitsX turns ∧ r = true := by
    unfold rotalaw13_SemaExcludes.f at h
    by_cases hc : fitsX turns
    · rw [if_pos hc] at h; exact ⟨hc, (Option.some.inj h).symm⟩
    · rw [if_neg hc] at h; cases h
  obtain ⟨hfi, rfl⟩ := hr
  have HFi := Aside0.mk hfi
  clear hfi
  have hmx : turns.length ≤ 9223372036854775807 := Kd.C_max hr0
  have HR0 := Aside0.mk hr0
  have hu29 := Tryd.underlying29
  have hu34 := Tryd.underlying34
  obtain ⟨z8, hmk, ez⟩ : ∃ z8, (∀ W : World, (Instr.makeSlice 38 (.int .i64 8) (.int .i64 8)).run Tryd.prog W = .ok (.slice (some ⟨W.heap.size, 0, none⟩) 8 8) (W.alloc (.cells z8 3))) ∧ z8 = stA [0, 0, 0, 0, 0, 0, 0, 0] := ⟨_, fun W => by
    obtain ⟨i, h1, h2⟩ := Option.map_eq_some_iff.1 (show (Tryd.prog.info? 3).map (fun i => (i.zero, i.size, i.bytes)) = some (some (.int .i64 0), 1, 8) from by kernel_rfl)
    obtain ⟨q1, q2⟩ := Prod.mk.inj h2
    obtain ⟨q2, q3⟩ := Prod.mk.inj q2
    have h := run_make (P := Tryd.prog) W 38 3 i (.int .i64 0) Tryd.underlying38 h1 q1 .i64 .i64 8 8 (by decide) (by decide) (by rw [q3]; decide) (by decide)
    rw [q2] at h
    exact h, made8⟩
  have EZ := Aside0.mk ez
  clear hr0 h ez
  go_enter Tryd.func4, Tryd.ntmps4
  go_wp2_with (first
    | (go_at_call 7; (refine (new_calls 5 255 (by decide) (by decide) _).mono ?_); rintro e w1 ⟨s, B, rfl, hS, hb⟩; have HS1 := Aside0.mk hS; have HB1 := Aside0.mk hb; clear hS hb)
    | (go_at_call 8; (refine (lives_calls _).mono ?_); rintro e w2 ⟨rfl, hb⟩; have HS2 := Aside0.mk (HS1.out.below hb); have HB2 := Aside0.mk (below_step HB1.out hb); clear hb HS1 HB1))
  have HNg := Aside0.mk (show ∀ k, own B s (fun _ => False) (fun _ => False) k → k < w2.heap.size from HS2.out.lt)
  have HS3 := Aside0.mk (HS2.out.below (below_alloc (Below.refl _ _) (.cells z8 3 (0, 0))))
  have HB3 := Aside0.mk (below_alloc HB2.out (.cells z8 3 (0, 0)))
  have BS3 := Aside0.mk (show (w2.alloc (.cells z8 3 (0, 0))).heap[w2.heap.size]? = some (.cells (stA [0, 0, 0, 0, 0, 0, 0, 0]) 3 (0, 0)) from by rw [← EZ.out]; exact blk_new _ _)
  have HLo := Aside0.mk HB2.out.size
  clear hmk EZ HS2 HB2
  generalize w2.heap.size = gs at *
  generalize w2.alloc (.cells z8 3 (0, 0)) = w3 at *
  go_loopw [5] (fun v5 wr => ∃ (i : Nat) (st : List Int) (lo : Bool) (rd : Int) (q : List S83) (vl : Value) (okl : Nat → Prop), v5 = .int .i64 (i : Int) ∧ Aside0 (i ≤ turns.length) ∧ Aside0 (Inv st lo rd q) ∧ Aside0 (SY wr w.heap.size s B 5 vl okl q lo rd 255 nilV (fun _ => False) [] 0) ∧ Aside0 (wr.heap[gs]? = some (.cells (stA st) 3 (0, 0))) ∧ Aside0 (¬ own B s okl (fun _ => False) gs) ∧ Aside0 (Below w.heap.size w wr)) (fun v5 _ => turns.length - (intOf v5).toNat)
  case atStart => exact ⟨0, _, false, 0, [], nilV, _, rfl, ⟨Nat.zero_le _⟩, ⟨Inv.start⟩, HS3, BS3, ⟨fun q => Nat.lt_irrefl _ (HNg.out _ q)⟩, HB3⟩
  case round =>
    clear HS3 BS3 HB3 HNg
    obtain ⟨i, st, lo, rd, q, vl, okl, rfl, HI, HV, HS, BS, HN, HB⟩ := hrel
    by_cases hlt : (i : Int) < (turns.length : Int)
    · have hin : i < turns.length := by omega
      have hin0 : (0 : Int) ≤ (i : Int) := by omega
      obtain ⟨ad, hae, hx⟩ := at_u8 HR0.out i hin
      subst hae
      have HX0 := Aside0.mk (World.block_lt_of_cell? _ _ hx)
      replace hx := (HB.out.cell (World.block_lt_of_cell? w _ hx)).trans hx
      have hxr := HFi.out (un turns i) (by unfold un; rw [List.getElem?_eq_getElem hin]; exact List.getElem_mem hin)
      generalize un turns i = x at hx hxr
      obtain ⟨hx0, hx1⟩ := hxr
      obtain ⟨g, hg8, hb7⟩ : ∃ g : Nat, g < 8 ∧ bits .and .u8 x 7 = (g : Int) := ⟨(x % 8).toNat, by omega, by rw [u8_and7 x hx0 hx1]; omega⟩
      have hgw : wrap64 (g : Int) = (g : Int) := by unfold wrap64; omega
      have hg0 : (0 : Int) ≤ (g : Int) := by omega
      have hg1 : (g : Int) < (8 : Int) := by omega
      obtain ⟨y8, hb8⟩ : ∃ y, bits .and .u8 x 8 = y := ⟨_, rfl⟩
      have hval := HV.out.i.val g hg8
      obtain ⟨v, hv⟩ : ∃ v, sn st g = v := ⟨_, rfl⟩
      rw [hv] at hval
      have HVv := Aside0.mk hv
      clear hv
      go_upto_block 2 with (first
        | ((with_reducible refine gate_dst (N := 7) rfl ?_); refine box_event ?hg (N := 7) ?hd (cs := #[.bool false, .int .i64 0, .slice none 0 0]) (t := 29) ?hr ?_; (case hd => rfl); (case hg => rfl); (case hr => first | (go_simp; done) | (go_simp; rfl)); intro g7 hgN w2 hbox hb; have HE7 := Aside0.mk (show w.heap.size ≤ g7 from by have := HB.out.size; omega); have HN7 := Aside0.mk (show wr.heap.size ≤ g7 by omega); have HS2 := Aside0.mk (HS.out.below hb); have HB2 := Aside0.mk (below_step HB.out hb); have BS2 := Aside0.mk (blk_below BS.out hb); have B7 := Aside0.mk hbox; replace hx := (hb.cell (World.block_lt_of_cell? _ _ hx)).trans hx; clear hb hbox hgN)
        | ((with_reducible refine gate_store (t := 29) (p := 7) (v := .tmp 35) rfl ?_); refine step_store rfl rfl rfl B7.out rfl (u := .agg #[.bool false, .int .i64 0, .slice none 0 0]) (seg := [.bool false, .int .i64 0, .slice none 0 0]) rfl rfl (by kernel_rfl) (by simp [Value.oneCell']) (Nat.le_refl 3) (cur' := #[.bool false, .int .i64 0, .slice none 0 0]) rfl ?_; intro wa hbs hgs hss; have HSa := Aside0.mk (HS2.out.grown hgs (fun q => Nat.not_lt.2 HN7.out (HS.out.lt _ q))); have HBa := Aside0.mk (below_mput HB2.out hgs HE7.out HB2.out.size); have BSa := Aside0.mk (blk_grown BS2.out hgs (fun e => by have := blk_lt BS.out; have := HN7.out; have := Option.some.inj e; omega)); have B7a := Aside0.mk hbs; replace hx := cell_grown hgs hx (fun e => by have := HX0.out; have := HE7.out; simp only [Addr.add] at *; omega); clear hbs hgs hss HS2 HB2 BS2 B7; have y0 : wa.cell? ⟨gs, g, none⟩ = some (.int .i64 v) := (blk_cell BSa.out g).trans ((stA_at (by have := HV.out.i.len; omega)).trans (by rw [HVv.out]))))
      have hl8 := HV.out.i.len
      have HNo7 := Aside0.mk (show ¬ own B s okl (fun _ => False) g7 from fun q => Nat.not_lt.2 HN7.out (HS.out.lt _ q))
      go_cut [8] (fun v8 wc => ∃ (st1 : List Int) (wk : List S34) (Aw : Option Addr) (cw : Nat) (wtv : Bool) (lo1 : Bool) (rd1 : Int) (q1 : List S83) (vl1 : Value) (okl1 : Nat → Prop), v8 = .int .i64 0 ∧ Aside0 (Inv (wk.foldl wake st1) lo1 rd1 q1) ∧ Aside0 (∀ (k : Nat) (hk : k < wk.length), 0 ≤ wk[k].f0 ∧ wk[k].f0 ≤ 7 ∧ (sn ((wk.take k).foldl wake st1) wk[k].f0.toNat = 1 ∨ sn ((wk.take k).foldl wake st1) wk[k].f0.toNat = 3)) ∧ Aside0 (SY wc w.heap.size s B 5 vl1 okl1 q1 lo1 rd1 255 nilV (fun _ => False) [] 0) ∧ Aside0 (wc.heap[gs]? = some (.cells (stA st1) 3 (0, 0))) ∧ Aside0 (wc.heap[g7]? = some (.cells #[.bool wtv, .int .i64 0, .slice Aw wk.length cw] 29 (0, 0))) ∧ Aside0 (k34.R 34 wc w.heap.size (fun k => w.heap.size ≤ k) (.slice Aw wk.length cw) wk) ∧ Aside0 (¬ own B s okl1 (fun _ => False) gs) ∧ Aside0 (Below w.heap.size w wc) ∧ Aside0 (st1.length = 8))
      case first =>
        rcases hval with rfl | rfl | rfl | rfl | rfl
        · by_cases hy : y8 = 0
          · have hyb : (y8 == 0) = true := by simpa using hy
            have hbd := HV.out.i.bound
            obtain ⟨q1, lo1, rd1, wk, hhd⟩ : ∃ a c d e, handM (q ++ [⟨⟨(g : Int), 1⟩, false⟩]) lo rd = (a, c, d, e) := ⟨_, _, _, _, rfl⟩
            obtain ⟨i1, i2⟩ := HV.out.ask hg8 HVv.out false hhd
            have hnq : ∀ x ∈ q, (x.f0.f0 == (g : Int) && x.f0.f1 == (1 : Int)) = false := fun x hx => by
              obtain ⟨k, k1, k2, k3⟩ := HV.out.i.q1 x hx
              rw [Bool.and_eq_false_iff]
              refine .inl ?_
              rw [k2]
              have : k ≠ g := fun e => by rw [e, HVv.out] at k3; unfold wt at k3; cases hb : x.f1 <;> simp [hb] at k3
              simp; omega
            have HLk := Aside0.mk (fun W (hS : SY W w.heap.size s B 5 vl okl q lo rd 255 nilV (fun _ => False) [] 0) => lock_calls w.heap.size s B 5 vl okl q lo rd 255 nilV (fun _ => False) [] 0 (g : Int) 1 W hS hnq (fun x hx => by cases hx) hbd.1 (by omega) hhd (by omega))
            have HI1 := Aside0.mk i1
            clear i1 i2 hhd hnq
            obtain ⟨wtb, hwt⟩ : ∃ b, (!inG (g : Int) 1 wk) = b := ⟨_, rfl⟩
            rw [hwt] at HLk HI1
            go_upto_region 15 with (first
              | (go_at_call 11; (refine (HLk.out _ HSa.out).mono ?_); rintro e wb ⟨v4, ok4, rfl, hS, ho, hF⟩; have HSb := Aside0.mk hS; have HBb := Aside0.mk (HBa.out.trans hF.b); have HNb := Aside0.mk (show ¬ own B s ok4 (fun _ => False) gs from fun q => by rcases q with q | q | q; exact HN.out (.inl q); exact (ho _ q).elim (fun p => HN.out (.inr (.inl p))) (fun p => Nat.not_lt.2 p (blk_lt BSa.out)); exact q); have HN7b := Aside0.mk (show ¬ own B s ok4 (fun _ => False) g7 from fun q => by rcases q with q | q | q; exact HNo7.out (.inl q); exact (ho _ q).elim (fun p => HNo7.out (.inr (.inl p))) (fun p => Nat.not_lt.2 p (blk_lt B7a.out)); exact q); have BSb := Aside0.mk (hF.blk BSa.out HN.out); have B7b := Aside0.mk (hF.blk B7a.out HNo7.out); clear hS ho hF y0)
              | ((with_reducible refine gate_store (t := 29) (p := 7) (v := .tmp 53) rfl ?_); refine step_store rfl rfl rfl B7b.out rfl (u := .agg #[.bool wtb, .int .i64 0, .slice none 0 0]) (seg := [.bool wtb, .int .i64 0, .slice none 0 0]) rfl rfl (by kernel_rfl) (by simp [Value.oneCell']) (Nat.le_refl 3) (cur' := #[.bool wtb, .int .i64 0, .slice none 0 0]) rfl ?_; intro wcc hbs hgs hss; have HSc := Aside0.mk (HSb.out.grown hgs HN7b.out); have HBc := Aside0.mk (below_mput HBb.out hgs HE7.out HBb.out.size); have h7s : g7 ≠ gs := blk_ne B7b.out BSb.out (by decide); have BSc := Aside0.mk (blk_grown BSb.out hgs (fun e => h7s (Option.some.inj e).symm)); have B7c := Aside0.mk hbs; have y0 : wcc.cell? ⟨gs, g, none⟩ = some (.int .i64 0) := (blk_cell BSc.out g).trans ((stA_at (by have := HV.out.i.len; omega)).trans (by rw [HVv.out])); have z0 : wcc.frozen? ⟨gs, g, none⟩ = false := blk_frozen BSc.out g; clear hbs hgs hss h7s HSb HBb BSb B7b))
            go_upto_region 18 with (fail)
            obtain ⟨hb6, hg6⟩ := set_step BSc.out g (.int .i64 2) (stA_set st g 2)
            have h7s : g7 ≠ gs := blk_ne B7c.out BSc.out (by decide)
            have HSd := Aside0.mk (HSc.out.grown hg6 HNb.out)
            have HBd := Aside0.mk (below_mput HBc.out hg6 HLo.out HBc.out.size)
            have BSd := Aside0.mk hb6
            have B7d := Aside0.mk (blk_grown B7c.out hg6 (fun e => h7s (Option.some.inj e)))
            clear hb6 hg6 y0 z0 HSc HBc BSc B7c
            generalize wcc.setCell ⟨gs, g, none⟩ (.int .i64 2) = wd at *
            have t0 : wd.cell? ⟨g7, 0, none⟩ = some (.bool wtb) := (blk_cell B7d.out 0).trans rfl
            cases wtb with
            | false =>
              go_wp2
              go_meet
              case rel => exact ⟨st.set g 2, [], none, 0, false, lo1, rd1, q1, v4, ok4, rfl, HI1, ⟨fun k hk => absurd hk (Nat.not_lt_zero _)⟩, HSd, BSd, B7d, ⟨Kd.R_nil _ _ _ _ _⟩, HNb, HBd, ⟨by rw [List.length_set]; exact HV.out.i.len⟩⟩
            | true =>
              have y0 : wd.cell? ⟨gs, g, none⟩ = some (.int .i64 2) := (blk_cell BSd.out g).trans ((stA_at (by rw [List.length_set]; have := HV.out.i.len; omega)).trans (by rw [sn_set (by have := HV.out.i.len; omega), if_pos rfl]))
              have z0 : wd.frozen? ⟨gs, g, none⟩ = false := blk_frozen BSd.out g
              go_wp2
              obtain ⟨hb8, hg8'⟩ := set_step BSd.out g (.int .i64 1) (stA_set (st.set g 2) g 1)
              rw [List.set_set] at hb8
              go_meet
              case rel => exact ⟨st.set g 1, [], none, 0, true, lo1, rd1, q1, v4, ok4, rfl, HI1, ⟨fun k hk => absurd hk (Nat.not_lt_zero _)⟩, ⟨HSd.out.grown hg8' HNb.out⟩, ⟨hb8⟩, ⟨blk_grown B7d.out hg8' (fun e => h7s (Option.some.inj e))⟩, ⟨Kd.R_nil _ _ _ _ _⟩, HNb, ⟨below_mput HBd.out hg8' HLo.out HBd.out.size⟩, ⟨by rw [List.length_set]; exact HV.out.i.len⟩⟩
          · have hyb : (y8 == 0) = false := by simpa using hy
            have hbd := HV.out.i.bound
            obtain ⟨q1, lo1, rd1, wk, hhd⟩ : ∃ a c d e, handM (q ++ [⟨⟨(g : Int), 1⟩, true⟩]) lo rd = (a, c, d, e) := ⟨_, _, _, _, rfl⟩
            obtain ⟨i1, i2⟩ := HV.out.ask hg8 HVv.out true hhd
            have hnq : ∀ x ∈ q, (x.f0.f0 == (g : Int) && x.f0.f1 == (1 : Int)) = false := fun x hx => by
              obtain ⟨k, k1, k2, k3⟩ := HV.out.i.q1 x hx
              rw [Bool.and_eq_false_iff]
              refine .inl ?_
              rw [k2]
              have : k ≠ g := fun e => by rw [e, HVv.out] at k3; unfold wt at k3; cases hb : x.f1 <;> simp [hb] at k3
              simp; omega
            have HLk := Aside0.mk (fun W (hS : SY W w.heap.size s B 5 vl okl q lo rd 255 nilV (fun _ => False) [] 0) => rlock_calls w.heap.size s B 5 vl okl q lo rd 255 nilV (fun _ => False) [] 0 (g : Int) 1 W hS hnq (fun x hx => by cases hx) hbd.1 (by omega) hhd (by omega))
            have HI1 := Aside0.mk i1
            clear i1 i2 hhd hnq
            obtain ⟨wtb, hwt⟩ : ∃ b, (!inG (g : Int) 1 wk) = b := ⟨_, rfl⟩
            rw [hwt] at HLk HI1
            go_upto_region 17 with (first
              | (go_at_call 12; (refine (HLk.out _ HSa.out).mono ?_); rintro e wb ⟨v4, ok4, rfl, hS, ho, hF⟩; have HSb := Aside0.mk hS; have HBb := Aside0.mk (HBa.out.trans hF.b); have HNb := Aside0.mk (show ¬ own B s ok4 (fun _ => False) gs from fun q => by rcases q with q | q | q; exact HN.out (.inl q); exact (ho _ q).elim (fun p => HN.out (.inr (.inl p))) (fun p => Nat.not_lt.2 p (blk_lt BSa.out)); exact q); have HN7b := Aside0.mk (show ¬ own B s ok4 (fun _ => False) g7 from fun q => by rcases q with q | q | q; exact HNo7.out (.inl q); exact (ho _ q).elim (fun p => HNo7.out (.inr (.inl p))) (fun p => Nat.not_lt.2 p (blk_lt B7a.out)); exact q); have BSb := Aside0.mk (hF.blk BSa.out HN.out); have B7b := Aside0.mk (hF.blk B7a.out HNo7.out); clear hS ho hF y0)
              | ((with_reducible refine gate_store (t := 29) (p := 7) (v := .tmp 63) rfl ?_); refine step_store rfl rfl rfl B7b.out rfl (u := .agg #[.bool wtb, .int .i64 0, .slice none 0 0]) (seg := [.bool wtb, .int .i64 0, .slice none 0 0]) rfl rfl (by kernel_rfl) (by simp [Value.oneCell']) (Nat.le_refl 3) (cur' := #[.bool wtb, .int .i64 0, .slice none 0 0]) rfl ?_; intro wcc hbs hgs hss; have HSc := Aside0.mk (HSb.out.grown hgs HN7b.out); have HBc := Aside0.mk (below_mput HBb.out hgs HE7.out HBb.out.size); have h7s : g7 ≠ gs := blk_ne B7b.out BSb.out (by decide); have BSc := Aside0.mk (blk_grown BSb.out hgs (fun e => h7s (Option.some.inj e).symm)); have B7c := Aside0.mk hbs; have y0 : wcc.cell? ⟨gs, g, none⟩ = some (.int .i64 0) := (blk_cell BSc.out g).trans ((stA_at (by have := HV.out.i.len; omega)).trans (by rw [HVv.out])); have z0 : wcc.frozen? ⟨gs, g, none⟩ = false := blk_frozen BSc.out g; clear hbs hgs hss h7s HSb HBb BSb B7b))
            go_upto_region 18 with (fail)
            obtain ⟨hb6, hg6⟩ := set_step BSc.out g (.int .i64 4) (stA_set st g 4)
            have h7s : g7 ≠ gs := blk_ne B7c.out BSc.out (by decide)
            have HSd := Aside0.mk (HSc.out.grown hg6 HNb.out)
            have HBd := Aside0.mk (below_mput HBc.out hg6 HLo.out HBc.out.size)
            have BSd := Aside0.mk hb6
            have B7d := Aside0.mk (blk_grown B7c.out hg6 (fun e => h7s (Option.some.inj e)))
            clear hb6 hg6 y0 z0 HSc HBc BSc B7c
            generalize wcc.setCell ⟨gs, g, none⟩ (.int .i64 4) = wd at *
            have t0 : wd.cell? ⟨g7, 0, none⟩ = some (.bool wtb) := (blk_cell B7d.out 0).trans rfl
            cases wtb with
            | false =>
              go_wp2
              go_meet
              case rel => exact ⟨st.set g 4, [], none, 0, false, lo1, rd1, q1, v4, ok4, rfl, HI1, ⟨fun k hk => absurd hk (Nat.not_lt_zero _)⟩, HSd, BSd, B7d, ⟨Kd.R_nil _ _ _ _ _⟩, HNb, HBd, ⟨by rw [List.length_set]; exact HV.out.i.len⟩⟩
            | true =>
              have y0 : wd.cell? ⟨gs, g, none⟩ = some (.int .i64 4) := (blk_cell BSd.out g).trans ((stA_at (by rw [List.length_set]; have := HV.out.i.len; omega)).trans (by rw [sn_set (by have := HV.out.i.len; omega), if_pos rfl]))
              have z0 : wd.frozen? ⟨gs, g, none⟩ = false := blk_frozen BSd.out g
              go_wp2
              obtain ⟨hb8, hg8'⟩ := set_step BSd.out g (.int .i64 3) (stA_set (st.set g 4) g 3)
              rw [List.set_set] at hb8
              go_meet
              case rel => exact ⟨st.set g 3, [], none, 0, true, lo1, rd1, q1, v4, ok4, rfl, HI1, ⟨fun k hk => absurd hk (Nat.not_lt_zero _)⟩, ⟨HSd.out.grown hg8' HNb.out⟩, ⟨hb8⟩, ⟨blk_grown B7d.out hg8' (fun e => h7s (Option.some.inj e))⟩, ⟨Kd.R_nil _ _ _ _ _⟩, HNb, ⟨below_mput HBd.out hg8' HLo.out HBd.out.size⟩, ⟨by rw [List.length_set]; exact HV.out.i.len⟩⟩
        · clear hx
          go_wp2
          go_meet
          case rel => exact ⟨st, [], none, 0, false, lo, rd, q, vl, okl, rfl, HV, ⟨fun k hk => absurd hk (Nat.not_lt_zero _)⟩, HSa, BSa, B7a, ⟨Kd.R_nil _ _ _ _ _⟩, HN, HBa, ⟨HV.out.i.len⟩⟩
        · clear hx
          have hlg := HV.out.letgo hg8 false (rd) (.inl ⟨HVv.out, rfl, rfl⟩)
          have hbd := HV.out.i.bound
          obtain rfl := hlg.2.1 HVv.out
          obtain ⟨q1, lo1, rd1, wk, hhd⟩ : ∃ a b c d, handM q false (rd) = (a, b, c, d) := ⟨_, _, _, _, rfl⟩
          obtain ⟨i1, i2, i3⟩ := hand_inv _ _ _ _ hlg.1 hhd
          have HIv := Aside0.mk (show Inv (wk.foldl wake (st.set g 0)) lo1 rd1 q1 from ⟨i1, i2⟩)
          have HCk := Aside0.mk i3
          have HUn := Aside0.mk (fun W (hS : SY W w.heap.size s B 5 vl okl q true rd 255 nilV (fun _ => False) [] 0) => unlock_calls w.heap.size s B 5 vl okl q rd 255 nilV (fun _ => False) [] 0 W hS (by omega) (by omega) hhd)
          clear i1 i2 i3 hhd hlg
          go_upto_region 22 with (first
            | (go_at_call 13; (refine (HUn.out _ HSa.out).mono ?_); rintro e wb ⟨Aw, cw, v4, ok4, rfl, hS, hW, ho, hF⟩; have HSb := Aside0.mk hS; have HWb := Aside0.mk (Kd.R_mono (Kd.R_lower hW HBa.out.size) (fun k q => Nat.le_trans HBa.out.size q)); have HBb := Aside0.mk (HBa.out.trans hF.b); have HNb := Aside0.mk (show ¬ own B s ok4 (fun _ => False) gs from fun q => by rcases q with q | q | q; exact HN.out (.inl q); exact (ho _ q).elim (fun p => HN.out (.inr (.inl p))) (fun p => Nat.not_lt.2 p (blk_lt BSa.out)); exact q); have HN7b := Aside0.mk (show ¬ own B s ok4 (fun _ => False) g7 from fun q => by rcases q with q | q | q; exact HNo7.out (.inl q); exact (ho _ q).elim (fun p => HNo7.out (.inr (.inl p))) (fun p => Nat.not_lt.2 p (blk_lt B7a.out)); exact q); have BSb := Aside0.mk (hF.blk BSa.out HN.out); have B7b := Aside0.mk (hF.blk B7a.out HNo7.out); clear hS hW ho hF y0)
            | ((with_reducible refine gate_store (t := 29) (p := 7) (v := .tmp 79) rfl ?_); refine step_store rfl rfl rfl B7b.out rfl (u := .agg #[.bool false, .int .i64 0, .slice Aw wk.length cw]) (seg := [.bool false, .int .i64 0, .slice Aw wk.length cw]) rfl rfl (by kernel_rfl) (by simp [Value.oneCell']) (Nat.le_refl 3) (cur' := #[.bool false, .int .i64 0, .slice Aw wk.length cw]) rfl ?_; intro wcc hbs hgs hss; have HSc := Aside0.mk (HSb.out.grown hgs HN7b.out); have HBc := Aside0.mk (below_mput HBb.out hgs HE7.out HBb.out.size); have h7s : g7 ≠ gs := blk_ne B7b.out BSb.out (by decide); have BSc := Aside0.mk (blk_grown BSb.out hgs (fun e => h7s (Option.some.inj e).symm)); have HWc := Aside0.mk (Kd.R_mono (Kd.R_grown (Kd.R_types HWb.out B7b.out (by decide)) hgs (fun k q e => q.2 (Option.some.inj e))) (fun k q => q.1)); have B7c := Aside0.mk hbs; have y0 : wcc.cell? ⟨gs, g, none⟩ = some (.int .i64 2) := (blk_cell BSc.out g).trans ((stA_at (by have := HV.out.i.len; omega)).trans (by rw [HVv.out])); have z0 : wcc.frozen? ⟨gs, g, none⟩ = false := blk_frozen BSc.out g; clear hbs hgs hss h7s HSb HBb BSb HWb B7b))
          go_wp2
          obtain ⟨hb6, hg6⟩ := set_step BSc.out g (.int .i64 0) (stA_set st g 0)
          have h7s : g7 ≠ gs := blk_ne B7c.out BSc.out (by decide)
          go_meet
          case rel => exact ⟨st.set g 0, wk, Aw, cw, false, lo1, rd1, q1, v4, ok4, rfl, HIv, HCk, ⟨HSc.out.grown hg6 HNb.out⟩, ⟨hb6⟩, ⟨blk_grown B7c.out hg6 (fun e => h7s (Option.some.inj e))⟩, ⟨Kd.R_mono (Kd.R_grown (Kd.R_types HWc.out BSc.out (by decide)) hg6 (fun k q e => q.2 (Option.some.inj e))) (fun k q => q.1)⟩, HNb, ⟨below_mput HBc.out hg6 HLo.out HBc.out.size⟩, ⟨by rw [List.length_set]; exact HV.out.i.len⟩⟩
        · clear hx
          go_wp2
          go_meet
          case rel => exact ⟨st, [], none, 0, false, lo, rd, q, vl, okl, rfl, HV, ⟨fun k hk => absurd hk (Nat.not_lt_zero _)⟩, HSa, BSa, B7a, ⟨Kd.R_nil _ _ _ _ _⟩, HN, HBa, ⟨HV.out.i.len⟩⟩
        · clear hx
          have hlg := HV.out.letgo hg8 false (rd - 1) (.inr ⟨HVv.out, (HV.out.letgo hg8 lo (rd - 1) (.inr ⟨HVv.out, rfl, rfl⟩)).2.2 HVv.out |>.2.symm, rfl⟩)
          have hbd := HV.out.i.bound
          obtain ⟨hrp, rfl⟩ := hlg.2.2 HVv.out
          obtain ⟨q1, lo1, rd1, wk, hhd⟩ : ∃ a b c d, handM q false (rd - 1) = (a, b, c, d) := ⟨_, _, _, _, rfl⟩
          obtain ⟨i1, i2, i3⟩ := hand_inv _ _ _ _ hlg.1 hhd
          have HIv := Aside0.mk (show Inv (wk.foldl wake (st.set g 0)) lo1 rd1 q1 from ⟨i1, i2⟩)
          have HCk := Aside0.mk i3
          have HUn := Aside0.mk (fun W (hS : SY W w.heap.size s B 5 vl okl q false rd 255 nilV (fun _ => False) [] 0) => runlock_calls w.heap.size s B 5 vl okl q rd 255 nilV (fun _ => False) [] 0 W hS (by omega) (by omega) hhd)
          clear i1 i2 i3 hhd hlg
          go_upto_region 25 with (first
            | (go_at_call 14; (refine (HUn.out _ HSa.out).mono ?_); rintro e wb ⟨Aw, cw, v4, ok4, rfl, hS, hW, ho, hF⟩; have HSb := Aside0.mk hS; have HWb := Aside0.mk (Kd.R_mono (Kd.R_lower hW HBa.out.size) (fun k q => Nat.le_trans HBa.out.size q)); have HBb := Aside0.mk (HBa.out.trans hF.b); have HNb := Aside0.mk (show ¬ own B s ok4 (fun _ => False) gs from fun q => by rcases q with q | q | q; exact HN.out (.inl q); exact (ho _ q).elim (fun p => HN.out (.inr (.inl p))) (fun p => Nat.not_lt.2 p (blk_lt BSa.out)); exact q); have HN7b := Aside0.mk (show ¬ own B s ok4 (fun _ => False) g7 from fun q => by rcases q with q | q | q; exact HNo7.out (.inl q); exact (ho _ q).elim (fun p => HNo7.out (.inr (.inl p))) (fun p => Nat.not_lt.2 p (blk_lt B7a.out)); exact q); have BSb := Aside0.mk (hF.blk BSa.out HN.out); have B7b := Aside0.mk (hF.blk B7a.out HNo7.out); clear hS hW ho hF y0)
            | ((with_reducible refine gate_store (t := 29) (p := 7) (v := .tmp 86) rfl ?_); refine step_store rfl rfl rfl B7b.out rfl (u := .agg #[.bool false, .int .i64 0, .slice Aw wk.length cw]) (seg := [.bool false, .int .i64 0, .slice Aw wk.length cw]) rfl rfl (by kernel_rfl) (by simp [Value.oneCell']) (Nat.le_refl 3) (cur' := #[.bool false, .int .i64 0, .slice Aw wk.length cw]) rfl ?_; intro wcc hbs hgs hss; have HSc := Aside0.mk (HSb.out.grown hgs HN7b.out); have HBc := Aside0.mk (below_mput HBb.out hgs HE7.out HBb.out.size); have h7s : g7 ≠ gs := blk_ne B7b.out BSb.out (by decide); have BSc := Aside0.mk (blk_grown BSb.out hgs (fun e => h7s (Option.some.inj e).symm)); have HWc := Aside0.mk (Kd.R_mono (Kd.R_grown (Kd.R_types HWb.out B7b.out (by decide)) hgs (fun k q e => q.2 (Option.some.inj e))) (fun k q => q.1)); have B7c := Aside0.mk hbs; have y0 : wcc.cell? ⟨gs, g, none⟩ = some (.int .i64 4) := (blk_cell BSc.out g).trans ((stA_at (by have := HV.out.i.len; omega)).trans (by rw [HVv.out])); have z0 : wcc.frozen? ⟨gs, g, none⟩ = false := blk_frozen BSc.out g; clear hbs hgs hss h7s HSb HBb BSb HWb B7b))
          go_wp2
          obtain ⟨hb6, hg6⟩ := set_step BSc.out g (.int .i64 0) (stA_set st g 0)
          have h7s : g7 ≠ gs := blk_ne B7c.out BSc.out (by decide)
          go_meet
          case rel => exact ⟨st.set g 0, wk, Aw, cw, false, lo1, rd1, q1, v4, ok4, rfl, HIv, HCk, ⟨HSc.out.grown hg6 HNb.out⟩, ⟨hb6⟩, ⟨blk_grown B7c.out hg6 (fun e => h7s (Option.some.inj e))⟩, ⟨Kd.R_mono (Kd.R_grown (Kd.R_types HWc.out BSc.out (by decide)) hg6 (fun k q e => q.2 (Option.some.inj e))) (fun k q => q.1)⟩, HNb, ⟨below_mput HBc.out hg6 HLo.out HBc.out.size⟩, ⟨by rw [List.length_set]; exact HV.out.i.len⟩⟩

      case rest =>
        obtain ⟨st1, wk, Aw, cw, wtv, lo1, rd1, q1, vl1, okl1, rfl, HIv, HCk, HSz, BSz, B7z, HWz, HNz, HBz, HL1⟩ := hcut
        clear HSa BSa B7a HBa y0 HNo7 HVv hval HV HS BS HN HB hx HX0 hb7 hb8 hgw HE7 HN7
        have HWy := Aside0.mk (Kd.R_types HWz.out BSz.out (by decide))
        have HG7 := Aside0.mk (show g7 ≠ gs from blk_ne B7z.out BSz.out (by decide))
        have t1 : wc.cell? ⟨g7, 1, none⟩ = some (.int .i64 0) := (blk_cell B7z.out 1).trans rfl
        go_wp2
        clear t1
        go_loopw [9] (fun v9 wr2 => ∃ k : Nat, v9 = .int .i64 (k : Int) ∧ Aside0 (k ≤ (wk : List S34).length) ∧ Aside0 (wr2.heap[gs]? = some (.cells (stA (((wk : List S34).take k).foldl wake (st1))) 3 (0, 0))) ∧ Aside0 (Kept wc wr2 (fun b => b = gs)) ∧ Aside0 (Below w.heap.size w wr2)) (fun v9 _ => (wk : List S34).length - (intOf v9).toNat)
        case atStart => exact ⟨0, rfl, ⟨Nat.zero_le _⟩, BSz, ⟨Kept.refl _ _⟩, HBz⟩
        case round =>
          obtain ⟨k, rfl, HK1, BSr, HKr, HBr⟩ := hrel
          have B7r := Aside0.mk (blk_kept B7z.out HKr.out (fun e => HG7.out e))
          have HWr := Aside0.mk (Kd.R_kept HWy.out HKr.out (fun k q e => q.2 e))
          have hst8 : ∀ k, (((wk : List S34).take k).foldl wake (st1)).length = 8 := fun k => (wake_len _ _).trans HL1.out
          have t2 : wr.cell? ⟨g7, 2, none⟩ = some (.slice Aw (wk : List S34).length cw) := (blk_cell B7r.out 2).trans rfl
          by_cases hkl : (k : Int) < ((wk : List S34).length : Int)
          · have hkl' : k < (wk : List S34).length := by omega
            have hk0 : (0 : Int) ≤ (k : Int) := by omega
            obtain ⟨c1, c2, c3⟩ := HCk.out k hkl'
            obtain ⟨adw, hadw, r0, -⟩ := at_T34 (Kd.R_reads' HWr.out).2.2 (k : Int) hk0 hkl
            rw [show rd_T34 (wk) (k : Int) = (wk : List S34)[k] from by simp [rd_T34, hkl'], Int.toNat_natCast] at r0
            rw [hadw] at t2
            have hstep : (((wk : List S34).take (k + 1)).foldl wake (st1)) = wake (((wk : List S34).take k).foldl wake (st1)) (wk : List S34)[k] := by rw [List.take_succ_eq_append_getElem hkl', List.foldl_append]; rfl
            have h8 := hst8 k
            generalize hsk : (((wk : List S34).take k).foldl wake (st1)) = sk at c3 hstep h8 BSr
            generalize hwk : (wk : List S34)[k] = wx at c1 c2 c3 hstep r0
            obtain ⟨m, hm⟩ : ∃ m : Nat, wx.f0 = (m : Int) := ⟨wx.f0.toNat, by omega⟩
            have hm8 : m < 8 := by omega
            rw [show wake sk wx = sk.set wx.f0.toNat (sn sk wx.f0.toNat + 1) from rfl] at hstep
            rw [hm, Int.toNat_natCast] at c3 hstep
            have hwx := Kd.C_max (Kd.R_reads' HWr.out).2.2
            rw [hm] at r0
            have y0 : wr.cell? ⟨gs, m, none⟩ = some (.int .i64 (sn sk m)) := (blk_cell BSr.out m).trans (stA_at (by omega))
            have z0 : wr.frozen? ⟨gs, m, none⟩ = false := blk_frozen BSr.out m
            have hm0 : (0 : Int) ≤ (m : Int) := by omega
            have hm7 : decide ((7 : Int) < (m : Int)) = false := decide_eq_false (by omega)
            have hm9 : (m : Int) < (8 : Int) := by omega
            have hmn : decide ((m : Int) < (0 : Int)) = false := decide_eq_false (by omega)
            generalize hvx : sn sk m = vx at c3 y0 hstep
            clear hsk hwk hvx hst8 hadw hm c1 c2
            have HST := Aside0.mk hstep
            rcases c3 with rfl | rfl
            all_goals
              clear hstep
              go_wp2
              first
                | (obtain ⟨hb6, hg6⟩ := set_step BSr.out m (.int .i64 2) (stA_set sk m 2)
                   go_roundw
                   case rel => exact ⟨k + 1, by go_num, ⟨hkl'⟩, ⟨by rw [HST.out]; exact hb6⟩, ⟨Kept.of_grown hg6 HKr.out (fun k hk => .inl (Option.some.inj hk).symm)⟩, ⟨below_mput HBr.out hg6 HLo.out HBr.out.size⟩⟩
                   case measure => simp [intOf]; omega)
                | (obtain ⟨hb6, hg6⟩ := set_step BSr.out m (.int .i64 4) (stA_set sk m 4)
                   go_roundw
                   case rel => exact ⟨k + 1, by go_num, ⟨hkl'⟩, ⟨by rw [HST.out]; exact hb6⟩, ⟨Kept.of_grown hg6 HKr.out (fun k hk => .inl (Option.some.inj hk).symm)⟩, ⟨below_mput HBr.out hg6 HLo.out HBr.out.size⟩⟩
                   case measure => simp [intOf]; omega)
          · have hkk : k = (wk : List S34).length := by have := HK1.out; omega
            have BSe := Aside0.mk (show wr.heap[gs]? = some (.cells (stA ((wk : List S34).foldl wake (st1))) 3 (0, 0)) from by have h := BSr.out; rw [hkk, List.take_length] at h; exact h)
            have HSe := Aside0.mk (HSz.out.kept HKr.out (fun b q e => HNz.out (e ▸ q)))
            have hl8 : ((wk : List S34).foldl wake (st1)).length = 8 := HIv.out.i.len
            have hval := HIv.out.i.val
            obtain ⟨d1, d2, d3⟩ := HIv.out.fine
            have HIe := HIv
            obtain ⟨sf, hsf⟩ : ∃ sf, (wk : List S34).foldl wake (st1) = sf := ⟨_, rfl⟩
            rw [hsf] at BSe hl8 hval d1 d2 d3 HIe
            clear hsf hst8
            go_wp2
            obtain ⟨nb, hnb⟩ : ∃ wb : World, wr = wb := ⟨_, rfl⟩
            subst hnb
            have HBw := Aside0.mk HBr.out
            go_loopw [11, 12, 13, 14] (fun v11 v12 v13 v14 w3 => ∃ j : Nat, v14 = .int .i64 (j : Int) ∧ v11 = .int .i64 ((sf.take j).count 2 : Int) ∧ v12 = .int .i64 ((sf.take j).count 4 : Int) ∧ v13 = .int .i64 (((sf.take j).count 1 + (sf.take j).count 3 : Nat) : Int) ∧ Aside0 (j ≤ 8) ∧ Aside0 (Below wr.heap.size wr w3)) (fun _ _ _ v14 _ => 8 - (intOf v14).toNat)
            case atStart => exact ⟨0, rfl, rfl, rfl, rfl, ⟨Nat.zero_le _⟩, ⟨Below.refl _ _⟩⟩
            case round =>
              rename_i wl
              obtain ⟨j, rfl, rfl, rfl, rfl, HJ, HBj⟩ := hrel
              have BSj := Aside0.mk (blk_below BSe.out HBj.out)
              obtain ⟨a2, ha2⟩ : ∃ a, (sf.take j).count 2 = a := ⟨_, rfl⟩
              obtain ⟨a4, ha4⟩ : ∃ a, (sf.take j).count 4 = a := ⟨_, rfl⟩
              obtain ⟨aw, haw⟩ : ∃ a, (sf.take j).count 1 + (sf.take j).count 3 = a := ⟨_, rfl⟩
              have hb2 : a2 ≤ 8 := by rw [← ha2]; exact Nat.le_trans List.count_le_length (by rw [List.length_take]; omega)
              have hb4 : a4 ≤ 8 := by rw [← ha4]; exact Nat.le_trans List.count_le_length (by rw [List.length_take]; omega)
              have hbw : aw ≤ 16 := by rw [← haw]; have h1 := List.count_le_length (l := sf.take j) (a := (1 : Int)); have h3 := List.count_le_length (l := sf.take j) (a := (3 : Int)); rw [List.length_take] at h1 h3; omega
              by_cases hj : (j : Int) < (8 : Int)
              · have hj8 : j < 8 := by omega
                have hj0 : (0 : Int) ≤ (j : Int) := by omega
                have y0 : wr.cell? ⟨gs, j, none⟩ = some (.int .i64 (sn sf j)) := (blk_cell BSj.out j).trans (stA_at (by omega))
                have k1 := cnt_take (l := sf) (i := j) (by omega) 1
                have k2 := cnt_take (l := sf) (i := j) (by omega) 2
                have k3 := cnt_take (l := sf) (i := j) (by omega) 3
                have k4 := cnt_take (l := sf) (i := j) (by omega) 4
                have hvj := hval j hj8
                generalize sn sf j = vj at y0 k1 k2 k3 k4 hvj
                rw [ha2] at k2 ⊢
                rw [ha4] at k4 ⊢
                rw [haw]
                have kw : (sf.take (j + 1)).count 1 + (sf.take (j + 1)).count 3 = aw + ((if vj = 1 then 1 else 0) + (if vj = 3 then 1 else 0)) := by omega
                have K2 := Aside0.mk k2
                have K4 := Aside0.mk k4
                have KW := Aside0.mk kw
                clear k1 k2 k3 k4 kw ha2 ha4 haw
                rcases hvj with rfl | rfl | rfl | rfl | rfl
                all_goals
                  go_wp2
                  go_roundw
                  case rel => exact ⟨j + 1, by go_num, by rw [K2.out]; first | rfl | (simp; done) | go_num, by rw [K4.out]; first | rfl | (simp; done) | go_num, by rw [KW.out]; first | rfl | (simp; done) | go_num, ⟨hj8⟩, HBj⟩
                  case measure => simp [intOf]; omega
              · have hj8 : j = 8 := by have := HJ.out; omega
                have htk : sf.take j = sf := List.take_of_length_le (by omega)
                rw [htk] at ha2 ha4 haw
                rw [ha2] at d1 d2 d3
                rw [ha4] at d2 d3
                rw [haw] at d3
                rw [htk, ha2, ha4, haw]
                have HSf := Aside0.mk (HSe.out.below HBj.out)
                have HBf := Aside0.mk (below_step HBw.out HBj.out)
                have h3 : (a2 = 1 ∧ a4 = 0) ∨ (a2 = 0 ∧ a4 = 0 ∧ aw = 0) ∨ (a2 = 0 ∧ 0 < a4) := by omega
                clear htk ha2 ha4 haw d1 d2 d3
                rcases h3 with ⟨rfl, rfl⟩ | ⟨rfl, rfl, rfl⟩ | ⟨rfl, h4⟩
                · go_wp2
                  go_roundw
                  case rel => exact ⟨i + 1, sf, _, _, _, _, _, by go_num, ⟨hin⟩, HIe, HSf, BSj, HNz, HBf⟩
                  case measure => simp [intOf]; omega
                · go_wp2
                  go_roundw
                  case rel => exact ⟨i + 1, sf, _, _, _, _, _, by go_num, ⟨hin⟩, HIe, HSf, BSj, HNz, HBf⟩
                  case measure => simp [intOf]; omega
                · have hw4 : wrap64 (a4 : Int) = (a4 : Int) := wrap_s a4 (by omega)
                  have hz4 : ((a4 : Int) == 0) = false := ne_z a4 h4
                  go_wp2
                  go_roundw
                  case rel => exact ⟨i + 1, sf, _, _, _, _, _, by go_num, ⟨hin⟩, HIe, HSf, BSj, HNz, HBf⟩
                  case measure => simp [intOf]; omega

    · go_wp2
      go_ret
      exact ⟨rfl, HB.out⟩
end Go.Proofs.YtielcanihooagaaDoor.PSemaExcludes
