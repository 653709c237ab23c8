/- lives: the program's mutex is locked once. Conditions: each theorem's own. -/
import Derived.Test.YtielcanihooagaaDoorSnw
set_option linter.unusedVariables false
set_option linter.unusedSimpArgs false
namespace Go.Proofs.YtielcanihooagaaDoor.PSemaExcludes
open Go.RowKit Go.Proofs.YtielcanihooagaaDoor.Ef Go.Proofs.YtielcanihooagaaDoor.Mp Go.Proofs.YtielcanihooagaaDoorW.PrintWords Go.Proofs.YtielcanihooagaaDoorW.PrintLast Go.Proofs.YtielcanihooagaaDoorW.PrintMore

set_option maxHeartbeats 4000000 in
set_option maxRecDepth 100000 in
theorem lives_calls (w : World) : Calls Tryd.prog 8 #[] w fun e w' => e = .returned (.bool true) ∧ Below w.heap.size w w' := by
  have hu29 := Tryd.underlying29
  have TK := Aside0.mk trivial
  go_enter Tryd.func8, Tryd.ntmps8
  go_wp2_with (first
    | (go_at_call 7; (refine (new_calls 0 255 (by decide) (by decide) _).mono ?_); rintro e w1 ⟨s, B, rfl, hS, hb⟩; have HS1 := Aside0.mk hS; have HB1 := Aside0.mk hb; clear hS hb)
    | (go_at_call 11; clear TK; (refine (lock_calls w.heap.size s B 0 nilV _ [] false 0 255 nilV _ [] 0 1 0 _ HS1.out (fun x hx => by cases hx) (fun x hx => by cases hx) (Int.le_refl 0) (by decide) (q' := []) (lo' := true) (rd' := 0) (wk := [⟨1, 0⟩]) rfl (by decide)).mono ?_); rintro e w2 ⟨v2, ok2, rfl, hS, ho, hF⟩; have HS2 := Aside0.mk hS; have HB2 := Aside0.mk (HB1.out.trans hF.b); clear hS ho hF HS1 HB1)
    | ((with_reducible refine gate_dst (N := 2) rfl ?_); refine box_event ?hg (N := 2) ?hd (cs := #[.bool false, .int .i64 0, .slice none 0 0]) (t := 29) ?hr ?_; (case hd => rfl); (case hg => rfl); (case hr => first | (go_simp; done) | (go_simp; rfl)); intro g2 hgN w3 hbox hb; have HE2 := Aside0.mk (show w.heap.size ≤ g2 from by have := HB2.out.size; omega); have HN2 := Aside0.mk (show w2.heap.size ≤ g2 by omega); have HS3 := Aside0.mk (HS2.out.below hb); have HB3 := Aside0.mk (below_step HB2.out hb); have B2 := Aside0.mk hbox; clear hb hbox hgN HB2)
    | ((with_reducible refine gate_store (t := 29) (p := 2) (v := .tmp 13) rfl ?_); refine step_store rfl rfl rfl B2.out rfl (u := .agg #[.bool (!inG 1 0 [⟨1, 0⟩]), .int .i64 0, .slice none 0 0]) (seg := [.bool false, .int .i64 0, .slice none 0 0]) rfl rfl (by kernel_rfl) (by simp [Value.oneCell']) (Nat.le_refl 3) (cur' := #[.bool false, .int .i64 0, .slice none 0 0]) rfl ?_; intro w4 hbs hgs hss; have HS4 := Aside0.mk (HS3.out.grown hgs (fun q => Nat.not_lt.2 HN2.out (HS2.out.lt _ q))); have HB4 := Aside0.mk (below_mput HB3.out hgs HE2.out HB3.out.size); have B24 := Aside0.mk hbs; clear hbs hgs hss HS3 HB3 B2)
    | (go_at_call 11; (refine (lock_calls w.heap.size s B 0 v2 _ [] true 0 255 nilV _ [] 0 2 0 _ HS4.out (fun x hx => by cases hx) (fun x hx => by cases hx) (Int.le_refl 0) (by decide) (q' := [⟨⟨2, 0⟩, false⟩]) (lo' := true) (rd' := 0) (wk := []) rfl (by decide)).mono ?_); rintro e w5 ⟨v5, ok5, rfl, hS, ho, hF⟩; have HB5 := Aside0.mk (HB4.out.trans hF.b); have B25 := Aside0.mk (hF.blk B24.out (fun q => Nat.not_lt.2 HN2.out (HS2.out.lt _ q))); clear hS ho hF HB4 B24)
    | ((with_reducible refine gate_dst (N := 4) rfl ?_); refine box_event ?hg (N := 4) ?hd (cs := #[.bool false, .int .i64 0, .slice none 0 0]) (t := 29) ?hr ?_; (case hd => rfl); (case hg => rfl); (case hr => first | (go_simp; done) | (go_simp; rfl)); intro g4 hgN w6 hbox hb; have HE4 := Aside0.mk (show w.heap.size ≤ g4 from by have := HB5.out.size; omega); have HN24 := Aside0.mk (show g4 ≠ g2 from by have := blk_lt B25.out; omega); have HB6 := Aside0.mk (below_step HB5.out hb); have B26 := Aside0.mk (blk_below B25.out hb); have B4 := Aside0.mk hbox; clear hb hbox hgN HB5 B25)
    | ((with_reducible refine gate_store (t := 29) (p := 4) (v := .tmp 19) rfl ?_); refine step_store rfl rfl rfl B4.out rfl (u := .agg #[.bool (!inG 2 0 []), .int .i64 0, .slice none 0 0]) (seg := [.bool true, .int .i64 0, .slice none 0 0]) rfl rfl (by kernel_rfl) (by simp [Value.oneCell']) (Nat.le_refl 3) (cur' := #[.bool true, .int .i64 0, .slice none 0 0]) rfl ?_; intro w7 hbs hgs hss; have HB7 := Aside0.mk (below_mput HB6.out hgs HE4.out HB6.out.size); have B27 := Aside0.mk (blk_grown B26.out hgs (fun e => HN24.out (Option.some.inj e).symm)); have B47 := Aside0.mk hbs; clear hbs hgs hss HB6 B26 B4; have t0 : w7.cell? ⟨g2, 0, none⟩ = some (.bool false) := (blk_cell B27.out 0).trans rfl; have t1 : w7.cell? ⟨g4, 0, none⟩ = some (.bool true) := (blk_cell B47.out 0).trans rfl))
  go_ret
  exact ⟨rfl, HB7.out⟩
end Go.Proofs.YtielcanihooagaaDoor.PSemaExcludes
