/- Pop; and each call of a heap told by what it holds (HP). Conditions: each theorem's own. -/
import Derived.Test.YtceopcfmhidjlaaTdr
import Derived.Deep.RegionHeld3
set_option linter.unusedVariables false
set_option linter.unusedSimpArgs false
namespace Go.Proofs.Ytceopcfmhidjlaa.PTimerPlays
open Go.RowKit Go.Proofs.Ytceopcfmhidjlaa.Ef Go.Proofs.Ytceopcfmhidjlaa.Mp Go.Proofs.Ytceopcfmhidjlaa.Hp Go.Proofs.YtceopcfmhidjlaaW.PrintWords Go.Proofs.YtceopcfmhidjlaaW.PrintLast Go.Proofs.YtceopcfmhidjlaaW.PrintMore

theorem blk_drew {W : World} {g : Nat} {o : Obj} (h : W.heap[g]? = some o) : W.drew.heap[g]? = some o := h
set_option maxHeartbeats 8000000 in
set_option maxRecDepth 100000 in
theorem pop_some (base p mb : Nat) (v : Value) (ok : Nat → Prop) (l : List NI) (m : List (Int × Int)) (next : Int) (w : World) (H : HeapAt w base p mb v ok l m next) (hI : Inv l m) (hl : 0 < l.length) (hsm : l.length ≤ 1000000000000000000) :
    Calls Try.prog 32 #[.pointer (some ⟨p, 0, none⟩)] w fun e w' => ∃ v', e = .returned (.tuple #[.int .u64 (nd l 0).when, .int .i64 (nd l 0).num, .agg #[.int .i64 (nd l 0).val.f0, .int .i64 (nd l 0).val.f1, .int .i64 (nd l 0).val.f2.f0, .int .i64 (nd l 0).val.f2.f1, .int .i64 (nd l 0).val.f3, .int .u64 (nd l 0).val.f4, .bool (nd l 0).val.f5, .int .u64 (nd l 0).val.f6], .int .i64 0]) ∧ HeapAt w' base p mb v' ok (dropA l m (nd l 0).num 0).1 (dropA l m (nd l 0).num 0).2 next ∧ Fr base ok w w' := by
  have HH := Aside0.mk H
  have HF := Aside0.mk (Fr.refl H.le H.low)
  have HK := Aside0.mk (hI.2.1.1 0 hl)
  have HI := Aside0.mk hI
  clear H hI
  go_enter Try.func32, Try.ntmps32
  go_wp2_with (first
    | ((with_reducible refine gate_dst (N := 4) rfl ?_); refine box_event ?hg (N := 4) ?hd (cs := #[.int .i64 0, .int .i64 0, .int .i64 0, .int .i64 0, .int .i64 0, .int .u64 0, .bool false, .int .u64 0]) (t := 40) ?hr ?_; (case hd => rfl); (case hg => rfl); (case hr => first | (go_simp; done) | (go_simp; rfl)); intro g4 hg4 w1 hbox hb; have HF1 := Aside0.mk (HF.out.below hb); have B4 := Aside0.mk hbox; have HG4 := Aside0.mk (show w.heap.size ≤ g4 by omega); have HNo := Aside0.mk (show ¬ ok g4 from HH.out.new (by omega)); have HA1 := Aside0.mk (HH.out.below hb); clear HF hbox hb hg4)
    | (go_at_call 31; (refine (top_some base p mb v ok l m next _ HA1.out hl).mono ?_); rintro e w2 ⟨rfl, hb⟩; have HF2 := Aside0.mk (HF1.out.below hb); have HA2 := Aside0.mk (HA1.out.below hb); have B42 := Aside0.mk (blk_below B4.out hb); clear hb HF1 HA1 B4)
    | ((with_reducible refine gate_store (t := 40) (p := 4) (v := .tmp 11) rfl ?_); refine step_store rfl rfl rfl B42.out rfl (u := .agg #[.int .i64 (nd l 0).val.f0, .int .i64 (nd l 0).val.f1, .int .i64 (nd l 0).val.f2.f0, .int .i64 (nd l 0).val.f2.f1, .int .i64 (nd l 0).val.f3, .int .u64 (nd l 0).val.f4, .bool (nd l 0).val.f5, .int .u64 (nd l 0).val.f6]) (seg := [.int .i64 (nd l 0).val.f0, .int .i64 (nd l 0).val.f1, .int .i64 (nd l 0).val.f2.f0, .int .i64 (nd l 0).val.f2.f1, .int .i64 (nd l 0).val.f3, .int .u64 (nd l 0).val.f4, .bool (nd l 0).val.f5, .int .u64 (nd l 0).val.f6]) rfl rfl (by kernel_rfl) (by simp [Value.oneCell']) (Nat.le_refl 8) (cur' := #[.int .i64 (nd l 0).val.f0, .int .i64 (nd l 0).val.f1, .int .i64 (nd l 0).val.f2.f0, .int .i64 (nd l 0).val.f2.f1, .int .i64 (nd l 0).val.f3, .int .u64 (nd l 0).val.f4, .bool (nd l 0).val.f5, .int .u64 (nd l 0).val.f6]) rfl ?_; intro w3 hb3 hg3 hs3; have HF3 := Aside0.mk (HF2.out.grown hg3 (.inr HG4.out)); have HA3 := Aside0.mk (HA2.out.grown hg3 HNo.out); have B43 := Aside0.mk hb3; clear hb3 hg3 hs3 HF2 HA2 B42)
    | (go_at_call 30; (refine (drop_calls base p mb v ok l m next (nd l 0).num 0 _ HA3.out HI.out HK.out hl hsm).mono ?_); rintro e w4 ⟨v', rfl, hA, hF⟩; have HA4 := Aside0.mk hA; have HF4 := Aside0.mk (HF3.out.then_ hF (Nat.le_refl _) (fun k q => .inl q)); have B44 := Aside0.mk (hF.blk B43.out HNo.out); have v0 : w4.cell? ⟨g4, 0, none⟩ = some (.int .i64 (nd l 0).val.f0) := (blk_cell B44.out 0).trans rfl; have v1 : w4.cell? ⟨g4, 1, none⟩ = some (.int .i64 (nd l 0).val.f1) := (blk_cell B44.out 1).trans rfl; have v2 : w4.cell? ⟨g4, 2, none⟩ = some (.int .i64 (nd l 0).val.f2.f0) := (blk_cell B44.out 2).trans rfl; have v3 : w4.cell? ⟨g4, 3, none⟩ = some (.int .i64 (nd l 0).val.f2.f1) := (blk_cell B44.out 3).trans rfl; have v4 : w4.cell? ⟨g4, 4, none⟩ = some (.int .i64 (nd l 0).val.f3) := (blk_cell B44.out 4).trans rfl; have v5 : w4.cell? ⟨g4, 5, none⟩ = some (.int .u64 (nd l 0).val.f4) := (blk_cell B44.out 5).trans rfl; have v6 : w4.cell? ⟨g4, 6, none⟩ = some (.bool (nd l 0).val.f5) := (blk_cell B44.out 6).trans rfl; have v7 : w4.cell? ⟨g4, 7, none⟩ = some (.int .u64 (nd l 0).val.f6) := (blk_cell B44.out 7).trans rfl; clear hA hF HA3 HF3 B43))
  have z0 := blk_frozen B44.out 0
  have z1 := blk_frozen B44.out 1
  have z2 := blk_frozen B44.out 2
  have z3 := blk_frozen B44.out 3
  have z4 := blk_frozen B44.out 4
  have z5 := blk_frozen B44.out 5
  have z6 := blk_frozen B44.out 6
  have z7 := blk_frozen B44.out 7
  have q0 := set_step (cur' := #[.int .i64 (nd l 0).val.f0, .int .i64 (nd l 0).val.f1, .int .i64 (nd l 0).val.f2.f0, .int .i64 (nd l 0).val.f2.f1, .int .i64 (nd l 0).val.f3, .int .u64 (nd l 0).val.f4, .bool (nd l 0).val.f5, .int .u64 (nd l 0).val.f6]) B44.out 0 (.int .i64 (nd l 0).val.f0) rfl
  have q1 := set_step (cur' := #[.int .i64 (nd l 0).val.f0, .int .i64 (nd l 0).val.f1, .int .i64 (nd l 0).val.f2.f0, .int .i64 (nd l 0).val.f2.f1, .int .i64 (nd l 0).val.f3, .int .u64 (nd l 0).val.f4, .bool (nd l 0).val.f5, .int .u64 (nd l 0).val.f6]) q0.1 1 (.int .i64 (nd l 0).val.f1) rfl
  have q2 := set_step (cur' := #[.int .i64 (nd l 0).val.f0, .int .i64 (nd l 0).val.f1, .int .i64 (nd l 0).val.f2.f0, .int .i64 (nd l 0).val.f2.f1, .int .i64 (nd l 0).val.f3, .int .u64 (nd l 0).val.f4, .bool (nd l 0).val.f5, .int .u64 (nd l 0).val.f6]) q1.1 2 (.int .i64 (nd l 0).val.f2.f0) rfl
  have q3 := set_step (cur' := #[.int .i64 (nd l 0).val.f0, .int .i64 (nd l 0).val.f1, .int .i64 (nd l 0).val.f2.f0, .int .i64 (nd l 0).val.f2.f1, .int .i64 (nd l 0).val.f3, .int .u64 (nd l 0).val.f4, .bool (nd l 0).val.f5, .int .u64 (nd l 0).val.f6]) q2.1 3 (.int .i64 (nd l 0).val.f2.f1) rfl
  have q4 := set_step (cur' := #[.int .i64 (nd l 0).val.f0, .int .i64 (nd l 0).val.f1, .int .i64 (nd l 0).val.f2.f0, .int .i64 (nd l 0).val.f2.f1, .int .i64 (nd l 0).val.f3, .int .u64 (nd l 0).val.f4, .bool (nd l 0).val.f5, .int .u64 (nd l 0).val.f6]) q3.1 4 (.int .i64 (nd l 0).val.f3) rfl
  have q5 := set_step (cur' := #[.int .i64 (nd l 0).val.f0, .int .i64 (nd l 0).val.f1, .int .i64 (nd l 0).val.f2.f0, .int .i64 (nd l 0).val.f2.f1, .int .i64 (nd l 0).val.f3, .int .u64 (nd l 0).val.f4, .bool (nd l 0).val.f5, .int .u64 (nd l 0).val.f6]) q4.1 5 (.int .u64 (nd l 0).val.f4) rfl
  have q6 := set_step (cur' := #[.int .i64 (nd l 0).val.f0, .int .i64 (nd l 0).val.f1, .int .i64 (nd l 0).val.f2.f0, .int .i64 (nd l 0).val.f2.f1, .int .i64 (nd l 0).val.f3, .int .u64 (nd l 0).val.f4, .bool (nd l 0).val.f5, .int .u64 (nd l 0).val.f6]) q5.1 6 (.bool (nd l 0).val.f5) rfl
  have q7 := set_step (cur' := #[.int .i64 (nd l 0).val.f0, .int .i64 (nd l 0).val.f1, .int .i64 (nd l 0).val.f2.f0, .int .i64 (nd l 0).val.f2.f1, .int .i64 (nd l 0).val.f3, .int .u64 (nd l 0).val.f4, .bool (nd l 0).val.f5, .int .u64 (nd l 0).val.f6]) q6.1 7 (.int .u64 (nd l 0).val.f6) rfl
  have hKEEP := (⟨(show _ = some (.int .i64 (nd l 0).val.f0) from (blk_cell q7.1 0).trans rfl), (show _ = some (.int .i64 (nd l 0).val.f1) from (blk_cell q7.1 1).trans rfl), (show _ = some (.int .i64 (nd l 0).val.f2.f0) from (blk_cell q7.1 2).trans rfl), (show _ = some (.int .i64 (nd l 0).val.f2.f1) from (blk_cell q7.1 3).trans rfl), (show _ = some (.int .i64 (nd l 0).val.f3) from (blk_cell q7.1 4).trans rfl), (show _ = some (.int .u64 (nd l 0).val.f4) from (blk_cell q7.1 5).trans rfl), (show _ = some (.bool (nd l 0).val.f5) from (blk_cell q7.1 6).trans rfl), (show _ = some (.int .u64 (nd l 0).val.f6) from (blk_cell q7.1 7).trans rfl)⟩ : _ ∧ _ ∧ _ ∧ _ ∧ _ ∧ _ ∧ _ ∧ _)
  have HBa := Aside0.mk q7.1
  have HFa := Aside0.mk (((((((((HF4.out).grown q0.2 (.inr HG4.out)).grown q1.2 (.inr HG4.out)).grown q2.2 (.inr HG4.out)).grown q3.2 (.inr HG4.out)).grown q4.2 (.inr HG4.out)).grown q5.2 (.inr HG4.out)).grown q6.2 (.inr HG4.out)).grown q7.2 (.inr HG4.out))
  have HAa := Aside0.mk (((((((((HA4.out).grown q0.2 HNo.out).grown q1.2 HNo.out).grown q2.2 HNo.out).grown q3.2 HNo.out).grown q4.2 HNo.out).grown q5.2 HNo.out).grown q6.2 HNo.out).grown q7.2 HNo.out)
  clear q0 q1 q2 q3 q4 q5 q6 q7
  go_region_held3 (fun w' => w'.cell? ⟨g4, 0, none⟩ = some (.int .i64 (nd l 0).val.f0) ∧ w'.cell? ⟨g4, 1, none⟩ = some (.int .i64 (nd l 0).val.f1) ∧ w'.cell? ⟨g4, 2, none⟩ = some (.int .i64 (nd l 0).val.f2.f0) ∧ w'.cell? ⟨g4, 3, none⟩ = some (.int .i64 (nd l 0).val.f2.f1) ∧ w'.cell? ⟨g4, 4, none⟩ = some (.int .i64 (nd l 0).val.f3) ∧ w'.cell? ⟨g4, 5, none⟩ = some (.int .u64 (nd l 0).val.f4) ∧ w'.cell? ⟨g4, 6, none⟩ = some (.bool (nd l 0).val.f5) ∧ w'.cell? ⟨g4, 7, none⟩ = some (.int .u64 (nd l 0).val.f6)) (first | go_keep | exact hKEEP) (fail)
  clear hKEEP
  go_wp2
  refine bodyPost_ret (results_list (rs := [.tmp 2, .tmp 3, .cell 4 40, .tmp 5]) rfl (by simp) (.tmp (.tmp (.cell g4 40 #[.int .i64 (nd l 0).val.f0, .int .i64 (nd l 0).val.f1, .int .i64 (nd l 0).val.f2.f0, .int .i64 (nd l 0).val.f2.f1, .int .i64 (nd l 0).val.f3, .int .u64 (nd l 0).val.f4, .bool (nd l 0).val.f5, .int .u64 (nd l 0).val.f6] (0, 0) _ rfl (blk_drew HBa.out) Try.underlying40 rfl (by kernel_rfl) (.tmp .nil))))) rfl ?_
  exact ⟨v', rfl, HAa.out.drew, HFa.out.drew⟩

/-! ### what a heap holds -/
/-- At p lies a heap that holds these (in whatever order), its blocks ok ones. -/
def HP (w : World) (base p : Nat) (ok : Nat → Prop) (items : List NI) (next : Int) : Prop := ∃ mb v l m, HeapAt w base p mb v ok l m next ∧ Inv l m ∧ l.Perm items
theorem HP.kept {w w' : World} {base p : Nat} {ok S : Nat → Prop} {items : List NI} {next : Int} (h : HP w base p ok items next) (hk : Kept w w' S) (hS : ∀ k, ok k → ¬ S k) : HP w' base p ok items next := by
  obtain ⟨mb, v, l, m, h1, h2, h3⟩ := h
  exact ⟨mb, v, l, m, h1.kept hk hS, h2, h3⟩
theorem HP.below {w w' : World} {base p : Nat} {ok : Nat → Prop} {items : List NI} {next : Int} (h : HP w base p ok items next) (hk : Below w.heap.size w w') : HP w' base p ok items next :=
  h.kept (Kept.of_below hk (fun _ => False)) (fun _ _ => id)
theorem HP.lower {w : World} {base base' p : Nat} {ok : Nat → Prop} {items : List NI} {next : Int} (h : HP w base p ok items next) (hb : base' ≤ base) : HP w base' p ok items next := by
  obtain ⟨mb, v, l, m, h1, h2, h3⟩ := h
  exact ⟨mb, v, l, m, h1.lower hb, h2, h3⟩
theorem HP.bound {w : World} {base p : Nat} {ok : Nat → Prop} {items : List NI} {next : Int} (h : HP w base p ok items next) : ∀ k, ok k → base ≤ k ∧ k < w.heap.size := by
  obtain ⟨mb, v, l, m, h1, h2, h3⟩ := h
  exact fun k hk => ⟨h1.low k hk, h1.bound k hk⟩
theorem HP.perm {w : World} {base p : Nat} {ok : Nat → Prop} {items items' : List NI} {next : Int} (h : HP w base p ok items next) (hp : items.Perm items') : HP w base p ok items' next := by
  obtain ⟨mb, v, l, m, h1, h2, h3⟩ := h
  exact ⟨mb, v, l, m, h1, h2, h3.trans hp⟩
theorem HP.once {w : World} {base p : Nat} {ok : Nat → Prop} {items : List NI} {next : Int} (h : HP w base p ok items next) : Once items := by
  obtain ⟨mb, v, l, m, h1, h2, h3⟩ := h
  exact once_perm h3.symm (inv_once h2)
theorem once_mem {l : List NI} (h : Once l) {x y : NI} (hx : x ∈ l) (hy : y ∈ l) (e : x.num = y.num) : x = y := by
  obtain ⟨i, hi, rfl⟩ := mem_nd hx
  obtain ⟨j, hj, rfl⟩ := mem_nd hy
  rw [once_inj h hi hj e]
/-- The first one. -/
def Least (items : List NI) (x : NI) : Prop := x ∈ items ∧ ∀ y ∈ items, ¬ lt y x
theorem least_one {l : List NI} (h : Once l) {x y : NI} (hx : Least l x) (hy : Least l y) : x = y := by
  refine once_mem h hx.1 hy.1 ?_
  have h1 := hx.2 y hy.1
  have h2 := hy.2 x hx.1
  unfold lt at h1 h2
  omega
theorem least_top {l : List NI} {m : List (Int × Int)} {items : List NI} (hI : Inv l m) (hp : l.Perm items) {x : NI} (hx : Least items x) : nd l 0 = x := by
  have hl : 0 < l.length := by rw [hp.length_eq]; exact List.length_pos_of_mem hx.1
  exact least_one (inv_once hI) ⟨nd_mem hl, top_spec hI⟩ ⟨hp.mem_iff.2 hx.1, fun y hy => hx.2 y (hp.mem_iff.1 hy)⟩
theorem HP.new (w : World) : Calls Try.prog 25 #[] w fun e w' => ∃ p, e = .returned (.pointer (some ⟨p, 0, none⟩)) ∧ HP w' w.heap.size p (fun k => w.heap.size ≤ k ∧ k < w'.heap.size) [] 0 ∧ Below w.heap.size w w' :=
  (new_calls w).mono fun e w' ⟨p, mb, h1, h2, h3⟩ => ⟨p, h1, ⟨mb, _, [], [], h2, inv_nil, .refl _⟩, h3⟩
theorem HP.len (base p : Nat) (ok : Nat → Prop) (items : List NI) (next : Int) (w : World) (H : HP w base p ok items next) :
    Calls Try.prog 49 #[.pointer (some ⟨p, 0, none⟩)] w fun e w' => e = .returned (.int .i64 (items.length : Int)) ∧ w = w' := by
  obtain ⟨mb, v, l, m, h1, h2, h3⟩ := H
  rw [← h3.length_eq]
  exact len_calls base p mb v ok l m next w h1
theorem HP.has (base p : Nat) (ok : Nat → Prop) (items : List NI) (next k : Int) (b : Bool) (w : World) (H : HP w base p ok items next) (hb : b = true ↔ ∃ x ∈ items, x.num = k) :
    Calls Try.prog 45 #[.pointer (some ⟨p, 0, none⟩), .int .i64 k] w fun e w' => e = .returned (.bool b) ∧ w = w' := by
  obtain ⟨mb, v, l, m, h1, h2, h3⟩ := H
  refine has_calls base p mb v ok l m next k b w h1 ?_
  cases hg : getI k m with
  | none =>
    have := find_none h2 hg
    cases b with
    | false => rfl
    | true => obtain ⟨x, hx, e⟩ := hb.1 rfl; exact absurd e (this x (h3.mem_iff.2 hx))
  | some i =>
    obtain ⟨j, _, hj, hn⟩ := find_spec h2 hg
    rw [hb.2 ⟨nd l j, h3.mem_iff.1 (nd_mem hj), hn⟩]
    rfl
theorem HP.push (base p : Nat) (ok : Nat → Prop) (items : List NI) (next when_ : Int) (val : S40) (w : World) (H : HP w base p ok items next) (hn : ∀ x ∈ items, x.num ≠ next) (hsm : (items.length + 1) * 80 ≤ 140737488355328) (hn0 : 0 ≤ next) (hn1 : next ≤ 1000000000000000000) :
    Calls Try.prog 50 #[.pointer (some ⟨p, 0, none⟩), .int .u64 when_, .agg #[.int .i64 val.f0, .int .i64 val.f1, .int .i64 val.f2.f0, .int .i64 val.f2.f1, .int .i64 val.f3, .int .u64 val.f4, .bool val.f5, .int .u64 val.f6]] w fun e w' => ∃ ok', e = .returned (.int .i64 next) ∧ HP w' base p ok' (items ++ [⟨when_, next, val⟩]) (next + 1) ∧ (∀ k, ok' k → ok k ∨ w.heap.size ≤ k) ∧ Fr base ok w w' := by
  obtain ⟨mb, v, l, m, h1, h2, h3⟩ := H
  refine (push_calls base p mb v ok l m next when_ val w h1 (by rw [h3.length_eq]; exact hsm) hn0 hn1).mono ?_
  rintro e w' ⟨v', ok', he, hA, ho, hF⟩
  obtain ⟨q1, q2⟩ := push_spec (n := ⟨when_, next, val⟩) h2 (fun x hx => hn x (h3.mem_iff.1 hx))
  exact ⟨ok', he, ⟨mb, v', _, _, hA, q1, q2.trans (h3.append_right _)⟩, ho, hF⟩
theorem HP.top_none (base p : Nat) (ok : Nat → Prop) (next : Int) (w : World) (H : HP w base p ok [] next) :
    Calls Try.prog 31 #[.pointer (some ⟨p, 0, none⟩)] w fun e w' => e = .returned (.tuple #[.int .u64 0, .int .i64 0, .agg #[.int .i64 0, .int .i64 0, .int .i64 0, .int .i64 0, .int .i64 0, .int .u64 0, .bool false, .int .u64 0], .int .i64 31]) ∧ Below w.heap.size w w' := by
  obtain ⟨mb, v, l, m, h1, h2, h3⟩ := H
  obtain rfl := h3.eq_nil
  exact PTimerPlays.top_none base p mb v ok m next w h1
theorem HP.top (base p : Nat) (ok : Nat → Prop) (items : List NI) (next : Int) (x : NI) (w : World) (H : HP w base p ok items next) (hx : Least items x) :
    Calls Try.prog 31 #[.pointer (some ⟨p, 0, none⟩)] w fun e w' => e = .returned (.tuple #[.int .u64 x.when, .int .i64 x.num, .agg #[.int .i64 x.val.f0, .int .i64 x.val.f1, .int .i64 x.val.f2.f0, .int .i64 x.val.f2.f1, .int .i64 x.val.f3, .int .u64 x.val.f4, .bool x.val.f5, .int .u64 x.val.f6], .int .i64 0]) ∧ Below w.heap.size w w' := by
  obtain ⟨mb, v, l, m, h1, h2, h3⟩ := H
  have hl : 0 < l.length := by rw [h3.length_eq]; exact List.length_pos_of_mem hx.1
  rw [← least_top h2 h3 hx]
  exact top_some base p mb v ok l m next w h1 hl
theorem HP.pop (base p : Nat) (ok : Nat → Prop) (items rest : List NI) (next : Int) (x : NI) (w : World) (H : HP w base p ok items next) (hx : Least items x) (hr : items.Perm (x :: rest)) (hsm : items.length ≤ 1000000000000000000) :
    Calls Try.prog 32 #[.pointer (some ⟨p, 0, none⟩)] w fun e w' => e = .returned (.tuple #[.int .u64 x.when, .int .i64 x.num, .agg #[.int .i64 x.val.f0, .int .i64 x.val.f1, .int .i64 x.val.f2.f0, .int .i64 x.val.f2.f1, .int .i64 x.val.f3, .int .u64 x.val.f4, .bool x.val.f5, .int .u64 x.val.f6], .int .i64 0]) ∧ HP w' base p ok rest next ∧ Fr base ok w w' := by
  obtain ⟨mb, v, l, m, h1, h2, h3⟩ := H
  have hl : 0 < l.length := by rw [h3.length_eq]; exact List.length_pos_of_mem hx.1
  have ht := least_top h2 h3 hx
  refine (pop_some base p mb v ok l m next w h1 h2 hl (by rw [h3.length_eq]; exact hsm)).mono ?_
  rintro e w' ⟨v', he, hA, hF⟩
  obtain ⟨q1, q2⟩ := drop_spec h2 hl
  rw [ht] at he q2
  refine ⟨he, ⟨mb, v', _, _, hA, q1, ?_⟩, hF⟩
  rw [ht]
  exact List.Perm.cons_inv (q2.symm.trans (h3.trans hr))
theorem HP.drop (base p : Nat) (ok : Nat → Prop) (items rest : List NI) (next : Int) (x : NI) (w : World) (H : HP w base p ok items next) (hr : items.Perm (x :: rest)) (hsm : items.length ≤ 1000000000000000000) :
    Calls Try.prog 30 #[.pointer (some ⟨p, 0, none⟩), .int .i64 x.num] w fun e w' => e = .returned (.tuple #[.int .u64 x.when, .agg #[.int .i64 x.val.f0, .int .i64 x.val.f1, .int .i64 x.val.f2.f0, .int .i64 x.val.f2.f1, .int .i64 x.val.f3, .int .u64 x.val.f4, .bool x.val.f5, .int .u64 x.val.f6], .int .i64 0]) ∧ HP w' base p ok rest next ∧ Fr base ok w w' := by
  obtain ⟨mb, v, l, m, h1, h2, h3⟩ := H
  obtain ⟨i, hi, hx⟩ := mem_nd (h3.mem_iff.2 (hr.mem_iff.2 List.mem_cons_self))
  have hg := h2.2.1.1 i hi
  rw [hx] at hg
  refine (drop_calls base p mb v ok l m next x.num i w h1 h2 hg hi (by rw [h3.length_eq]; exact hsm)).mono ?_
  rintro e w' ⟨v', he, hA, hF⟩
  obtain ⟨q1, q2⟩ := drop_spec h2 hi
  rw [hx] at he q2 q1
  refine ⟨he, ⟨mb, v', _, _, hA, q1, ?_⟩, hF⟩
  exact List.Perm.cons_inv (q2.symm.trans (h3.trans hr))
end Go.Proofs.Ytceopcfmhidjlaa.PTimerPlays
