/- Pop; and each call of a heap told by what it holds (HP). Conditions: each theorem's own. -/
import Derived.Test.YtedkacknopcceaaHdr
set_option linter.unusedVariables false
set_option linter.unusedSimpArgs false
namespace Go.Proofs.Ytedkacknopcceaa.QHeap
open Go.RowKit Go.Proofs.Ytedkacknopcceaa.Ef Go.Proofs.Ytedkacknopcceaa.Mp Go.Proofs.Ytedkacknopcceaa.Hp Go.Proofs.YtedkacknopcceaaW.PrintWords Go.Proofs.YtedkacknopcceaaW.PrintLast Go.Proofs.YtedkacknopcceaaW.PrintMore

set_option maxHeartbeats 1000000 in
theorem pop_none (base p mb : Nat) (v : Value) (ok : Nat → Prop) (m : List (Int × Int)) (next : Int) (w : World) (H : HeapAt w base p mb v ok [] m next) :
    Calls Try.prog 11 #[.pointer (some ⟨p, 0, none⟩)] w fun e w' => e = .returned (.tuple #[.int .u64 0, .int .i64 0, .int .i64 0, .int .i64 31]) ∧ Below w.heap.size w w' := by
  have HH := Aside0.mk H
  clear H
  go_enter Try.func11, Try.ntmps11
  go_wp2_with (go_at_call 26; (refine (top_none base p mb v ok m next _ HH.out).mono ?_); rintro e w1 ⟨rfl, hb⟩; have HB := Aside0.mk hb; clear hb)
  refine bodyPost_ret (v := .tuple #[.int .u64 0, .int .i64 0, .int .i64 0, .int .i64 31]) (by simp [results, Try.results11, go_sem]) rfl ⟨rfl, HB.out⟩
set_option maxHeartbeats 1000000 in
theorem pop_some (base p mb : Nat) (v : Value) (ok : Nat → Prop) (l : List NI) (m : List (Int × Int)) (next : Int) (w : World) (H : HeapAt w base p mb v ok l m next) (hI : Inv l m) (hl : 0 < l.length) (hsm : l.length ≤ 1000000000000000000) :
    Calls Try.prog 11 #[.pointer (some ⟨p, 0, none⟩)] w fun e w' => ∃ v', e = .returned (.tuple #[.int .u64 (nd l 0).when, .int .i64 (nd l 0).num, .int .i64 (nd l 0).val, .int .i64 0]) ∧ HeapAt w' base p mb v' ok (dropA l m (nd l 0).num 0).1 (dropA l m (nd l 0).num 0).2 next ∧ Fr base ok w w' := by
  have HH := Aside0.mk H
  have HF := Aside0.mk (Fr.refl H.le H.low)
  have HK := Aside0.mk (hI.2.1.1 0 hl)
  have HI := Aside0.mk hI
  clear H hI
  go_enter Try.func11, Try.ntmps11
  go_wp2_with (first
    | (go_at_call 26; (refine (top_some base p mb v ok l m next _ HH.out hl).mono ?_); rintro e w1 ⟨rfl, hb⟩; have HF1 := Aside0.mk (HF.out.below hb); have HA1 := Aside0.mk (HH.out.below hb); clear hb)
    | (go_at_call 10; (refine (drop_calls base p mb v ok l m next (nd l 0).num 0 _ HA1.out HI.out HK.out hl hsm).mono ?_); rintro e w2 ⟨v', rfl, hA, hF⟩; have HA2 := Aside0.mk hA; have HF2 := Aside0.mk (HF1.out.then_ hF (Nat.le_refl _) (fun k q => .inl q)); clear hA hF HA1 HF1))
  refine bodyPost_ret (v := .tuple #[.int .u64 (nd l 0).when, .int .i64 (nd l 0).num, .int .i64 (nd l 0).val, .int .i64 0]) (by simp [results, Try.results11, go_sem]) rfl ⟨v', rfl, HA2.out, HF2.out⟩

/-! ### what a heap holds -/
/-- At p lies a heap that holds these (in whatever order), its blocks ok ones. -/
def HP (w : World) (base p : Nat) (ok : Nat → Prop) (items : List NI) (next : Int) : Prop := ∃ mb v l m, HeapAt w base p mb v ok l m next ∧ Inv l m ∧ l.Perm items
theorem HP.kept {w w' : World} {base p : Nat} {ok S : Nat → Prop} {items : List NI} {next : Int} (h : HP w base p ok items next) (hk : Kept w w' S) (hS : ∀ k, ok k → ¬ S k) : HP w' base p ok items next := by
  obtain ⟨mb, v, l, m, h1, h2, h3⟩ := h
  exact ⟨mb, v, l, m, h1.kept hk hS, h2, h3⟩
theorem HP.below {w w' : World} {base p : Nat} {ok : Nat → Prop} {items : List NI} {next : Int} (h : HP w base p ok items next) (hk : Below w.heap.size w w') : HP w' base p ok items next :=
  h.kept (Kept.of_below hk (fun _ => False)) (fun _ _ => id)
theorem HP.lower {w : World} {base base' p : Nat} {ok : Nat → Prop} {items : List NI} {next : Int} (h : HP w base p ok items next) (hb : base' ≤ base) : HP w base' p ok items next := by
  obtain ⟨mb, v, l, m, h1, h2, h3⟩ := h
  exact ⟨mb, v, l, m, h1.lower hb, h2, h3⟩
theorem HP.bound {w : World} {base p : Nat} {ok : Nat → Prop} {items : List NI} {next : Int} (h : HP w base p ok items next) : ∀ k, ok k → base ≤ k ∧ k < w.heap.size := by
  obtain ⟨mb, v, l, m, h1, h2, h3⟩ := h
  exact fun k hk => ⟨h1.low k hk, h1.bound k hk⟩
theorem HP.perm {w : World} {base p : Nat} {ok : Nat → Prop} {items items' : List NI} {next : Int} (h : HP w base p ok items next) (hp : items.Perm items') : HP w base p ok items' next := by
  obtain ⟨mb, v, l, m, h1, h2, h3⟩ := h
  exact ⟨mb, v, l, m, h1, h2, h3.trans hp⟩
theorem HP.once {w : World} {base p : Nat} {ok : Nat → Prop} {items : List NI} {next : Int} (h : HP w base p ok items next) : Once items := by
  obtain ⟨mb, v, l, m, h1, h2, h3⟩ := h
  exact once_perm h3.symm (inv_once h2)
theorem once_mem {l : List NI} (h : Once l) {x y : NI} (hx : x ∈ l) (hy : y ∈ l) (e : x.num = y.num) : x = y := by
  obtain ⟨i, hi, rfl⟩ := mem_nd hx
  obtain ⟨j, hj, rfl⟩ := mem_nd hy
  rw [once_inj h hi hj e]
/-- The first one. -/
def Least (items : List NI) (x : NI) : Prop := x ∈ items ∧ ∀ y ∈ items, ¬ lt y x
theorem least_one {l : List NI} (h : Once l) {x y : NI} (hx : Least l x) (hy : Least l y) : x = y := by
  refine once_mem h hx.1 hy.1 ?_
  have h1 := hx.2 y hy.1
  have h2 := hy.2 x hx.1
  unfold lt at h1 h2
  omega
theorem least_top {l : List NI} {m : List (Int × Int)} {items : List NI} (hI : Inv l m) (hp : l.Perm items) {x : NI} (hx : Least items x) : nd l 0 = x := by
  have hl : 0 < l.length := by rw [hp.length_eq]; exact List.length_pos_of_mem hx.1
  exact least_one (inv_once hI) ⟨nd_mem hl, top_spec hI⟩ ⟨hp.mem_iff.2 hx.1, fun y hy => hx.2 y (hp.mem_iff.1 hy)⟩
theorem HP.new (w : World) : Calls Try.prog 7 #[] w fun e w' => ∃ p, e = .returned (.pointer (some ⟨p, 0, none⟩)) ∧ HP w' w.heap.size p (fun k => w.heap.size ≤ k ∧ k < w'.heap.size) [] 0 ∧ Below w.heap.size w w' :=
  (new_calls w).mono fun e w' ⟨p, mb, h1, h2, h3⟩ => ⟨p, h1, ⟨mb, _, [], [], h2, inv_nil, .refl _⟩, h3⟩
theorem HP.len (base p : Nat) (ok : Nat → Prop) (items : List NI) (next : Int) (w : World) (H : HP w base p ok items next) :
    Calls Try.prog 12 #[.pointer (some ⟨p, 0, none⟩)] w fun e w' => e = .returned (.int .i64 (items.length : Int)) ∧ w = w' := by
  obtain ⟨mb, v, l, m, h1, h2, h3⟩ := H
  rw [← h3.length_eq]
  exact len_calls base p mb v ok l m next w h1
theorem HP.has (base p : Nat) (ok : Nat → Prop) (items : List NI) (next k : Int) (b : Bool) (w : World) (H : HP w base p ok items next) (hb : b = true ↔ ∃ x ∈ items, x.num = k) :
    Calls Try.prog 23 #[.pointer (some ⟨p, 0, none⟩), .int .i64 k] w fun e w' => e = .returned (.bool b) ∧ w = w' := by
  obtain ⟨mb, v, l, m, h1, h2, h3⟩ := H
  refine has_calls base p mb v ok l m next k b w h1 ?_
  cases hg : getI k m with
  | none =>
    have := find_none h2 hg
    cases b with
    | false => rfl
    | true => obtain ⟨x, hx, e⟩ := hb.1 rfl; exact absurd e (this x (h3.mem_iff.2 hx))
  | some i =>
    obtain ⟨j, _, hj, hn⟩ := find_spec h2 hg
    rw [hb.2 ⟨nd l j, h3.mem_iff.1 (nd_mem hj), hn⟩]
    rfl
theorem HP.push (base p : Nat) (ok : Nat → Prop) (items : List NI) (next when_ val : Int) (w : World) (H : HP w base p ok items next) (hn : ∀ x ∈ items, x.num ≠ next) (hsm : (items.length + 1) * 24 ≤ 140737488355328) (hn0 : 0 ≤ next) (hn1 : next ≤ 1000000000000000000) :
    Calls Try.prog 9 #[.pointer (some ⟨p, 0, none⟩), .int .u64 when_, .int .i64 val] w fun e w' => ∃ ok', e = .returned (.int .i64 next) ∧ HP w' base p ok' (items ++ [⟨when_, next, val⟩]) (next + 1) ∧ (∀ k, ok' k → ok k ∨ w.heap.size ≤ k) ∧ Fr base ok w w' := by
  obtain ⟨mb, v, l, m, h1, h2, h3⟩ := H
  refine (push_calls base p mb v ok l m next when_ val w h1 (by rw [h3.length_eq]; exact hsm) hn0 hn1).mono ?_
  rintro e w' ⟨v', ok', he, hA, ho, hF⟩
  obtain ⟨q1, q2⟩ := push_spec (n := ⟨when_, next, val⟩) h2 (fun x hx => hn x (h3.mem_iff.1 hx))
  exact ⟨ok', he, ⟨mb, v', _, _, hA, q1, q2.trans (h3.append_right _)⟩, ho, hF⟩
theorem HP.top_none (base p : Nat) (ok : Nat → Prop) (next : Int) (w : World) (H : HP w base p ok [] next) :
    Calls Try.prog 26 #[.pointer (some ⟨p, 0, none⟩)] w fun e w' => e = .returned (.tuple #[.int .u64 0, .int .i64 0, .int .i64 0, .int .i64 31]) ∧ Below w.heap.size w w' := by
  obtain ⟨mb, v, l, m, h1, h2, h3⟩ := H
  obtain rfl := h3.eq_nil
  exact QHeap.top_none base p mb v ok m next w h1
theorem HP.pop_none (base p : Nat) (ok : Nat → Prop) (next : Int) (w : World) (H : HP w base p ok [] next) :
    Calls Try.prog 11 #[.pointer (some ⟨p, 0, none⟩)] w fun e w' => e = .returned (.tuple #[.int .u64 0, .int .i64 0, .int .i64 0, .int .i64 31]) ∧ Below w.heap.size w w' := by
  obtain ⟨mb, v, l, m, h1, h2, h3⟩ := H
  obtain rfl := h3.eq_nil
  exact QHeap.pop_none base p mb v ok m next w h1
theorem HP.top (base p : Nat) (ok : Nat → Prop) (items : List NI) (next : Int) (x : NI) (w : World) (H : HP w base p ok items next) (hx : Least items x) :
    Calls Try.prog 26 #[.pointer (some ⟨p, 0, none⟩)] w fun e w' => e = .returned (.tuple #[.int .u64 x.when, .int .i64 x.num, .int .i64 x.val, .int .i64 0]) ∧ Below w.heap.size w w' := by
  obtain ⟨mb, v, l, m, h1, h2, h3⟩ := H
  have hl : 0 < l.length := by rw [h3.length_eq]; exact List.length_pos_of_mem hx.1
  rw [← least_top h2 h3 hx]
  exact top_some base p mb v ok l m next w h1 hl
theorem HP.pop (base p : Nat) (ok : Nat → Prop) (items rest : List NI) (next : Int) (x : NI) (w : World) (H : HP w base p ok items next) (hx : Least items x) (hr : items.Perm (x :: rest)) (hsm : items.length ≤ 1000000000000000000) :
    Calls Try.prog 11 #[.pointer (some ⟨p, 0, none⟩)] w fun e w' => e = .returned (.tuple #[.int .u64 x.when, .int .i64 x.num, .int .i64 x.val, .int .i64 0]) ∧ HP w' base p ok rest next ∧ Fr base ok w w' := by
  obtain ⟨mb, v, l, m, h1, h2, h3⟩ := H
  have hl : 0 < l.length := by rw [h3.length_eq]; exact List.length_pos_of_mem hx.1
  have ht := least_top h2 h3 hx
  refine (pop_some base p mb v ok l m next w h1 h2 hl (by rw [h3.length_eq]; exact hsm)).mono ?_
  rintro e w' ⟨v', he, hA, hF⟩
  obtain ⟨q1, q2⟩ := drop_spec h2 hl
  rw [ht] at he q2
  refine ⟨he, ⟨mb, v', _, _, hA, q1, ?_⟩, hF⟩
  rw [ht]
  exact List.Perm.cons_inv (q2.symm.trans (h3.trans hr))
theorem HP.drop_none (base p : Nat) (ok : Nat → Prop) (items : List NI) (next k : Int) (w : World) (H : HP w base p ok items next) (hk : ∀ x ∈ items, x.num ≠ k) :
    Calls Try.prog 10 #[.pointer (some ⟨p, 0, none⟩), .int .i64 k] w fun e w' => e = .returned (.tuple #[.int .u64 0, .int .i64 0, .int .i64 31]) ∧ w = w' := by
  obtain ⟨mb, v, l, m, h1, h2, h3⟩ := H
  refine QHeap.drop_none base p mb v ok l m next k w h1 ?_
  cases hg : getI k m with
  | none => rfl
  | some i =>
    obtain ⟨j, _, hj, hn⟩ := find_spec h2 hg
    exact absurd hn (hk _ (h3.mem_iff.1 (nd_mem hj)))
theorem HP.drop (base p : Nat) (ok : Nat → Prop) (items rest : List NI) (next : Int) (x : NI) (w : World) (H : HP w base p ok items next) (hr : items.Perm (x :: rest)) (hsm : items.length ≤ 1000000000000000000) :
    Calls Try.prog 10 #[.pointer (some ⟨p, 0, none⟩), .int .i64 x.num] w fun e w' => e = .returned (.tuple #[.int .u64 x.when, .int .i64 x.val, .int .i64 0]) ∧ HP w' base p ok rest next ∧ Fr base ok w w' := by
  obtain ⟨mb, v, l, m, h1, h2, h3⟩ := H
  obtain ⟨i, hi, hx⟩ := mem_nd (h3.mem_iff.2 (hr.mem_iff.2 List.mem_cons_self))
  have hg := h2.2.1.1 i hi
  rw [hx] at hg
  refine (drop_calls base p mb v ok l m next x.num i w h1 h2 hg hi (by rw [h3.length_eq]; exact hsm)).mono ?_
  rintro e w' ⟨v', he, hA, hF⟩
  obtain ⟨q1, q2⟩ := drop_spec h2 hi
  rw [hx] at he q2 q1
  refine ⟨he, ⟨mb, v', _, _, hA, q1, ?_⟩, hF⟩
  exact List.Perm.cons_inv (q2.symm.trans (h3.trans hr))
end Go.Proofs.Ytedkacknopcceaa.QHeap
