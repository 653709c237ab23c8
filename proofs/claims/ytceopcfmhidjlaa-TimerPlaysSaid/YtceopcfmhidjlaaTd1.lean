/- The document's timers: the values of the heap by (when, number), then those that are never due; what its functions put. Plain. Conditions: each theorem's own.
   The document's put and armed. Conditions: each theorem's own.
   The document's armed in every case; its After, Every and Sleep. Conditions: each theorem's own.
   The document's Due. Conditions: each theorem's own. -/
import Derived.Test.YtceopcfmhidjlaaTsh
import Derived.Test.YtceopcfmhidjlaaTpp
import Derived.Test.YtceopcfmhidjlaaPTimerPlaysx4
import Derived.Test.YtceopcfmhidjlaaTag
import Derived.BigQuiet
set_option linter.unusedVariables false
set_option linter.unusedSimpArgs false
namespace Go.Proofs.Ytceopcfmhidjlaa.PTimerPlays
open Go.RowKit Go.Proofs.Ytceopcfmhidjlaa.Ef Go.Proofs.Ytceopcfmhidjlaa.Mp Go.Proofs.Ytceopcfmhidjlaa.Hp Go.Proofs.YtceopcfmhidjlaaW.PrintWords Go.Proofs.YtceopcfmhidjlaaW.PrintLast Go.Proofs.YtceopcfmhidjlaaW.PrintMore
/-- The document's list of what the timers hold. -/
def Doc (S : TS) (L : List Tm) : Prop := ∃ d : List NI, d.Perm S.hp ∧ d.Pairwise lt ∧ L = d.map (·.val) ++ S.nv
theorem Doc.perm {S : TS} {L : List Tm} (h : Doc S L) : L.Perm S.all := by
  obtain ⟨d, h1, _, rfl⟩ := h
  exact (h1.map _).append_right _
theorem Doc.len {S : TS} {L : List Tm} (h : Doc S L) : L.length = S.all.length := h.perm.length_eq
/-- What is true of the timers at any time. -/
structure DI (S : TS) : Prop where
  hd : ∀ n ∈ S.hp, n.val.f5 = false ∧ n.val.f4 = n.when
  nd : ∀ x ∈ S.nv, x.f5 = true
  num : ∀ n ∈ S.hp, n.num < S.next
theorem DI.arm {S : TS} (h : DI S) (x : Tm) : DI (S.arm x) := by
  unfold TS.arm
  by_cases e : x.f5 = true
  · rw [if_pos e]
    refine ⟨h.hd, fun y hy => ?_, h.num⟩
    rcases List.mem_append.1 hy with q | q
    · exact h.nd y q
    · rw [List.mem_singleton.1 q]; exact e
  · rw [if_neg e]
    refine ⟨fun n hn => ?_, h.nd, fun n hn => ?_⟩
    · rcases List.mem_append.1 hn with q | q
      · exact h.hd n q
      · rw [List.mem_singleton.1 q]; exact ⟨by simpa using e, rfl⟩
    · rcases List.mem_append.1 hn with q | q
      · have := h.num n q; show n.num < S.next + 1; omega
      · rw [List.mem_singleton.1 q]; show S.next < S.next + 1; omega
theorem DI.last {S : TS} (h : DI S) (i : Int) : DI { S with last := i } := ⟨h.hd, h.nd, h.num⟩
theorem DI.rm {S : TS} (h : DI S) (id : Int) : DI (S.rm id) := ⟨fun n hn => h.hd n (List.mem_filter.1 hn).1, fun x hx => h.nd x (List.mem_filter.1 hx).1, fun n hn => h.num n (List.mem_filter.1 hn).1⟩
theorem DI.path {S S1 : TS} {now : Int} {l : List Tm} (h : DI S) (hp : Path now S l S1) : DI S1 := by
  induction hp with
  | nil => exact h
  | snoc _ _ _ ih => exact ih.rm _
theorem Good.di {S : TS} {ids own : List (Int × Value)} {gs : List ((Int × Int) × Value)} (G : Good S ids own gs) : DI S := ⟨G.hd, G.nd, G.num⟩
theorem TP.di {w : World} {base p : Nat} {ok : Nat → Prop} {S : TS} (H : TP w base p ok S) : DI S := by
  obtain ⟨P, v, ids, own, gs, _, _, _, hG⟩ := H
  exact hG.di
/-- Does t, armed now, stand behind u? -/
def beh (t u : Tm) : Bool := if u.f5 = true then t.f5 else if t.f5 = true then t.f5 else decide (u.f4 ≤ t.f4)
def docPut (t : Tm) : List Tm → List Tm
  | [] => [t]
  | u :: r => if beh t u = true then u :: docPut t r else t :: u :: r
theorem docPut_len (t : Tm) : ∀ L : List Tm, (docPut t L).length = L.length + 1
  | [] => rfl
  | u :: r => by
    unfold docPut
    split
    · rw [List.length_cons, docPut_len t r, List.length_cons]
    · rfl
def insN (N : NI) : List NI → List NI
  | [] => [N]
  | n :: r => if n.when ≤ N.when then n :: insN N r else N :: n :: r
theorem insN_perm (N : NI) : ∀ d : List NI, (insN N d).Perm (N :: d)
  | [] => .refl _
  | n :: r => by
    unfold insN
    split
    · exact ((insN_perm N r).cons n).trans (.swap _ _ _)
    · exact .refl _
theorem insN_sorted (N : NI) : ∀ d : List NI, d.Pairwise lt → (∀ n ∈ d, n.num < N.num) → (insN N d).Pairwise lt
  | [], _, _ => List.pairwise_singleton _ _
  | n :: r, hs, hn => by
    rw [List.pairwise_cons] at hs
    unfold insN
    split
    · rename_i hw
      rw [List.pairwise_cons]
      refine ⟨fun y hy => ?_, insN_sorted N r hs.2 (fun m hm => hn m (List.mem_cons_of_mem _ hm))⟩
      rcases List.mem_cons.1 ((insN_perm N r).mem_iff.1 hy) with rfl | q
      · have := hn n List.mem_cons_self
        unfold lt
        omega
      · exact hs.1 y q
    · rename_i hw
      rw [List.pairwise_cons, List.pairwise_cons]
      refine ⟨fun y hy => ?_, hs⟩
      rcases List.mem_cons.1 hy with rfl | q
      · unfold lt; omega
      · have := hs.1 y q
        unfold lt at this ⊢
        omega
theorem docPut_never (t : Tm) (ht : t.f5 = true) : ∀ L : List Tm, docPut t L = L ++ [t]
  | [] => rfl
  | u :: r => by
    have : beh t u = true := by unfold beh; split <;> simp [ht]
    unfold docPut
    rw [if_pos this, docPut_never t ht r]
    rfl
theorem docPut_due (N : NI) (h5 : N.val.f5 = false) (h4 : N.val.f4 = N.when) (nv : List Tm) (hn : ∀ x ∈ nv, x.f5 = true) : ∀ d : List NI, (∀ n ∈ d, n.val.f5 = false ∧ n.val.f4 = n.when) → docPut N.val (d.map (·.val) ++ nv) = (insN N d).map (·.val) ++ nv
  | [], _ => by
    cases nv with
    | nil => rfl
    | cons y r =>
      have : beh N.val y = false := by unfold beh; rw [if_pos (hn y List.mem_cons_self), h5]
      show docPut N.val (y :: r) = _
      unfold docPut
      rw [if_neg (by rw [this]; decide)]
      rfl
  | n :: r, hd => by
    have hb : beh N.val n.val = decide (n.when ≤ N.when) := by
      unfold beh
      rw [if_neg (by rw [(hd n List.mem_cons_self).1]; decide), if_neg (by rw [h5]; decide), (hd n List.mem_cons_self).2, h4]
    show docPut N.val (n.val :: (r.map (·.val) ++ nv)) = _
    unfold docPut insN
    by_cases hw : n.when ≤ N.when
    · rw [if_pos (by rw [hb]; exact decide_eq_true hw), if_pos hw, docPut_due N h5 h4 nv hn r (fun m hm => hd m (List.mem_cons_of_mem _ hm))]
      rfl
    · rw [if_neg (by rw [hb]; simpa using hw), if_neg hw]
      rfl
theorem Doc.arm {S : TS} {L : List Tm} (h : Doc S L) (D : DI S) (x : Tm) : Doc (S.arm x) (docPut x L) := by
  obtain ⟨d, h1, h2, rfl⟩ := h
  unfold TS.arm
  by_cases e : x.f5 = true
  · rw [if_pos e, docPut_never x e]
    exact ⟨d, h1, h2, by rw [List.append_assoc]⟩
  · rw [if_neg e]
    refine ⟨insN ⟨x.f4, S.next, x⟩ d, ?_, insN_sorted _ d h2 (fun n hn => D.num n (h1.mem_iff.1 hn)), docPut_due ⟨x.f4, S.next, x⟩ (by simpa using e) rfl S.nv D.nd d (fun n hn => D.hd n (h1.mem_iff.1 hn))⟩
    exact (insN_perm _ d).trans ((h1.cons _).trans (List.perm_append_comm (l₁ := [_])))
theorem Doc.last {S : TS} {L : List Tm} (h : Doc S L) (i : Int) : Doc { S with last := i } L := h
theorem Doc.rm {S : TS} {L : List Tm} (h : Doc S L) (id : Int) : Doc (S.rm id) (L.filter (fun x => x.f0 != id)) := by
  obtain ⟨d, h1, h2, rfl⟩ := h
  refine ⟨d.filter (fun n => n.val.f0 != id), h1.filter _, h2.filter _, ?_⟩
  rw [List.filter_append, List.filter_map]
  rfl
theorem strict {d : List NI} (hs : Sorted d) (hO : Once d) : d.Pairwise lt := by
  unfold Sorted at hs
  rw [List.pairwise_iff_getElem] at hs ⊢
  intro i j hi hj hij
  have h1 := hs i j hi hj hij
  have h2 : d[i].num ≠ d[j].num := fun e => by
    have := once_in hO d[i] (List.getElem_mem hi) d[j] (List.getElem_mem hj) e
    have h3 : (d.map (·.num))[i]'(by simpa using hi) = (d.map (·.num))[j]'(by simpa using hj) := by rw [List.getElem_map, List.getElem_map]; exact e
    have := (List.getElem_inj hO).1 h3
    omega
  unfold lt at h1 ⊢
  omega
theorem Doc.shown {S : TS} {L : List Tm} (h : Doc S L) (hO : Once S.hp) {d : List NI} (hp : d.Perm S.hp) (hs : Sorted d) : d.map (·.val) ++ S.nv = L := by
  obtain ⟨d', h1, h2, rfl⟩ := h
  rw [sorted_eq (strict hs (once_perm hp hO)) h2 (hp.trans h1.symm)]
theorem Doc.nil : Doc TS.nil [] := ⟨[], .refl _, .nil, rfl⟩
/-! ### the document's put -/
theorem rdT_at (L : List Tm) {i : Nat} (hi : i < L.length) : rd_T40 L (i : Int) = L[i] := by simp [rd_T40, hi]
theorem wrap_next {i : Nat} (h : i ≤ 1000000000000000000) : wrap64 ((i : Int) + 1) = ((i + 1 : Nat) : Int) := by unfold wrap64; omega
theorem beh_f (t u : Tm) : rotaref14_behind.f t.f0 t.f1 t.f2.f0 t.f2.f1 t.f3 t.f4 t.f5 t.f6 u.f0 u.f1 u.f2.f0 u.f2.f1 u.f3 u.f4 u.f5 u.f6 = some (beh t u) := by
  unfold rotaref14_behind.f beh
  split
  · rfl
  · split <;> rfl
theorem put_loop (t : Tm) (last : Int) (L : List Tm) (hL : L.length ≤ 4096) : ∀ (d k i : Nat), d < k → i + d = L.length → rotaref14_put.l0 k (L.take i) (i : Int) last L t.f0 t.f1 t.f2.f0 t.f2.f1 t.f3 t.f4 t.f5 t.f6 = some (last, L.take i ++ docPut t (L.drop i)) := by
  intro d
  induction d with
  | zero =>
    intro k i hk hi
    obtain ⟨k, rfl⟩ : ∃ j, k = j + 1 := ⟨k - 1, by omega⟩
    have e : i = L.length := by omega
    subst e
    unfold rotaref14_put.l0
    rw [if_neg (by omega), if_pos (by rw [List.length_take]; omega)]
    simp only [Option.bind_some]
    rw [if_pos (by omega), if_pos (by omega), Int.toNat_natCast, List.drop_length, List.take_length]
    rw [if_pos (by simp; omega), List.append_nil]
    rfl
  | succ d ih =>
    intro k i hk hi
    obtain ⟨k, rfl⟩ : ∃ j, k = j + 1 := ⟨k - 1, by omega⟩
    have hil : i < L.length := by omega
    unfold rotaref14_put.l0
    rw [if_pos (by omega), if_pos (by omega), rdT_at L hil, beh_f]
    simp only [Option.bind_some]
    have hdr : L.drop i = L[i] :: L.drop (i + 1) := List.drop_eq_getElem_cons hil
    by_cases hb : beh t L[i] = true
    · rw [if_pos hb, if_pos (by rw [List.length_take]; omega), wrap_next (by omega)]
      have := ih k (i + 1) (by omega) (by omega)
      rw [List.take_succ_eq_append_getElem hil] at this
      rw [hdr, docPut, if_pos hb]
      refine this.trans ?_
      rw [List.append_assoc]
      rfl
    · rw [if_neg hb, if_pos (by rw [List.length_take]; omega)]
      rw [if_pos (by omega), Int.toNat_natCast]
      rw [if_pos (by simp; omega), hdr, docPut, if_neg hb, List.append_assoc]
      rfl
theorem put_f (t : Tm) (last : Int) (L : List Tm) (hL : L.length ≤ 4096) (k : Nat) (hk : L.length < k) : rotaref14_put.f k last L t.f0 t.f1 t.f2.f0 t.f2.f1 t.f3 t.f4 t.f5 t.f6 = some (last, docPut t L) := put_loop t last L hL L.length k 0 hk (by omega)
end Go.Proofs.Ytceopcfmhidjlaa.PTimerPlays
set_option linter.unusedVariables false
set_option linter.unusedSimpArgs false
namespace Go.Proofs.Ytceopcfmhidjlaa.PTimerPlays
open Go.RowKit Go.Proofs.Ytceopcfmhidjlaa.Ef Go.Proofs.Ytceopcfmhidjlaa.Mp Go.Proofs.Ytceopcfmhidjlaa.Hp Go.Proofs.YtceopcfmhidjlaaW.PrintWords Go.Proofs.YtceopcfmhidjlaaW.PrintLast Go.Proofs.YtceopcfmhidjlaaW.PrintMore
theorem later_f {a b : Int} (ha : u64 a) (hb : u64 b) : rotaref14_later.f a b = some (ltr a b, nvr a b) := by
  obtain ⟨a0, a1⟩ := ha
  obtain ⟨b0, b1⟩ := hb
  unfold rotaref14_later.f ltr nvr
  rw [IntKind.wrap_u64]
  by_cases h : a + b < 18446744073709551616
  · have e : (a + b) % 18446744073709551616 = a + b := by omega
    rw [e, if_neg (by omega), if_pos h, decide_eq_false (by omega)]
  · rw [if_pos (by omega), if_neg h, decide_eq_true (by omega)]
theorem later_calls {a b : Int} (ha : u64 a) (hb : u64 b) (w : World) : Calls Try.prog 58 #[.int .u64 a, .int .u64 b] w fun e w' => e = .returned (.tuple #[.int .u64 (ltr a b), .bool (nvr a b)]) ∧ Below w.heap.size w w' :=
  (rotaref14_later.calls a b _ _ w (later_f ha hb)).mono fun e w' ⟨he, n, hn⟩ => ⟨he, by subst hn; exact pw_below_drewN (Below.refl _ _) n⟩
theorem put_calls (A : Option Addr) (c : Nat) (L : List Tm) (t : Tm) (last : Int) (w : World) (hC : kT.C w A L.length L) (hc : L.length ≤ c) (hL : L.length ≤ 4096) :
    Calls Try.prog 59 #[.agg #[.int .i64 last, .slice A L.length c], .agg #[.int .i64 t.f0, .int .i64 t.f1, .int .i64 t.f2.f0, .int .i64 t.f2.f1, .int .i64 t.f3, .int .u64 t.f4, .bool t.f5, .int .u64 t.f6]] w fun e w' => ∃ v, e = .returned (.agg #[.int .i64 last, v]) ∧ kT.R 40 w' w.heap.size (fun k => w.heap.size ≤ k) v (docPut t L) ∧ Below w.heap.size w w' :=
  (rotaref14_put.calls (L.length + 1) last A c L t.f0 t.f1 t.f2.f0 t.f2.f1 t.f3 t.f4 t.f5 t.f6 last (docPut t L) w hC hc (put_f t last L hL _ (Nat.lt_succ_self _))).mono fun e w' ⟨v, he, hr, hb⟩ => ⟨v, he, Kd.R_mono (Kd.R_bound hr) (fun k q => q.2.1), hb⟩
def begL (last : Int) (x : Tm) (now t : Int) : Tm := { x with f0 := last + 1, f4 := ltr now t, f5 := nvr now t }
set_option maxHeartbeats 4000000 in
set_option maxRecDepth 100000 in
theorem armed_new (A : Option Addr) (c : Nat) (L : List Tm) (x0 x1 x2 x3 x4 x5 : Int) (x6 : Bool) (x7 : Int) (last now t : Int) (w : World) (hC : kT.C w A L.length L) (hc : L.length ≤ c) (hlen : L.length < 1024) (h0 : 0 ≤ last) (hlast : last < 9223372036854775807) (h1 : u64 now) (h2 : u64 t) :
    Calls Try.prog 57 #[.agg #[.int .i64 last, .slice A L.length c], .agg #[.int .i64 x0, .int .i64 x1, .int .i64 x2, .int .i64 x3, .int .i64 x4, .int .u64 x5, .bool x6, .int .u64 x7], .int .u64 now, .int .u64 t] w fun e w' => ∃ v, e = .returned (.tuple #[.agg #[.int .i64 (last + 1), v], .int .i64 (last + 1), .int .i64 0]) ∧ kT.R 40 w' w.heap.size (fun k => w.heap.size ≤ k) v (docPut (begL last ⟨x0, x1, ⟨x2, x3⟩, x4, x5, x6, x7⟩ now t) L) ∧ Below w.heap.size w w' := by
  have g1 : decide ((1024 : Int) ≤ (L.length : Int)) = false := decide_eq_false (by omega)
  have g2 : (last == 9223372036854775807) = false := by simp; omega
  have g3 : IntKind.i64.wrap (last + 1) = last + 1 := by simp [IntKind.wrap, IntKind.bits, IntKind.signed]; omega
  have hu64 := Try.underlying64
  have infoL : (Try.prog.info? 2).map (·.size) = some 1 := by kernel_rfl
  have infoU : (Try.prog.info? 22).map (·.size) = some 1 := by kernel_rfl
  have infoB : (Try.prog.info? 4).map (·.size) = some 1 := by kernel_rfl
  have HC := Aside0.mk hC
  have HX := Aside0.mk hlen
  have HT := Aside0.mk (fun W => later_calls h1 h2 W)
  generalize hl4 : ltr now t = l4 at HT
  generalize hl5 : nvr now t = l5 at HT
  have E4 := Aside0.mk hl4
  have E5 := Aside0.mk hl5
  clear hC hlen h1 h2 hl4 hl5
  go_enter Try.func57, Try.ntmps57
  go_wp2_with (first
    | ((with_reducible refine gate_dst (N := 4) rfl ?_); refine box_event ?hg (N := 4) ?hd (cs := #[.int .i64 last, .slice A L.length c]) (t := 64) ?hr ?_; (case hd => rfl); (case hg => rfl); (case hr => first | (go_simp; done) | (go_simp; rfl)); intro g4 hg4 w1 hbox hb; have HE4 := Aside0.mk (show w.heap.size ≤ g4 by omega); have HB1 := Aside0.mk hb; have B4 := Aside0.mk hbox; clear hb hbox hg4)
    | ((with_reducible refine gate_dst (N := 5) rfl ?_); refine box_event ?hg (N := 5) ?hd (cs := #[.int .i64 x0, .int .i64 x1, .int .i64 x2, .int .i64 x3, .int .i64 x4, .int .u64 x5, .bool x6, .int .u64 x7]) (t := 40) ?hr ?_; (case hd => rfl); (case hg => rfl); (case hr => first | (go_simp; done) | (go_simp; rfl)); intro g5 hg5 w2 hbox hb; have HB2 := Aside0.mk (below_step HB1.out hb); have HE5 := Aside0.mk (show w.heap.size ≤ g5 from by have := HB1.out.size; omega); have HN54 := Aside0.mk (show g5 ≠ g4 from by have := blk_lt B4.out; omega); have B42 := Aside0.mk (blk_below B4.out hb); have B5 := Aside0.mk hbox; clear hb hbox hg5 HB1 B4)
    | ((with_reducible refine gate_dst (N := 8) rfl ?_); refine box_event ?hg (N := 8) ?hd (cs := #[.int .i64 0, .slice none 0 0]) (t := 64) ?hr ?_; (case hd => rfl); (case hg => rfl); (case hr => first | (go_simp; done) | (go_simp; rfl)); intro g8 hg8 w3 hbox hb; have HE8 := Aside0.mk (show w.heap.size ≤ g8 from by have := HB2.out.size; omega); have HN84 := Aside0.mk (show g8 ≠ g4 from by have := blk_lt B42.out; omega); have HN85 := Aside0.mk (show g8 ≠ g5 from by have := blk_lt B5.out; omega); have HB3 := Aside0.mk (below_step HB2.out hb); have B43 := Aside0.mk (blk_below B42.out hb); have B53 := Aside0.mk (blk_below B5.out hb); have B83 := Aside0.mk hbox; have s0 : w3.cell? ⟨g4, 0, none⟩ = some (.int .i64 last) := (blk_cell B43.out 0).trans rfl; have s1 : w3.cell? ⟨g4, 1, none⟩ = some (.slice A L.length c) := (blk_cell B43.out 1).trans rfl; clear hb hbox hg8 HB2 B42 B5)
    | ((with_reducible refine gate_store (t := 2) (p := 24) (v := .tmp 23) rfl ?_); refine step_store rfl rfl rfl B43.out rfl (u := .int .i64 (last + 1)) (seg := [.int .i64 (last + 1)]) rfl rfl infoL (by simp [Value.oneCell']) (by show 0 + 1 ≤ 2; omega) (cur' := #[.int .i64 (last + 1), .slice A L.length c]) rfl ?_; intro w4 hbs hgs hss; have HB4 := Aside0.mk (below_mput HB3.out hgs HE4.out HB3.out.size); have B44 := Aside0.mk hbs; have B54 := Aside0.mk (blk_grown B53.out hgs (fun e => HN54.out (Option.some.inj e))); have B84 := Aside0.mk (blk_grown B83.out hgs (fun e => HN84.out (Option.some.inj e))); clear hbs hgs hss s0 s1 HB3 B43 B53 B83; have s0 : w4.cell? ⟨g4, 0, none⟩ = some (.int .i64 (last + 1)) := (blk_cell B44.out 0).trans rfl)
    | ((with_reducible refine gate_store (t := 2) (p := 27) (v := .tmp 26) rfl ?_); refine step_store rfl rfl rfl B54.out rfl (u := .int .i64 (last + 1)) (seg := [.int .i64 (last + 1)]) rfl rfl infoL (by simp [Value.oneCell']) (by show 0 + 1 ≤ 8; omega) (cur' := #[.int .i64 (last + 1), .int .i64 x1, .int .i64 x2, .int .i64 x3, .int .i64 x4, .int .u64 x5, .bool x6, .int .u64 x7]) rfl ?_; intro w5 hbs hgs hss; have HB5 := Aside0.mk (below_mput HB4.out hgs HE5.out HB4.out.size); have B55 := Aside0.mk hbs; have B45 := Aside0.mk (blk_grown B44.out hgs (fun e => HN54.out (Option.some.inj e).symm)); have B85 := Aside0.mk (blk_grown B84.out hgs (fun e => HN85.out (Option.some.inj e))); clear hbs hgs hss s0 HB4 B44 B54 B84)
    | (go_at_call 58; (refine (HT.out _).mono ?_); rintro e w6 ⟨rfl, hb⟩; have HB6 := Aside0.mk (below_step HB5.out hb); have B46 := Aside0.mk (blk_below B45.out hb); have B56 := Aside0.mk (blk_below B55.out hb); have B86 := Aside0.mk (blk_below B85.out hb); clear hb HB5 B45 B55 B85)
    | ((with_reducible refine gate_store (t := 22) (p := 34) (v := .tmp 32) rfl ?_); refine step_store rfl rfl rfl B56.out rfl (u := .int .u64 l4) (seg := [.int .u64 l4]) rfl rfl infoU (by simp [Value.oneCell']) (by show 5 + 1 ≤ 8; omega) (cur' := #[.int .i64 (last + 1), .int .i64 x1, .int .i64 x2, .int .i64 x3, .int .i64 x4, .int .u64 l4, .bool x6, .int .u64 x7]) rfl ?_; intro w7 hbs hgs hss; have HB7 := Aside0.mk (below_mput HB6.out hgs HE5.out HB6.out.size); have B57 := Aside0.mk hbs; have B47 := Aside0.mk (blk_grown B46.out hgs (fun e => HN54.out (Option.some.inj e).symm)); have B87 := Aside0.mk (blk_grown B86.out hgs (fun e => HN85.out (Option.some.inj e))); clear hbs hgs hss HB6 B46 B56 B86)
    | ((with_reducible refine gate_store (t := 4) (p := 35) (v := .tmp 33) rfl ?_); refine step_store rfl rfl rfl B57.out rfl (u := .bool l5) (seg := [.bool l5]) rfl rfl infoB (by simp [Value.oneCell']) (by show 6 + 1 ≤ 8; omega) (cur' := #[.int .i64 (last + 1), .int .i64 x1, .int .i64 x2, .int .i64 x3, .int .i64 x4, .int .u64 l4, .bool l5, .int .u64 x7]) rfl ?_; intro w8 hbs hgs hss; have HB8 := Aside0.mk (below_mput HB7.out hgs HE5.out HB7.out.size); have B58 := Aside0.mk hbs; have B48 := Aside0.mk (blk_grown B47.out hgs (fun e => HN54.out (Option.some.inj e).symm)); have B88 := Aside0.mk (blk_grown B87.out hgs (fun e => HN85.out (Option.some.inj e))); have HC8 := Aside0.mk (Kd.C_below HC.out HB8.out); clear hbs hgs hss HB7 B47 B57 B87))
  have s0 : w8.cell? ⟨g4, 0, none⟩ = some (.int .i64 (last + 1)) := (blk_cell B48.out 0).trans rfl
  have s1 : w8.cell? ⟨g4, 1, none⟩ = some (.slice A L.length c) := (blk_cell B48.out 1).trans rfl
  have t0 : w8.cell? ⟨g5, 0, none⟩ = some (.int .i64 (last + 1)) := (blk_cell B58.out 0).trans rfl
  have t1 : w8.cell? ⟨g5, 1, none⟩ = some (.int .i64 x1) := (blk_cell B58.out 1).trans rfl
  have t2 : w8.cell? ⟨g5, 2, none⟩ = some (.int .i64 x2) := (blk_cell B58.out 2).trans rfl
  have t3 : w8.cell? ⟨g5, 3, none⟩ = some (.int .i64 x3) := (blk_cell B58.out 3).trans rfl
  have t4 : w8.cell? ⟨g5, 4, none⟩ = some (.int .i64 x4) := (blk_cell B58.out 4).trans rfl
  have t5 : w8.cell? ⟨g5, 5, none⟩ = some (.int .u64 l4) := (blk_cell B58.out 5).trans rfl
  have t6 : w8.cell? ⟨g5, 6, none⟩ = some (.bool l5) := (blk_cell B58.out 6).trans rfl
  have t7 : w8.cell? ⟨g5, 7, none⟩ = some (.int .u64 x7) := (blk_cell B58.out 7).trans rfl
  have p0 : w8.cell? ⟨g8, 0, none⟩ = some (.int .i64 0) := (blk_cell B88.out 0).trans rfl
  have p1 : w8.cell? ⟨g8, 1, none⟩ = some (.slice none 0 0) := (blk_cell B88.out 1).trans rfl
  have z0 := blk_frozen B88.out 0
  have z1 := blk_frozen B88.out 1
  have hn1 := HN84.out
  have hn1' := HN84.out.symm
  have hn2 := HN85.out
  have hn2' := HN85.out.symm
  go_region_with (go_at_call 59; (refine (put_calls A c L ⟨last + 1, x1, ⟨x2, x3⟩, x4, l4, l5, x7⟩ (last + 1) _ (Kd.C_below HC8.out (pw_below_drewN (Below.refl _ _) _)) hc (by have := HX.out; omega)).mono ?_); rintro e w9 ⟨v, rfl, hr, hb⟩; obtain ⟨A9, n9, c9, rfl⟩ : ∃ A n c, v = .slice A n c := (let ⟨A, c, h⟩ := Kd.R_slice hr; ⟨A, _, c, h⟩); have HB9 := Aside0.mk (below_step (pw_below_drewN HB8.out 1) hb); have HR9 := Aside0.mk (Kd.R_mono hr (fun k q => Nat.le_trans (show w.heap.size ≤ (w8.drewN 1).heap.size from HB8.out.size) q)); have HR8 := Aside0.mk (Kd.R_lower HR9.out (show w.heap.size ≤ (w8.drewN 1).heap.size from HB8.out.size)); have B89 := Aside0.mk (blk_below (w := w8.drewN 1) B88.out hb); have B49 := Aside0.mk (blk_below (w := w8.drewN 1) B48.out hb); clear hr hb HR9 s0 s1 t0 t1 t2 t3 t4 t5 t6 t7 p0 p1 z0 z1; have s0 : w9.cell? ⟨g4, 0, none⟩ = some (.int .i64 (last + 1)) := (blk_cell B49.out 0).trans rfl; have p0 : w9.cell? ⟨g8, 0, none⟩ = some (.int .i64 0) := (blk_cell B89.out 0).trans rfl; have p1 : w9.cell? ⟨g8, 1, none⟩ = some (.slice none 0 0) := (blk_cell B89.out 1).trans rfl; have z0 := blk_frozen B89.out 0; have z1 := blk_frozen B89.out 1)
  all_goals
    go_wp2
    have q1 := set_step (cur' := #[.int .i64 (last + 1), .slice none 0 0]) B89.out 0 (.int .i64 (last + 1)) rfl
    have q2 := set_step (cur' := #[.int .i64 (last + 1), .slice A9 n9 c9]) q1.1 1 (.slice A9 n9 c9) rfl
    refine bodyPost_ret (results_list (rs := [.cell 8 64, .tmp 9, .tmp 10]) rfl (by simp) (.cell g8 64 #[.int .i64 (last + 1), .slice A9 n9 c9] (0, 0) _ rfl q2.1 Try.underlying64 rfl (by kernel_rfl) (.tmp (.tmp .nil)))) rfl ?_
    have E : begL last ⟨x0, x1, ⟨x2, x3⟩, x4, x5, x6, x7⟩ now t = ⟨last + 1, x1, ⟨x2, x3⟩, x4, l4, l5, x7⟩ := by unfold begL; rw [E4.out, E5.out]
    rw [E]
    exact ⟨_, rfl, Kd.R_set (Kd.R_set HR8.out B89.out (by decide) 0 _) q1.1 (by decide) 1 _, below_mput (below_mput HB9.out q1.2 HE8.out HB9.out.size) q2.2 HE8.out (Nat.le_trans HB9.out.size q1.2.size)⟩
end Go.Proofs.Ytceopcfmhidjlaa.PTimerPlays
set_option linter.unusedVariables false
set_option linter.unusedSimpArgs false
namespace Go.Proofs.Ytceopcfmhidjlaa.PTimerPlays
open Go.RowKit Go.Proofs.Ytceopcfmhidjlaa.Ef Go.Proofs.Ytceopcfmhidjlaa.Mp Go.Proofs.Ytceopcfmhidjlaa.Hp Go.Proofs.YtceopcfmhidjlaaW.PrintWords Go.Proofs.YtceopcfmhidjlaaW.PrintLast Go.Proofs.YtceopcfmhidjlaaW.PrintMore
/-- The row that came, or a new one. -/
def NewRow (w w' : World) (A : Option Addr) (c : Nat) (A' : Option Addr) (c' : Nat) (L L' : List Tm) : Prop := (A' = A ∧ c' = c ∧ L' = L) ∨ kT.R 40 w' w.heap.size (fun k => w.heap.size ≤ k) (.slice A' L'.length c') L'
section
variable {w w0 W W1 : World} {A A' : Option Addr} {c c' : Nat} {L L' : List Tm}
theorem NewRow.set (h : NewRow w W A c A' c' L L') {g : Nat} {cs : Array Value} (hb : W.heap[g]? = some (.cells cs 64 (0, 0))) (j : Nat) (u : Value) : NewRow w (W.setCell ⟨g, j, none⟩ u) A c A' c' L L' := h.imp id (fun h => Kd.R_set h hb (by decide) j u)
theorem NewRow.below (h : NewRow w W A c A' c' L L') (hb : Below W.heap.size W W1) : NewRow w W1 A c A' c' L L' := h.imp id (fun h => Kd.R_below h hb)
theorem NewRow.lower (h : NewRow w W A c A' c' L L') (hb : w0.heap.size ≤ w.heap.size) : NewRow w0 W A c A' c' L L' := h.imp id (fun h => Kd.R_mono (Kd.R_lower h hb) (fun k q => Nat.le_trans hb q))
theorem NewRow.grown (h : NewRow w W A c A' c' L L') {g : Nat} {cs : Array Value} (hb : W.heap[g]? = some (.cells cs 64 (0, 0))) (hg : W.grownBy W1 (some g)) : NewRow w W1 A c A' c' L L' :=
  h.imp id (fun h => Kd.R_mono (Kd.R_grown (Kd.R_types h hb (by decide)) hg (fun k q e => q.2 (Option.some.inj e))) (fun k q => q.1))
end
def armO (last : Int) (L : List Tm) (x : Tm) (now t : Int) : Int × List Tm × Int × Int := if 1024 ≤ L.length ∨ last = 9223372036854775807 then (last, L, 0, 2) else (last + 1, docPut (begL last x now t) L, last + 1, 0)
set_option maxHeartbeats 4000000 in
set_option maxRecDepth 100000 in
theorem armed_full (A : Option Addr) (c : Nat) (L : List Tm) (x0 x1 x2 x3 x4 x5 : Int) (x6 : Bool) (x7 : Int) (last now t : Int) (w : World) (hC : kT.C w A L.length L) (hf : 1024 ≤ L.length ∨ last = 9223372036854775807) :
    Calls Try.prog 57 #[.agg #[.int .i64 last, .slice A L.length c], .agg #[.int .i64 x0, .int .i64 x1, .int .i64 x2, .int .i64 x3, .int .i64 x4, .int .u64 x5, .bool x6, .int .u64 x7], .int .u64 now, .int .u64 t] w fun e w' => e = .returned (.tuple #[.agg #[.int .i64 last, .slice A L.length c], .int .i64 0, .int .i64 2]) ∧ Below w.heap.size w w' := by
  have infoS : (Try.prog.info? 64).map (·.size) = some 2 := by kernel_rfl
  have hu64 := Try.underlying64
  have HC := Aside0.mk hC
  clear hC
  by_cases h1 : 1024 ≤ L.length
  · have g1 : decide ((1024 : Int) ≤ (L.length : Int)) = true := decide_eq_true (by omega)
    clear hf h1
    go_enter Try.func57, Try.ntmps57
    go_wp2_with (first
      | ((with_reducible refine gate_dst (N := 4) rfl ?_); refine box_event ?hg (N := 4) ?hd (cs := #[.int .i64 last, .slice A L.length c]) (t := 64) ?hr ?_; (case hd => rfl); (case hg => rfl); (case hr => first | (go_simp; done) | (go_simp; rfl)); intro g4 hg4 w1 hbox hb; have HE4 := Aside0.mk (show w.heap.size ≤ g4 by omega); have HB1 := Aside0.mk hb; have B4 := Aside0.mk hbox; clear hb hbox hg4)
      | ((with_reducible refine gate_dst (N := 5) rfl ?_); refine box_event ?hg (N := 5) ?hd (cs := #[.int .i64 x0, .int .i64 x1, .int .i64 x2, .int .i64 x3, .int .i64 x4, .int .u64 x5, .bool x6, .int .u64 x7]) (t := 40) ?hr ?_; (case hd => rfl); (case hg => rfl); (case hr => first | (go_simp; done) | (go_simp; rfl)); intro g5 hg5 w2 hbox hb; have HB2 := Aside0.mk (below_step HB1.out hb); have B42 := Aside0.mk (blk_below B4.out hb); have B5 := Aside0.mk hbox; clear hb hbox hg5 HB1 B4)
      | ((with_reducible refine gate_dst (N := 8) rfl ?_); refine box_event ?hg (N := 8) ?hd (cs := #[.int .i64 0, .slice none 0 0]) (t := 64) ?hr ?_; (case hd => rfl); (case hg => rfl); (case hr => first | (go_simp; done) | (go_simp; rfl)); intro g8 hg8 w3 hbox hb; have HE8 := Aside0.mk (show w.heap.size ≤ g8 from by have := HB2.out.size; omega); have HN84 := Aside0.mk (show g8 ≠ g4 from by have := blk_lt B42.out; omega); have HB3 := Aside0.mk (below_step HB2.out hb); have B43 := Aside0.mk (blk_below B42.out hb); have B53 := Aside0.mk (blk_below B5.out hb); have B83 := Aside0.mk hbox; have HC3 := Aside0.mk (Kd.C_below HC.out HB3.out); clear hb hbox hg8; have s0 : w3.cell? ⟨g4, 0, none⟩ = some (.int .i64 last) := (blk_cell B43.out 0).trans rfl; have s1 : w3.cell? ⟨g4, 1, none⟩ = some (.slice A L.length c) := (blk_cell B43.out 1).trans rfl)
      | ((with_reducible refine gate_store (t := 64) (p := 8) (v := .tmp 20) rfl ?_); refine step_store rfl rfl rfl B83.out rfl (u := .agg #[.int .i64 last, .slice A L.length c]) (seg := [.int .i64 last, .slice A L.length c]) rfl rfl infoS (by simp [Value.oneCell']) (Nat.le_refl 2) (cur' := #[.int .i64 last, .slice A L.length c]) rfl ?_; intro w4 hbs hgs hss; have HB4 := Aside0.mk (below_mput HB3.out hgs HE8.out HB3.out.size); have BF := Aside0.mk hbs; clear hbs hgs hss)
      )
    refine bodyPost_ret (results_list (rs := [.cell 8 64, .tmp 9, .tmp 10]) rfl (by simp) (.cell g8 64 #[.int .i64 last, .slice A L.length c] (0, 0) _ rfl BF.out Try.underlying64 rfl (by kernel_rfl) (.tmp (.tmp .nil)))) rfl ?_
    exact ⟨rfl, HB4.out⟩
  · have g1 : decide ((1024 : Int) ≤ (L.length : Int)) = false := decide_eq_false (by omega)
    have g2 : last = 9223372036854775807 := by omega
    subst g2
    clear hf h1
    go_enter Try.func57, Try.ntmps57
    go_wp2_with (first
      | ((with_reducible refine gate_dst (N := 4) rfl ?_); refine box_event ?hg (N := 4) ?hd (cs := #[.int .i64 9223372036854775807, .slice A L.length c]) (t := 64) ?hr ?_; (case hd => rfl); (case hg => rfl); (case hr => first | (go_simp; done) | (go_simp; rfl)); intro g4 hg4 w1 hbox hb; have HE4 := Aside0.mk (show w.heap.size ≤ g4 by omega); have HB1 := Aside0.mk hb; have B4 := Aside0.mk hbox; clear hb hbox hg4)
      | ((with_reducible refine gate_dst (N := 5) rfl ?_); refine box_event ?hg (N := 5) ?hd (cs := #[.int .i64 x0, .int .i64 x1, .int .i64 x2, .int .i64 x3, .int .i64 x4, .int .u64 x5, .bool x6, .int .u64 x7]) (t := 40) ?hr ?_; (case hd => rfl); (case hg => rfl); (case hr => first | (go_simp; done) | (go_simp; rfl)); intro g5 hg5 w2 hbox hb; have HB2 := Aside0.mk (below_step HB1.out hb); have B42 := Aside0.mk (blk_below B4.out hb); have B5 := Aside0.mk hbox; clear hb hbox hg5 HB1 B4)
      | ((with_reducible refine gate_dst (N := 8) rfl ?_); refine box_event ?hg (N := 8) ?hd (cs := #[.int .i64 0, .slice none 0 0]) (t := 64) ?hr ?_; (case hd => rfl); (case hg => rfl); (case hr => first | (go_simp; done) | (go_simp; rfl)); intro g8 hg8 w3 hbox hb; have HE8 := Aside0.mk (show w.heap.size ≤ g8 from by have := HB2.out.size; omega); have HN84 := Aside0.mk (show g8 ≠ g4 from by have := blk_lt B42.out; omega); have HB3 := Aside0.mk (below_step HB2.out hb); have B43 := Aside0.mk (blk_below B42.out hb); have B53 := Aside0.mk (blk_below B5.out hb); have B83 := Aside0.mk hbox; have HC3 := Aside0.mk (Kd.C_below HC.out HB3.out); clear hb hbox hg8; have s0 : w3.cell? ⟨g4, 0, none⟩ = some (.int .i64 9223372036854775807) := (blk_cell B43.out 0).trans rfl; have s1 : w3.cell? ⟨g4, 1, none⟩ = some (.slice A L.length c) := (blk_cell B43.out 1).trans rfl)
      | ((with_reducible refine gate_store (t := 64) (p := 8) (v := .tmp 20) rfl ?_); refine step_store rfl rfl rfl B83.out rfl (u := .agg #[.int .i64 9223372036854775807, .slice A L.length c]) (seg := [.int .i64 9223372036854775807, .slice A L.length c]) rfl rfl infoS (by simp [Value.oneCell']) (Nat.le_refl 2) (cur' := #[.int .i64 9223372036854775807, .slice A L.length c]) rfl ?_; intro w4 hbs hgs hss; have HB4 := Aside0.mk (below_mput HB3.out hgs HE8.out HB3.out.size); have BF := Aside0.mk hbs; clear hbs hgs hss)
      )
    refine bodyPost_ret (results_list (rs := [.cell 8 64, .tmp 9, .tmp 10]) rfl (by simp) (.cell g8 64 #[.int .i64 9223372036854775807, .slice A L.length c] (0, 0) _ rfl BF.out Try.underlying64 rfl (by kernel_rfl) (.tmp (.tmp .nil)))) rfl ?_
    exact ⟨rfl, HB4.out⟩
theorem armed_calls (A : Option Addr) (c : Nat) (L : List Tm) (x0 x1 x2 x3 x4 x5 : Int) (x6 : Bool) (x7 : Int) (last now t : Int) (w : World) (hC : kT.C w A L.length L) (hc : L.length ≤ c) (h0 : 0 ≤ last) (hm : last ≤ 9223372036854775807) (h1 : u64 now) (h2 : u64 t) {l' r er : Int} {L' : List Tm} (h : armO last L ⟨x0, x1, ⟨x2, x3⟩, x4, x5, x6, x7⟩ now t = (l', L', r, er)) :
    Calls Try.prog 57 #[.agg #[.int .i64 last, .slice A L.length c], .agg #[.int .i64 x0, .int .i64 x1, .int .i64 x2, .int .i64 x3, .int .i64 x4, .int .u64 x5, .bool x6, .int .u64 x7], .int .u64 now, .int .u64 t] w fun e w' => ∃ A' c', e = .returned (.tuple #[.agg #[.int .i64 l', .slice A' L'.length c'], .int .i64 r, .int .i64 er]) ∧ NewRow w w' A c A' c' L L' ∧ Below w.heap.size w w' := by
  unfold armO at h
  by_cases hf : 1024 ≤ L.length ∨ last = 9223372036854775807
  · rw [if_pos hf] at h
    cases h
    exact (armed_full A c L x0 x1 x2 x3 x4 x5 x6 x7 last now t w hC hf).mono fun e w' ⟨he, hb⟩ => ⟨A, c, he, .inl ⟨rfl, rfl, rfl⟩, hb⟩
  · rw [if_neg hf] at h
    cases h
    exact (armed_new A c L x0 x1 x2 x3 x4 x5 x6 x7 last now t w hC hc (by omega) h0 (by omega) h1 h2).mono fun e w' ⟨v, he, hr, hb⟩ => by
      obtain ⟨A9, c9, rfl⟩ := Kd.R_slice hr
      exact ⟨A9, c9, he, .inr hr, hb⟩
set_option maxHeartbeats 4000000 in
set_option maxRecDepth 100000 in
theorem docAfter_calls (A : Option Addr) (c : Nat) (L : List Tm) (last ch now t : Int) (w : World) (hC : kT.C w A L.length L) (hc : L.length ≤ c) (h0 : 0 ≤ last) (hm : last ≤ 9223372036854775807) (h1 : u64 now) (h2 : u64 t) {l' r er : Int} {L' : List Tm} (h : armO last L ⟨0, 2, ⟨0, 0⟩, ch, 0, false, 0⟩ now t = (l', L', r, er)) :
    Calls Try.prog 37 #[.agg #[.int .i64 last, .slice A L.length c], .int .i64 ch, .int .u64 now, .int .u64 t] w fun e w' => ∃ A' c', e = .returned (.tuple #[.agg #[.int .i64 l', .slice A' L'.length c'], .int .i64 r, .int .i64 er]) ∧ NewRow w w' A c A' c' L L' ∧ Below w.heap.size w w' := by
  have infoS : (Try.prog.info? 64).map (·.size) = some 2 := by kernel_rfl
  have hu64 := Try.underlying64
  have HC := Aside0.mk hC
  clear hC
  go_enter Try.func37, Try.ntmps37
  go_wp2_with (first
    | ((with_reducible refine gate_dst (N := 4) rfl ?_); refine box_event ?hg (N := 4) ?hd (cs := #[.int .i64 last, .slice A L.length c]) (t := 64) ?hr ?_; (case hd => rfl); (case hg => rfl); (case hr => first | (go_simp; done) | (go_simp; rfl)); intro g4 hg4 w1 hbox hb; have HE4 := Aside0.mk (show w.heap.size ≤ g4 by omega); have HB1 := Aside0.mk hb; have B4 := Aside0.mk hbox; clear hb hbox hg4)
    | ((with_reducible refine gate_dst (N := 8) rfl ?_); refine box_event ?hg (N := 8) ?hd (cs := #[.int .i64 0, .slice none 0 0]) (t := 64) ?hr ?_; (case hd => rfl); (case hg => rfl); (case hr => first | (go_simp; done) | (go_simp; rfl)); intro g8 hg8 w3 hbox hb; have HE8 := Aside0.mk (show w.heap.size ≤ g8 from by have := HB1.out.size; omega); have HN84 := Aside0.mk (show g8 ≠ g4 from by have := blk_lt B4.out; omega); have HB3 := Aside0.mk (below_step HB1.out hb); have B43 := Aside0.mk (blk_below B4.out hb); have B83 := Aside0.mk hbox; have HC3 := Aside0.mk (Kd.C_below HC.out HB3.out); clear hb hbox hg8; have s0 : w3.cell? ⟨g4, 0, none⟩ = some (.int .i64 last) := (blk_cell B43.out 0).trans rfl; have s1 : w3.cell? ⟨g4, 1, none⟩ = some (.slice A L.length c) := (blk_cell B43.out 1).trans rfl)
    | (go_at_call 57; (refine (armed_calls A c L 0 2 0 0 ch 0 false 0 last now t _ HC3.out hc h0 hm h1 h2 h).mono ?_); rintro e w4 ⟨A', c', rfl, hr, hb⟩; have HR := Aside0.mk (hr.lower HB3.out.size); have HB4 := Aside0.mk (below_step HB3.out hb); have B84 := Aside0.mk (blk_below B83.out hb); clear hr hb s0 s1)
    | ((with_reducible refine gate_store (t := 64) (p := 8) (v := .tmp 17) rfl ?_); refine step_store rfl rfl rfl B84.out rfl (u := .agg #[.int .i64 l', .slice A' L'.length c']) (seg := [.int .i64 l', .slice A' L'.length c']) rfl rfl infoS (by simp [Value.oneCell']) (Nat.le_refl 2) (cur' := #[.int .i64 l', .slice A' L'.length c']) rfl ?_; intro w5 hbs hgs hss; have HB5 := Aside0.mk (below_mput HB4.out hgs HE8.out HB4.out.size); have HR5 := Aside0.mk (HR.out.grown B84.out hgs); have BF := Aside0.mk hbs; clear hbs hgs hss)
    )
  refine bodyPost_ret (results_list (rs := [.cell 8 64, .tmp 9, .tmp 10]) rfl (by simp) (.cell g8 64 #[.int .i64 l', .slice A' L'.length c'] (0, 0) _ rfl BF.out Try.underlying64 rfl (by kernel_rfl) (.tmp (.tmp .nil)))) rfl ?_
  exact ⟨A', c', rfl, HR5.out, HB5.out⟩
set_option maxHeartbeats 4000000 in
set_option maxRecDepth 100000 in
theorem docEvery_zero (A : Option Addr) (c : Nat) (L : List Tm) (last ch now : Int) (w : World) (hC : kT.C w A L.length L) :
    Calls Try.prog 38 #[.agg #[.int .i64 last, .slice A L.length c], .int .i64 ch, .int .u64 now, .int .u64 0] w fun e w' => e = .returned (.tuple #[.agg #[.int .i64 last, .slice A L.length c], .int .i64 0, .int .i64 1]) ∧ Below w.heap.size w w' := by
  have infoS : (Try.prog.info? 64).map (·.size) = some 2 := by kernel_rfl
  have hu64 := Try.underlying64
  have HC := Aside0.mk hC
  clear hC
  go_enter Try.func38, Try.ntmps38
  go_wp2_with (first
    | ((with_reducible refine gate_dst (N := 4) rfl ?_); refine box_event ?hg (N := 4) ?hd (cs := #[.int .i64 last, .slice A L.length c]) (t := 64) ?hr ?_; (case hd => rfl); (case hg => rfl); (case hr => first | (go_simp; done) | (go_simp; rfl)); intro g4 hg4 w1 hbox hb; have HE4 := Aside0.mk (show w.heap.size ≤ g4 by omega); have HB1 := Aside0.mk hb; have B4 := Aside0.mk hbox; clear hb hbox hg4)
    | ((with_reducible refine gate_dst (N := 8) rfl ?_); refine box_event ?hg (N := 8) ?hd (cs := #[.int .i64 0, .slice none 0 0]) (t := 64) ?hr ?_; (case hd => rfl); (case hg => rfl); (case hr => first | (go_simp; done) | (go_simp; rfl)); intro g8 hg8 w3 hbox hb; have HE8 := Aside0.mk (show w.heap.size ≤ g8 from by have := HB1.out.size; omega); have HN84 := Aside0.mk (show g8 ≠ g4 from by have := blk_lt B4.out; omega); have HB3 := Aside0.mk (below_step HB1.out hb); have B43 := Aside0.mk (blk_below B4.out hb); have B83 := Aside0.mk hbox; have HC3 := Aside0.mk (Kd.C_below HC.out HB3.out); clear hb hbox hg8; have s0 : w3.cell? ⟨g4, 0, none⟩ = some (.int .i64 last) := (blk_cell B43.out 0).trans rfl; have s1 : w3.cell? ⟨g4, 1, none⟩ = some (.slice A L.length c) := (blk_cell B43.out 1).trans rfl)
    | ((with_reducible refine gate_store (t := 64) (p := 8) (v := .tmp 13) rfl ?_); refine step_store rfl rfl rfl B83.out rfl (u := .agg #[.int .i64 last, .slice A L.length c]) (seg := [.int .i64 last, .slice A L.length c]) rfl rfl infoS (by simp [Value.oneCell']) (Nat.le_refl 2) (cur' := #[.int .i64 last, .slice A L.length c]) rfl ?_; intro w4 hbs hgs hss; have HB4 := Aside0.mk (below_mput HB3.out hgs HE8.out HB3.out.size); have BF := Aside0.mk hbs; clear hbs hgs hss)
    )
  refine bodyPost_ret (results_list (rs := [.cell 8 64, .tmp 9, .tmp 10]) rfl (by simp) (.cell g8 64 #[.int .i64 last, .slice A L.length c] (0, 0) _ rfl BF.out Try.underlying64 rfl (by kernel_rfl) (.tmp (.tmp .nil)))) rfl ?_
  exact ⟨rfl, HB4.out⟩
set_option maxHeartbeats 4000000 in
set_option maxRecDepth 100000 in
theorem docEvery_calls (A : Option Addr) (c : Nat) (L : List Tm) (last ch now t : Int) (w : World) (hC : kT.C w A L.length L) (hc : L.length ≤ c) (h0 : 0 ≤ last) (hm : last ≤ 9223372036854775807) (h1 : u64 now) (h2 : u64 t) (hz : t ≠ 0) {l' r er : Int} {L' : List Tm} (h : armO last L ⟨0, 3, ⟨0, 0⟩, ch, 0, false, t⟩ now t = (l', L', r, er)) :
    Calls Try.prog 38 #[.agg #[.int .i64 last, .slice A L.length c], .int .i64 ch, .int .u64 now, .int .u64 t] w fun e w' => ∃ A' c', e = .returned (.tuple #[.agg #[.int .i64 l', .slice A' L'.length c'], .int .i64 r, .int .i64 er]) ∧ NewRow w w' A c A' c' L L' ∧ Below w.heap.size w w' := by
  have infoS : (Try.prog.info? 64).map (·.size) = some 2 := by kernel_rfl
  have hu64 := Try.underlying64
  have HC := Aside0.mk hC
  have hz' : (t == 0) = false := by simpa using hz
  clear hC
  go_enter Try.func38, Try.ntmps38
  go_wp2_with (first
    | ((with_reducible refine gate_dst (N := 4) rfl ?_); refine box_event ?hg (N := 4) ?hd (cs := #[.int .i64 last, .slice A L.length c]) (t := 64) ?hr ?_; (case hd => rfl); (case hg => rfl); (case hr => first | (go_simp; done) | (go_simp; rfl)); intro g4 hg4 w1 hbox hb; have HE4 := Aside0.mk (show w.heap.size ≤ g4 by omega); have HB1 := Aside0.mk hb; have B4 := Aside0.mk hbox; clear hb hbox hg4)
    | ((with_reducible refine gate_dst (N := 8) rfl ?_); refine box_event ?hg (N := 8) ?hd (cs := #[.int .i64 0, .slice none 0 0]) (t := 64) ?hr ?_; (case hd => rfl); (case hg => rfl); (case hr => first | (go_simp; done) | (go_simp; rfl)); intro g8 hg8 w3 hbox hb; have HE8 := Aside0.mk (show w.heap.size ≤ g8 from by have := HB1.out.size; omega); have HN84 := Aside0.mk (show g8 ≠ g4 from by have := blk_lt B4.out; omega); have HB3 := Aside0.mk (below_step HB1.out hb); have B43 := Aside0.mk (blk_below B4.out hb); have B83 := Aside0.mk hbox; have HC3 := Aside0.mk (Kd.C_below HC.out HB3.out); clear hb hbox hg8; have s0 : w3.cell? ⟨g4, 0, none⟩ = some (.int .i64 last) := (blk_cell B43.out 0).trans rfl; have s1 : w3.cell? ⟨g4, 1, none⟩ = some (.slice A L.length c) := (blk_cell B43.out 1).trans rfl)
    | (go_at_call 57; (refine (armed_calls A c L 0 3 0 0 ch 0 false t last now t _ HC3.out hc h0 hm h1 h2 h).mono ?_); rintro e w4 ⟨A', c', rfl, hr, hb⟩; have HR := Aside0.mk (hr.lower HB3.out.size); have HB4 := Aside0.mk (below_step HB3.out hb); have B84 := Aside0.mk (blk_below B83.out hb); clear hr hb s0 s1)
    | ((with_reducible refine gate_store (t := 64) (p := 8) (v := .tmp 21) rfl ?_); refine step_store rfl rfl rfl B84.out rfl (u := .agg #[.int .i64 l', .slice A' L'.length c']) (seg := [.int .i64 l', .slice A' L'.length c']) rfl rfl infoS (by simp [Value.oneCell']) (Nat.le_refl 2) (cur' := #[.int .i64 l', .slice A' L'.length c']) rfl ?_; intro w5 hbs hgs hss; have HB5 := Aside0.mk (below_mput HB4.out hgs HE8.out HB4.out.size); have HR5 := Aside0.mk (HR.out.grown B84.out hgs); have BF := Aside0.mk hbs; clear hbs hgs hss)
    )
  refine bodyPost_ret (results_list (rs := [.cell 8 64, .tmp 9, .tmp 10]) rfl (by simp) (.cell g8 64 #[.int .i64 l', .slice A' L'.length c'] (0, 0) _ rfl BF.out Try.underlying64 rfl (by kernel_rfl) (.tmp (.tmp .nil)))) rfl ?_
  exact ⟨A', c', rfl, HR5.out, HB5.out⟩
set_option maxHeartbeats 4000000 in
set_option maxRecDepth 100000 in
theorem docSleep_sleeps (A : Option Addr) (c : Nat) (L : List Tm) (last s g now t : Int) (w : World) (hC : kT.C w A L.length L) (hc : L.length ≤ c) (hs : rotaref14_Sleeps.f (L.length + 1) last L s g = some true) :
    Calls Try.prog 36 #[.agg #[.int .i64 last, .slice A L.length c], .agg #[.int .i64 s, .int .i64 g], .int .u64 now, .int .u64 t] w fun e w' => e = .returned (.tuple #[.agg #[.int .i64 last, .slice A L.length c], .int .i64 141]) ∧ Below w.heap.size w w' := by
  have infoS : (Try.prog.info? 64).map (·.size) = some 2 := by kernel_rfl
  have hu64 := Try.underlying64
  have HC := Aside0.mk hC
  clear hC
  go_enter Try.func36, Try.ntmps36
  go_wp2_with (first
    | ((with_reducible refine gate_dst (N := 4) rfl ?_); refine box_event ?hg (N := 4) ?hd (cs := #[.int .i64 last, .slice A L.length c]) (t := 64) ?hr ?_; (case hd => rfl); (case hg => rfl); (case hr => first | (go_simp; done) | (go_simp; rfl)); intro g4 hg4 w1 hbox hb; have HE4 := Aside0.mk (show w.heap.size ≤ g4 by omega); have HB1 := Aside0.mk hb; have B4 := Aside0.mk hbox; clear hb hbox hg4)
    | ((with_reducible refine gate_dst (N := 5) rfl ?_); refine box_event ?hg (N := 5) ?hd (cs := #[.int .i64 s, .int .i64 g]) (t := 30) ?hr ?_; (case hd => rfl); (case hg => rfl); (case hr => first | (go_simp; done) | (go_simp; rfl)); intro g5 hg5 w2 hbox hb; have HB2 := Aside0.mk (below_step HB1.out hb); have B42 := Aside0.mk (blk_below B4.out hb); have B5 := Aside0.mk hbox; clear hb hbox hg5 HB1 B4)
    | ((with_reducible refine gate_dst (N := 8) rfl ?_); refine box_event ?hg (N := 8) ?hd (cs := #[.int .i64 0, .slice none 0 0]) (t := 64) ?hr ?_; (case hd => rfl); (case hg => rfl); (case hr => first | (go_simp; done) | (go_simp; rfl)); intro g8 hg8 w3 hbox hb; have HE8 := Aside0.mk (show w.heap.size ≤ g8 from by have := HB2.out.size; omega); have HN84 := Aside0.mk (show g8 ≠ g4 from by have := blk_lt B42.out; omega); have HB3 := Aside0.mk (below_step HB2.out hb); have B43 := Aside0.mk (blk_below B42.out hb); have B53 := Aside0.mk (blk_below B5.out hb); have B83 := Aside0.mk hbox; have HC3 := Aside0.mk (Kd.C_below HC.out HB3.out); clear hb hbox hg8; have s0 : w3.cell? ⟨g4, 0, none⟩ = some (.int .i64 last) := (blk_cell B43.out 0).trans rfl; have s1 : w3.cell? ⟨g4, 1, none⟩ = some (.slice A L.length c) := (blk_cell B43.out 1).trans rfl; have t0 : w3.cell? ⟨g5, 0, none⟩ = some (.int .i64 s) := (blk_cell B53.out 0).trans rfl; have t1 : w3.cell? ⟨g5, 1, none⟩ = some (.int .i64 g) := (blk_cell B53.out 1).trans rfl)
    | (go_at_call 42; (refine (rotaref14_Sleeps.calls (L.length + 1) last A c L s g true _ HC3.out hc hs).mono ?_); rintro e w4 ⟨rfl, hb⟩; have HB4 := Aside0.mk (below_step HB3.out hb); have B84 := Aside0.mk (blk_below B83.out hb); have B44 := Aside0.mk (blk_below B43.out hb); have B54 := Aside0.mk (blk_below B53.out hb); have HC4 := Aside0.mk (Kd.C_below HC3.out hb); clear hb s0 s1 t0 t1; have s0 : w4.cell? ⟨g4, 0, none⟩ = some (.int .i64 last) := (blk_cell B44.out 0).trans rfl; have s1 : w4.cell? ⟨g4, 1, none⟩ = some (.slice A L.length c) := (blk_cell B44.out 1).trans rfl; have t0 : w4.cell? ⟨g5, 0, none⟩ = some (.int .i64 s) := (blk_cell B54.out 0).trans rfl; have t1 : w4.cell? ⟨g5, 1, none⟩ = some (.int .i64 g) := (blk_cell B54.out 1).trans rfl)
    | ((with_reducible refine gate_store (t := 64) (p := 8) (v := .tmp 18) rfl ?_); refine step_store rfl rfl rfl B84.out rfl (u := .agg #[.int .i64 last, .slice A L.length c]) (seg := [.int .i64 last, .slice A L.length c]) rfl rfl infoS (by simp [Value.oneCell']) (Nat.le_refl 2) (cur' := #[.int .i64 last, .slice A L.length c]) rfl ?_; intro w5 hbs hgs hss; have HB5 := Aside0.mk (below_mput HB4.out hgs HE8.out HB4.out.size); have BF := Aside0.mk hbs; clear hbs hgs hss)
    )
  refine bodyPost_ret (results_list (rs := [.cell 8 64, .tmp 9]) rfl (by simp) (.cell g8 64 #[.int .i64 last, .slice A L.length c] (0, 0) _ rfl BF.out Try.underlying64 rfl (by kernel_rfl) (.tmp .nil))) rfl ?_
  exact ⟨rfl, HB5.out⟩
set_option maxHeartbeats 4000000 in
set_option maxRecDepth 100000 in
theorem docSleep_calls (A : Option Addr) (c : Nat) (L : List Tm) (last s g now t : Int) (w : World) (hC : kT.C w A L.length L) (hc : L.length ≤ c) (h0 : 0 ≤ last) (hm : last ≤ 9223372036854775807) (h1 : u64 now) (h2 : u64 t) (hs : rotaref14_Sleeps.f (L.length + 1) last L s g = some false) {l' r er : Int} {L' : List Tm} (h : armO last L ⟨0, 1, ⟨s, g⟩, 0, 0, false, 0⟩ now t = (l', L', r, er)) :
    Calls Try.prog 36 #[.agg #[.int .i64 last, .slice A L.length c], .agg #[.int .i64 s, .int .i64 g], .int .u64 now, .int .u64 t] w fun e w' => ∃ A' c', e = .returned (.tuple #[.agg #[.int .i64 l', .slice A' L'.length c'], .int .i64 er]) ∧ NewRow w w' A c A' c' L L' ∧ Below w.heap.size w w' := by
  have infoS : (Try.prog.info? 64).map (·.size) = some 2 := by kernel_rfl
  have hu64 := Try.underlying64
  have HC := Aside0.mk hC
  clear hC
  go_enter Try.func36, Try.ntmps36
  go_wp2_with (first
    | ((with_reducible refine gate_dst (N := 4) rfl ?_); refine box_event ?hg (N := 4) ?hd (cs := #[.int .i64 last, .slice A L.length c]) (t := 64) ?hr ?_; (case hd => rfl); (case hg => rfl); (case hr => first | (go_simp; done) | (go_simp; rfl)); intro g4 hg4 w1 hbox hb; have HE4 := Aside0.mk (show w.heap.size ≤ g4 by omega); have HB1 := Aside0.mk hb; have B4 := Aside0.mk hbox; clear hb hbox hg4)
    | ((with_reducible refine gate_dst (N := 5) rfl ?_); refine box_event ?hg (N := 5) ?hd (cs := #[.int .i64 s, .int .i64 g]) (t := 30) ?hr ?_; (case hd => rfl); (case hg => rfl); (case hr => first | (go_simp; done) | (go_simp; rfl)); intro g5 hg5 w2 hbox hb; have HB2 := Aside0.mk (below_step HB1.out hb); have B42 := Aside0.mk (blk_below B4.out hb); have B5 := Aside0.mk hbox; clear hb hbox hg5 HB1 B4)
    | ((with_reducible refine gate_dst (N := 8) rfl ?_); refine box_event ?hg (N := 8) ?hd (cs := #[.int .i64 0, .slice none 0 0]) (t := 64) ?hr ?_; (case hd => rfl); (case hg => rfl); (case hr => first | (go_simp; done) | (go_simp; rfl)); intro g8 hg8 w3 hbox hb; have HE8 := Aside0.mk (show w.heap.size ≤ g8 from by have := HB2.out.size; omega); have HN84 := Aside0.mk (show g8 ≠ g4 from by have := blk_lt B42.out; omega); have HB3 := Aside0.mk (below_step HB2.out hb); have B43 := Aside0.mk (blk_below B42.out hb); have B53 := Aside0.mk (blk_below B5.out hb); have B83 := Aside0.mk hbox; have HC3 := Aside0.mk (Kd.C_below HC.out HB3.out); clear hb hbox hg8; have s0 : w3.cell? ⟨g4, 0, none⟩ = some (.int .i64 last) := (blk_cell B43.out 0).trans rfl; have s1 : w3.cell? ⟨g4, 1, none⟩ = some (.slice A L.length c) := (blk_cell B43.out 1).trans rfl; have t0 : w3.cell? ⟨g5, 0, none⟩ = some (.int .i64 s) := (blk_cell B53.out 0).trans rfl; have t1 : w3.cell? ⟨g5, 1, none⟩ = some (.int .i64 g) := (blk_cell B53.out 1).trans rfl)
    | (go_at_call 42; (refine (rotaref14_Sleeps.calls (L.length + 1) last A c L s g false _ HC3.out hc hs).mono ?_); rintro e w4 ⟨rfl, hb⟩; have HB4 := Aside0.mk (below_step HB3.out hb); have B84 := Aside0.mk (blk_below B83.out hb); have B44 := Aside0.mk (blk_below B43.out hb); have B54 := Aside0.mk (blk_below B53.out hb); have HC4 := Aside0.mk (Kd.C_below HC3.out hb); clear hb s0 s1 t0 t1; have s0 : w4.cell? ⟨g4, 0, none⟩ = some (.int .i64 last) := (blk_cell B44.out 0).trans rfl; have s1 : w4.cell? ⟨g4, 1, none⟩ = some (.slice A L.length c) := (blk_cell B44.out 1).trans rfl; have t0 : w4.cell? ⟨g5, 0, none⟩ = some (.int .i64 s) := (blk_cell B54.out 0).trans rfl; have t1 : w4.cell? ⟨g5, 1, none⟩ = some (.int .i64 g) := (blk_cell B54.out 1).trans rfl)
    | (go_at_call 57; (refine (armed_calls A c L 0 1 s g 0 0 false 0 last now t _ HC4.out hc h0 hm h1 h2 h).mono ?_); rintro e w5 ⟨A', c', rfl, hr, hb⟩; have HR := Aside0.mk (hr.lower HB4.out.size); have HB5 := Aside0.mk (below_step HB4.out hb); have B85 := Aside0.mk (blk_below B84.out hb); clear hr hb s0 s1 t0 t1)
    | ((with_reducible refine gate_dst (N := 11) rfl ?_); refine box_event ?hg (N := 11) ?hd (cs := #[.int .i64 0, .slice none 0 0]) (t := 64) ?hr ?_; (case hd => rfl); (case hg => rfl); (case hr => first | (go_simp; done) | (go_simp; rfl)); intro g11 hg11 w6 hbox hb; have HE11 := Aside0.mk (show w.heap.size ≤ g11 from by have := HB5.out.size; omega); have HN := Aside0.mk (show g8 ≠ g11 from by have := blk_lt B85.out; omega); have HB6 := Aside0.mk (below_step HB5.out hb); have B86 := Aside0.mk (blk_below B85.out hb); have B116 := Aside0.mk hbox; have HR6 := Aside0.mk (HR.out.below hb); clear hb hbox hg11)
    | ((with_reducible refine gate_store (t := 64) (p := 11) (v := .tmp 26) rfl ?_); refine step_store rfl rfl rfl B116.out rfl (u := .agg #[.int .i64 l', .slice A' L'.length c']) (seg := [.int .i64 l', .slice A' L'.length c']) rfl rfl infoS (by simp [Value.oneCell']) (Nat.le_refl 2) (cur' := #[.int .i64 l', .slice A' L'.length c']) rfl ?_; intro w7 hbs hgs hss; have HB7 := Aside0.mk (below_mput HB6.out hgs HE11.out HB6.out.size); have HR7 := Aside0.mk (HR6.out.grown B116.out hgs); have B87 := Aside0.mk (blk_grown B86.out hgs (fun e => HN.out (Option.some.inj e))); have s0 : w7.cell? ⟨g11, 0, none⟩ = some (.int .i64 l') := (blk_cell hbs 0).trans rfl; have s1 : w7.cell? ⟨g11, 1, none⟩ = some (.slice A' L'.length c') := (blk_cell hbs 1).trans rfl; clear hbs hgs hss)
    | ((with_reducible refine gate_store (t := 64) (p := 8) (v := .tmp 29) rfl ?_); refine step_store rfl rfl rfl B87.out rfl (u := .agg #[.int .i64 l', .slice A' L'.length c']) (seg := [.int .i64 l', .slice A' L'.length c']) rfl rfl infoS (by simp [Value.oneCell']) (Nat.le_refl 2) (cur' := #[.int .i64 l', .slice A' L'.length c']) rfl ?_; intro w8 hbs hgs hss; have HB8 := Aside0.mk (below_mput HB7.out hgs HE8.out HB7.out.size); have HR8 := Aside0.mk (HR7.out.grown B87.out hgs); have BF := Aside0.mk hbs; clear hbs hgs hss)
    )
  refine bodyPost_ret (results_list (rs := [.cell 8 64, .tmp 9]) rfl (by simp) (.cell g8 64 #[.int .i64 l', .slice A' L'.length c'] (0, 0) _ rfl BF.out Try.underlying64 rfl (by kernel_rfl) (.tmp .nil))) rfl ?_
  exact ⟨A', c', rfl, HR8.out, HB8.out⟩
end Go.Proofs.Ytceopcfmhidjlaa.PTimerPlays
set_option linter.unusedVariables false
set_option linter.unusedSimpArgs false
namespace Go.Proofs.Ytceopcfmhidjlaa.PTimerPlays
open Go.RowKit Go.Proofs.Ytceopcfmhidjlaa.Ef Go.Proofs.Ytceopcfmhidjlaa.Mp Go.Proofs.Ytceopcfmhidjlaa.Hp Go.Proofs.YtceopcfmhidjlaaW.PrintWords Go.Proofs.YtceopcfmhidjlaaW.PrintLast Go.Proofs.YtceopcfmhidjlaaW.PrintMore
def docRe (now : Int) (L : List Tm) (x : Tm) : List Tm := if x.f1 = 3 then docPut (again now x) L else L
theorem at_tm8 {w : World} {A : Option Addr} {n : Nat} {xs : List Tm} (h : Kd.C kT w A n xs) (i : Nat) (h1 : i < n) : ∃ ad : Addr, A = some ad ∧ w.cell? (ad.add (i * 8)) = some (.int .i64 (tn xs i).f0) ∧ w.cell? ⟨(ad.add (i * 8)).block, (ad.add (i * 8)).off + 1, none⟩ = some (.int .i64 (tn xs i).f1) ∧ w.cell? ⟨(ad.add (i * 8)).block, (ad.add (i * 8)).off + 2, none⟩ = some (.int .i64 (tn xs i).f2.f0) ∧ w.cell? ⟨(ad.add (i * 8)).block, (ad.add (i * 8)).off + 3, none⟩ = some (.int .i64 (tn xs i).f2.f1) ∧ w.cell? ⟨(ad.add (i * 8)).block, (ad.add (i * 8)).off + 4, none⟩ = some (.int .i64 (tn xs i).f3) ∧ w.cell? ⟨(ad.add (i * 8)).block, (ad.add (i * 8)).off + 5, none⟩ = some (.int .u64 (tn xs i).f4) ∧ w.cell? ⟨(ad.add (i * 8)).block, (ad.add (i * 8)).off + 6, none⟩ = some (.bool (tn xs i).f5) ∧ w.cell? ⟨(ad.add (i * 8)).block, (ad.add (i * 8)).off + 7, none⟩ = some (.int .u64 (tn xs i).f6) := by
  obtain ⟨ad, c, e, _, hK, hc0⟩ := Kd.C_get h (default : Tm) (i : Int) (by omega) (by omega)
  rw [Int.toNat_natCast] at hc0 hK
  have hc : ∀ j u, c[j]? = some u → w.cell? (ad.add (i * 8 + j)) = some u := hc0
  obtain rfl := k40_open hK
  exact ⟨ad, e, hc 0 _ rfl, by rw [← add_field _ _ 1 (by omega)]; exact hc 1 _ rfl, by rw [← add_field _ _ 2 (by omega)]; exact hc 2 _ rfl, by rw [← add_field _ _ 3 (by omega)]; exact hc 3 _ rfl, by rw [← add_field _ _ 4 (by omega)]; exact hc 4 _ rfl, by rw [← add_field _ _ 5 (by omega)]; exact hc 5 _ rfl, by rw [← add_field _ _ 6 (by omega)]; exact hc 6 _ rfl, by rw [← add_field _ _ 7 (by omega)]; exact hc 7 _ rfl⟩
theorem docRe_len (now : Int) : ∀ (l L : List Tm), (l.foldl (docRe now) L).length ≤ L.length + l.length
  | [], L => Nat.le_refl _
  | x :: r, L => by
    have h := docRe_len now r (docRe now L x)
    have h2 : (docRe now L x).length ≤ L.length + 1 := by
      unfold docRe
      split
      · rw [docPut_len]; omega
      · omega
    rw [List.foldl_cons, List.length_cons]
    omega
theorem again_ltr {x : Tm} {now : Int} (R : Rg x) (h4 : x.f4 ≤ now) (h5 : x.f5 = false) (h3 : x.f1 = 3) (hn : u64 now) :
    (0 ≤ (now - x.f4) / x.f6 ∧ (now - x.f4) / x.f6 ≤ now - x.f4) ∧ (0 ≤ (now - x.f4) / x.f6 * x.f6 ∧ (now - x.f4) / x.f6 * x.f6 ≤ now - x.f4) ∧ again now x = { x with f4 := ltr (x.f4 + (now - x.f4) / x.f6 * x.f6) x.f6, f5 := nvr (x.f4 + (now - x.f4) / x.f6 * x.f6) x.f6 } := by
  have hp := R.pp h3
  obtain ⟨n0, n1⟩ := hn
  have := R.t0
  have hq0 : 0 ≤ (now - x.f4) / x.f6 := Int.ediv_nonneg (by omega) (by omega)
  have hqm : (now - x.f4) / x.f6 * x.f6 ≤ now - x.f4 := Int.ediv_mul_le _ (by omega)
  have hq2 : 0 ≤ (now - x.f4) / x.f6 * x.f6 := Int.mul_nonneg hq0 (by omega)
  have hq1 : (now - x.f4) / x.f6 ≤ now - x.f4 := Int.ediv_le_self _ (by omega)
  refine ⟨⟨hq0, hq1⟩, ⟨hq2, hqm⟩, ?_⟩
  unfold again ltr nvr
  have hk : ((now - x.f4) / x.f6 + 1) * x.f6 = (now - x.f4) / x.f6 * x.f6 + x.f6 := by rw [Int.add_mul, Int.one_mul]
  have hle : (now - x.f4) / x.f6 + 1 ≤ (18446744073709551615 - x.f4) / x.f6 ↔ ((now - x.f4) / x.f6 + 1) * x.f6 ≤ 18446744073709551615 - x.f4 := Int.le_ediv_iff_mul_le hp
  by_cases h : x.f4 + (now - x.f4) / x.f6 * x.f6 + x.f6 < 18446744073709551616
  · have h' : ¬ (18446744073709551615 - x.f4) / x.f6 ≤ (now - x.f4) / x.f6 := by have := hle.2 (by omega); omega
    rw [if_pos h, if_neg h', decide_eq_false (by omega), hk, Int.add_assoc, h5]
  · have h' : (18446744073709551615 - x.f4) / x.f6 ≤ (now - x.f4) / x.f6 := by
      by_cases q : (now - x.f4) / x.f6 + 1 ≤ (18446744073709551615 - x.f4) / x.f6
      · have := hle.1 q; omega
      · omega
    rw [if_neg h, if_pos h', decide_eq_true (by omega)]
theorem tn_at {l : List Tm} {i : Nat} (h : i < l.length) : tn l i = l[i] := by simp [tn, h]
set_option maxHeartbeats 8000000 in
set_option maxRecDepth 100000 in
theorem docDue_calls (A : Option Addr) (c : Nat) (l R : List Tm) (last now : Int) (w : World) (hC : kT.C w A (l ++ R).length (l ++ R)) (hc : (l ++ R).length ≤ c) (hl : ∀ x ∈ l, x.f4 ≤ now ∧ x.f5 = false) (hR : ∀ x r, R = x :: r → x.f5 = true ∨ (x.f5 = false ∧ now < x.f4)) (hg : ∀ x ∈ l, Rg x) (hlen : (l ++ R).length ≤ 1024) (hn : u64 now) :
    Calls Try.prog 40 #[.agg #[.int .i64 last, .slice A (l ++ R).length c], .int .u64 now] w fun e w' => ∃ A' c' A2 c2, e = .returned (.tuple #[.agg #[.int .i64 last, .slice A' (l.foldl (docRe now) R).length c'], .slice A2 l.length c2]) ∧ kT.R 40 w' w.heap.size (fun k => w.heap.size ≤ k) (.slice A' (l.foldl (docRe now) R).length c') (l.foldl (docRe now) R) ∧ kT.R 40 w' w.heap.size (fun k => w.heap.size ≤ k) (.slice A2 l.length c2) l ∧ Below w.heap.size w w' := by
  obtain ⟨L, eL⟩ : ∃ L, l ++ R = L := ⟨_, rfl⟩
  rw [eL] at hC hc hlen ⊢
  have hlL : l.length ≤ L.length := by rw [← eL, List.length_append]; omega
  have hin1 : ∀ i, i < l.length → tn L i = tn l i := fun i h => by rw [tn_at h, tn_at (by omega)]; subst eL; exact List.getElem_append_left h
  have hin2 : l.length < L.length → (tn L l.length).f5 = true ∨ ((tn L l.length).f5 = false ∧ now < (tn L l.length).f4) := fun h => by
    subst eL
    cases R with
    | nil => simp at h
    | cons x r =>
      have e : tn (l ++ x :: r) l.length = x := by simp [tn]
      rw [e]
      exact hR x r rfl
  have hu64 := Try.underlying64
  have HC := Aside0.mk hC
  have HL1 := Aside0.mk (fun i (h : i < l.length) => (hin1 i h ▸ tn_at h ▸ hl l[i] (List.getElem_mem h) : (tn L i).f4 ≤ now ∧ (tn L i).f5 = false))
  have HL2 := Aside0.mk hin2
  have HG := Aside0.mk hg
  have HN := Aside0.mk hn
  clear hC hl hR hg hin1 hin2 hn
  have hlen' := hlen
  go_enter Try.func40, Try.ntmps40
  go_upto_block 0 with (first
    | ((with_reducible refine gate_dst (N := 2) rfl ?_); refine box_event ?hg (N := 2) ?hd (cs := #[.int .i64 last, .slice A L.length c]) (t := 64) ?hr ?_; (case hd => rfl); (case hg => rfl); (case hr => first | (go_simp; done) | (go_simp; rfl)); intro g2 hg2 w1 hbox hb; have HE2 := Aside0.mk (show w.heap.size ≤ g2 by omega); have HB1 := Aside0.mk hb; have B2 := Aside0.mk hbox; clear hb hbox hg2)
    | ((with_reducible refine gate_dst (N := 4) rfl ?_); refine box_event ?hg (N := 4) ?hd (cs := #[.int .i64 0, .slice none 0 0]) (t := 64) ?hr ?_; (case hd => rfl); (case hg => rfl); (case hr => first | (go_simp; done) | (go_simp; rfl)); intro g4 hg4 w2 hbox hb; have HB2 := Aside0.mk (below_step HB1.out hb); have HE4 := Aside0.mk (show w.heap.size ≤ g4 from by have := HB1.out.size; omega); have HN24 := Aside0.mk (show g2 ≠ g4 from by have := blk_lt B2.out; omega); have B22 := Aside0.mk (blk_below B2.out hb); have B4 := Aside0.mk hbox; clear hb hbox hg4 HB1 B2))
  go_cut [6] (fun v6 wc => v6 = .int .i64 (l.length : Int) ∧ Aside0 (wc.heap[g2]? = some (.cells #[.int .i64 last, .slice A L.length c] 64 (0, 0))) ∧ Aside0 (wc.heap[g4]? = some (.cells #[.int .i64 0, .slice none 0 0] 64 (0, 0))) ∧ Aside0 (Below w.heap.size w wc))
  case first =>
    go_wp2
    go_loopw [6] (fun v6 wr => ∃ i : Nat, v6 = .int .i64 (i : Int) ∧ Aside0 (i ≤ l.length) ∧ Aside0 (Below w2.heap.size w2 wr)) (fun v6 _ => l.length + 1 - (intOf v6).toNat)
    case atStart => exact ⟨0, rfl, ⟨Nat.zero_le _⟩, ⟨Below.refl _ _⟩⟩
    case round =>
      obtain ⟨i, rfl, HI, HBr⟩ := hrel
      have B2r := Aside0.mk (blk_below B22.out HBr.out)
      have B4r := Aside0.mk (blk_below B4.out HBr.out)
      have HB := Aside0.mk (below_step HB2.out HBr.out)
      have s1 : wr.cell? ⟨g2, 1, none⟩ = some (.slice A L.length c) := (blk_cell B2r.out 1).trans rfl
      by_cases hil : i < l.length
      · have h0 : (0 : Int) ≤ (i : Int) := by omega
        have hlt : (i : Int) < (L.length : Int) := by omega
        obtain ⟨ad, rfl, -, -, -, -, -, hx4, hx5, -⟩ := at_tm8 (Kd.C_below HC.out HB.out) i (by omega)
        obtain ⟨h4, h5⟩ := HL1.out i hil
        rw [h5] at hx5
        obtain ⟨x4, hxe⟩ : ∃ x4, (tn L i).f4 = x4 := ⟨_, rfl⟩
        rw [hxe] at hx4 h4
        have hd := decide_eq_true h4
        clear h5 hxe
        go_wp2
        go_roundw
        case rel => exact ⟨i + 1, by go_num, ⟨hil⟩, HBr⟩
        case measure => simp [intOf]; omega
      · obtain rfl : i = l.length := by have := HI.out; omega
        by_cases hlt : (l.length : Int) < (L.length : Int)
        · have h0 : (0 : Int) ≤ (l.length : Int) := by omega
          obtain ⟨ad, rfl, -, -, -, -, -, hx4, hx5, -⟩ := at_tm8 (Kd.C_below HC.out HB.out) l.length (by omega)
          rcases HL2.out (by omega) with h5 | ⟨h5, h4⟩
          · rw [h5] at hx5
            clear h5 hx4
            go_wp2
            go_meet
            case rel => exact ⟨rfl, B2r, B4r, HB⟩
          · rw [h5] at hx5
            obtain ⟨x4, hxe⟩ : ∃ x4, (tn L l.length).f4 = x4 := ⟨_, rfl⟩
            rw [hxe] at hx4 h4
            have hd : decide (x4 ≤ now) = false := decide_eq_false (by omega)
            clear h5 hxe
            go_wp2
            go_meet
            case rel => exact ⟨rfl, B2r, B4r, HB⟩
        · go_wp2
          go_meet
          case rel => exact ⟨rfl, B2r, B4r, HB⟩
  case rest =>
    obtain ⟨rfl, B2, B4, HB⟩ := hcut
    clear HL2 B22 HB2
    have hR1 : R.length ≤ 1024 := by rw [← eL, List.length_append] at hlen; omega
    have s1 : wc.cell? ⟨g2, 1, none⟩ = some (.slice A L.length c) := (blk_cell B2.out 1).trans rfl
    obtain ⟨i0, hi0, _, hsz, _⟩ := info_parts info40
    have qn : (0 : Int) ≤ (l.length : Int) := by omega
    have qm : (l.length : Int) ≤ (L.length : Int) := by omega
    have hcut1 := cut_to (P := Try.prog) 37 40 .i64 Try.underlying37 hi0 A L.length c (l.length : Int) qn qm hc
    have hcut2 := cut_from (P := Try.prog) 37 40 .i64 Try.underlying37 hi0 8 hsz A L.length c (l.length : Int) qn qm
    have r1 := Kd.C_take (m := l.length) (Kd.C_below HC.out HB.out) hlL
    have r2 := Kd.C_drop (m := l.length) (c := c) (Kd.C_below HC.out HB.out) hlL hc
    rw [show L.take l.length = l from by rw [← eL]; exact List.take_left] at r1
    rw [show L.drop l.length = R from by rw [← eL]; exact List.drop_left] at r2
    obtain ⟨A3, hA3⟩ : ∃ A3, (if c = l.length then A else A.map (·.add (l.length * 8))) = A3 := ⟨_, rfl⟩
    obtain ⟨c3, hc3⟩ : ∃ c3, c - l.length = c3 := ⟨_, rfl⟩
    have hlr : L.length - l.length = R.length := by rw [← eL, List.length_append]; omega
    have hr3 : R.length ≤ c3 := by omega
    replace r2 : kT.C wc A3 R.length R := by rw [← hA3]; exact r2
    simp only [Int.toNat_natCast] at hcut1 hcut2
    rw [hA3, hc3, hlr] at hcut2
    have R1 := Aside0.mk r1
    have R2 := Aside0.mk r2
    clear r1 r2 hA3 hc3 hlr hsz hi0
    have hn7 : l.length ≤ c := by omega
    go_wp2_with (first
      | ((with_reducible refine gate_builtin (b := .append) (xs := #[.tmp 38, .tmp 42]) rfl ?_); at_builtin; refine Kd.R_append_rows kT (w0 := w) w.heap.size rfl (.tmp 38) (.tmp 42) 37 40 (.agg #[(.int .i64 0), (.int .i64 0), (.int .i64 0), (.int .i64 0), (.int .i64 0), (.int .u64 0), (.bool false), (.int .u64 0)]) 64 rfl Try.underlying37 info40 rfl (by decide) (by omega) (.slice none 0 0) ([] : List Tm) l _ _ _ (fun _ => True) (fun _ => False) rfl rfl ?aO ?aR (fun _ _ h => h) (fun _ h => h.elim) ?aF ?aB ?aS ?aL ?_; (case aR => exact R1.out); (case aB => exact HB.out); (case aF => exact (fun _ _ => trivial)); (case aO => exact Kd.R_nil _ _ _ _ (fun _ => True)); (case aS => exact HB.out.size); (case aL => simp; omega); intro v3 w3 ho hb hg hat; rw [List.nil_append] at ho; have HO3 := Aside0.mk ho; have HB3 := Aside0.mk hb; have B23 := Aside0.mk (blk_grown B2.out hg (by simp [Value.ownBlock])); have B43 := Aside0.mk (blk_grown B4.out hg (by simp [Value.ownBlock])); have R23 := Aside0.mk (Kd.C_below R2.out ⟨hg.os, hg.tape, hg.output, hg.size, fun k hk => hg.block k hk (by simp [Value.ownBlock])⟩); clear ho hb hg hat s1; have s1 : w3.cell? ⟨g2, 1, none⟩ = some (.slice A L.length c) := (blk_cell B23.out 1).trans rfl)
      | ((with_reducible refine gate_builtin (b := .append) (xs := #[.tmp 44, .tmp 48]) rfl ?_); at_builtin; refine Kd.R_append_rows kT (w0 := w) w.heap.size rfl (.tmp 44) (.tmp 48) 37 40 (.agg #[(.int .i64 0), (.int .i64 0), (.int .i64 0), (.int .i64 0), (.int .i64 0), (.int .u64 0), (.bool false), (.int .u64 0)]) 64 rfl Try.underlying37 info40 rfl (by decide) (by omega) (.slice none 0 0) ([] : List Tm) R _ _ _ (fun _ => True) (fun _ => False) rfl rfl ?aO ?aR (fun _ _ h => h) (fun _ h => h.elim) ?aF ?aB ?aS ?aL ?_; (case aR => exact R23.out); (case aB => exact HB3.out); (case aF => exact (fun _ _ => trivial)); (case aO => exact Kd.R_nil _ _ _ _ (fun _ => True)); (case aS => exact HB3.out.size); (case aL => simp; omega); intro v4 w4 ho hb hg hat; rw [List.nil_append] at ho; have HO4 := Aside0.mk ho; have HO34 := Aside0.mk (Kd.R_grown HO3.out hg (fun k _ e => by simp [Value.ownBlock] at e)); have HB4 := Aside0.mk hb; have B24 := Aside0.mk (blk_grown B23.out hg (by simp [Value.ownBlock])); have B44 := Aside0.mk (blk_grown B43.out hg (by simp [Value.ownBlock])); clear ho hb hg hat s1; obtain ⟨A4, c4, rfl⟩ := Kd.R_slice HO4.out; obtain ⟨A5, c5, rfl⟩ := Kd.R_slice HO34.out; have s1 : w4.cell? ⟨g2, 1, none⟩ = some (.slice A L.length c) := (blk_cell B24.out 1).trans rfl)
      | ((with_reducible refine gate_store (t := 37) (p := 51) (v := .tmp 50) rfl ?_); refine step_store rfl rfl rfl B24.out rfl (u := .slice A4 R.length c4) (seg := [.slice A4 R.length c4]) rfl rfl (by kernel_rfl) (by simp [Value.oneCell']) (by show 1 + 1 ≤ 2; omega) (cur' := #[.int .i64 last, .slice A4 R.length c4]) rfl ?_; intro w5 hbs hgs hss; have B25 := Aside0.mk hbs; have B45 := Aside0.mk (blk_grown B44.out hgs (fun e => HN24.out (Option.some.inj e).symm)); have HB5 := Aside0.mk (below_mput HB4.out hgs HE2.out HB4.out.size); have HO5 := Aside0.mk (Kd.R_mono (Kd.R_bound (Kd.R_mono (Kd.R_grown (Kd.R_types HO4.out B24.out (by decide)) hgs (fun k q e => q.2 (Option.some.inj e))) (fun k q => q.1))) (fun k q => q.2.1)); have HL5 := Aside0.mk (Kd.R_mono (Kd.R_bound (Kd.R_mono (Kd.R_grown (Kd.R_types HO34.out B24.out (by decide)) hgs (fun k q e => q.2 (Option.some.inj e))) (fun k q => q.2))) (fun k q => (⟨q.1, q.2.1, q.2.2.1⟩ : k ≠ g2 ∧ w.heap.size ≤ k ∧ k < w5.heap.size))); clear hbs hgs hss s1))
    clear hcut1 hcut2 R1 R2 R23 HO3 HO4 HO34 HB HB3 HB4 B2 B23 B24 B4 B43 B44
    go_loopw [9] (fun v9 wr => ∃ (i : Nat) (A' : Option Addr) (c' : Nat) (Li : List Tm), v9 = .int .i64 (i : Int) ∧ Aside0 ((l.take i).foldl (docRe now) R = Li) ∧ Aside0 (i ≤ l.length) ∧ Aside0 (wr.heap[g2]? = some (.cells #[.int .i64 last, .slice A' Li.length c'] 64 (0, 0))) ∧ Aside0 (Kept w5 wr (fun k => k = g2)) ∧ Aside0 (Below w.heap.size w wr) ∧ Aside0 (kT.R 40 wr w.heap.size (fun k => w.heap.size ≤ k) (.slice A' Li.length c') Li)) (fun v9 _ => l.length + 1 - (intOf v9).toNat)
    case atStart => exact ⟨0, A4, c4, R, rfl, ⟨rfl⟩, ⟨Nat.zero_le _⟩, B25, ⟨Kept.refl _ _⟩, HB5, HO5⟩
    case round =>
      obtain ⟨i, A', c', Li, rfl, HFo, HI, B2r, HK, HB, HO⟩ := hrel
      have B4r := Aside0.mk (blk_kept B45.out HK.out (fun e => HN24.out e.symm))
      have HLr := Aside0.mk (Kd.R_kept HL5.out HK.out (fun k q => q.1))
      by_cases hlt : (i : Int) < (l.length : Int)
      · have hil : i < l.length := by omega
        have h0 : (0 : Int) ≤ (i : Int) := by omega
        have hst : (l.take (i + 1)).foldl (docRe now) R = docRe now Li (tn l i) := by
          rw [List.take_succ_eq_append_getElem hil, List.foldl_append, HFo.out, tn_at hil]
          rfl
        have hLi : Li.length ≤ 2048 := by
          have h1 := docRe_len now (l.take i) R
          rw [HFo.out, List.length_take] at h1
          omega
        have hdue := HL1.out i hil
        rw [show tn L i = tn l i from by rw [tn_at hil, tn_at (by omega)]; subst eL; exact List.getElem_append_left hil] at hdue
        have hrg : Rg (tn l i) := tn_at hil ▸ HG.out _ (List.getElem_mem hil)
        obtain ⟨ad, had, hx0, hx1, hx2, hx3, hx4, hx5, hx6, hx7⟩ := at_tm8 (Kd.R_reads' HLr.out).2.2 i hil
        subst had
        generalize tn l i = x at *
        obtain ⟨xi, xk, ⟨xs, xg⟩, xc, xt, xn, xp⟩ := x
        simp only at hx0 hx1 hx2 hx3 hx4 hx5 hx6 hx7 hdue
        obtain ⟨h4, rfl⟩ := hdue
        by_cases h3 : xk = 3
        · subst h3
          obtain ⟨⟨q0, q1⟩, ⟨q2, q3⟩, hag⟩ := again_ltr hrg h4 rfl rfl HN.out
          simp only at q0 q1 q2 q3 hag
          have hp : 0 < xp := hrg.pp rfl
          have ht0 : 0 ≤ xt := hrg.t0
          have hp1 : xp < 18446744073709551616 := hrg.p1
          obtain ⟨n0, n1⟩ := HN.out
          have hre : docRe now Li ⟨xi, 3, ⟨xs, xg⟩, xc, xt, false, xp⟩ = docPut ⟨xi, 3, ⟨xs, xg⟩, xc, ltr (xt + (now - xt) / xp * xp) xp, nvr (xt + (now - xt) / xp * xp) xp, xp⟩ Li := by unfold docRe; rw [if_pos rfl, hag]
          rw [hre] at hst
          have HT := Aside0.mk (fun W => later_calls (a := xt + (now - xt) / xp * xp) (b := xp) ⟨by omega, by omega⟩ ⟨by omega, hp1⟩ W)
          generalize ltr (xt + (now - xt) / xp * xp) xp = l4 at HT hst
          generalize nvr (xt + (now - xt) / xp * xp) xp = l5 at HT hst
          have ub : ∀ n : Int, 0 ≤ n → n ≤ 18446744073709551615 → IntKind.u64.wrap n = n := fun n a b => by rw [IntKind.wrap_u64]; omega
          have v1 := ub (now - xt) (by omega) (by omega)
          have v2 := ub ((now - xt) / xp) q0 (by omega)
          have v3 := ub ((now - xt) / xp * xp) q2 (by omega)
          have v4 := ub (xt + (now - xt) / xp * xp) (by omega) (by omega)
          have hz : xp ≠ 0 := by omega
          have HLi := Aside0.mk hLi
          have HSt := Aside0.mk hst
          clear hrg hag hre hst hLi hn7 ub
          go_wp2_with (first
            | ((with_reducible refine gate_dst (N := 10) rfl ?_); refine box_event ?hg (N := 10) ?hd (cs := #[.int .i64 0, .int .i64 0, .int .i64 0, .int .i64 0, .int .i64 0, .int .u64 0, .bool false, .int .u64 0]) (t := 40) ?hr ?_; (case hd => rfl); (case hg => rfl); (case hr => first | (go_simp; done) | (go_simp; rfl)); intro g10 hg10 w6 hbox hb; have HB6 := Aside0.mk (below_step HB.out hb); have HE10 := Aside0.mk (show wr.heap.size ≤ g10 by omega); have HK6 := Aside0.mk (HK.out.below hb); have B26 := Aside0.mk (blk_below B2r.out hb); have B46 := Aside0.mk (blk_below B4r.out hb); have HO6 := Aside0.mk (Kd.R_elderB HO.out g10 HE10.out); have HO6 := Aside0.mk (Kd.R_below HO6.out hb); have B10 := Aside0.mk hbox; clear hb hbox hg10)
            | ((with_reducible refine gate_store (t := 40) (p := 10) (v := .tmp 61) rfl ?_); refine step_store rfl rfl rfl B10.out rfl (u := .agg #[.int .i64 xi, .int .i64 3, .int .i64 xs, .int .i64 xg, .int .i64 xc, .int .u64 xt, .bool false, .int .u64 xp]) (seg := [.int .i64 xi, .int .i64 3, .int .i64 xs, .int .i64 xg, .int .i64 xc, .int .u64 xt, .bool false, .int .u64 xp]) rfl rfl (by kernel_rfl) (by simp [Value.oneCell']) (Nat.le_refl 8) (cur' := #[.int .i64 xi, .int .i64 3, .int .i64 xs, .int .i64 xg, .int .i64 xc, .int .u64 xt, .bool false, .int .u64 xp]) rfl ?_; intro w7 hbs hgs hss; have B107 := Aside0.mk hbs; have HB7 := Aside0.mk (below_mput HB6.out hgs (Nat.le_trans HB.out.size HE10.out) HB6.out.size); have HK7 := Aside0.mk (Kept.of_grown hgs HK6.out (fun k hk => by cases hk; exact .inr (Nat.le_trans HK.out.1 HE10.out))); have HN2 := Aside0.mk (show g2 ≠ g10 from by have := blk_lt B2r.out; have := HE10.out; omega); have B27 := Aside0.mk (blk_grown B26.out hgs (fun e => HN2.out (Option.some.inj e))); have HO7 := Aside0.mk (Kd.R_grown HO6.out hgs (fun k q e => q.2 (Option.some.inj e))); have k1 : w7.cell? ⟨g10, 1, none⟩ = some (.int .i64 3) := (blk_cell hbs 1).trans rfl; have k5 : w7.cell? ⟨g10, 5, none⟩ = some (.int .u64 xt) := (blk_cell hbs 5).trans rfl; have k7 : w7.cell? ⟨g10, 7, none⟩ = some (.int .u64 xp) := (blk_cell hbs 7).trans rfl; clear hbs hgs hss))
          go_quiet (fail)
          all_goals
            have HB8 := Aside0.mk (pw_below_drewN HB7.out nq)
            have HK8 := Aside0.mk (Kept.drewN HK7.out nq)
            have HO8 := Aside0.mk (Kd.R_drewN HO7.out nq)
            have B28 := Aside0.mk (show (w7.drewN nq).heap[g2]? = _ from B27.out)
            have B108 := Aside0.mk (show (w7.drewN nq).heap[g10]? = _ from B107.out)
            have k5' := (show (w7.drewN nq).cell? _ = _ from k5)
            have k7' := (show (w7.drewN nq).cell? _ = _ from k7)
            clear k1 k5 k7 HB7 HK7 HO7 B27 B107 HB6 HK6 HO6 B26 B46
            generalize w7.drewN nq = w8 at *
            go_wp2_with (first
              | (go_at_call 58; (refine (HT.out _).mono ?_); rintro e w9 ⟨rfl, hb⟩; have HB9 := Aside0.mk (below_step HB8.out hb); have HK9 := Aside0.mk (HK8.out.below hb); have HO9 := Aside0.mk (Kd.R_below HO8.out hb); have B29 := Aside0.mk (blk_below B28.out hb); have B109 := Aside0.mk (blk_below B108.out hb); clear hb k5' k7')
              | ((with_reducible refine gate_store (t := 22) (p := 85) (v := .tmp 83) rfl ?_); refine step_store rfl rfl rfl B109.out rfl (u := .int .u64 l4) (seg := [.int .u64 l4]) rfl rfl (by kernel_rfl) (by simp [Value.oneCell']) (by show 5 + 1 ≤ 8; omega) (cur' := #[.int .i64 xi, .int .i64 3, .int .i64 xs, .int .i64 xg, .int .i64 xc, .int .u64 l4, .bool false, .int .u64 xp]) rfl ?_; intro wa hbs hgs hss; have B10a := Aside0.mk hbs; have HBa := Aside0.mk (below_mput HB9.out hgs (Nat.le_trans HB.out.size HE10.out) HB9.out.size); have HKa := Aside0.mk (Kept.of_grown hgs HK9.out (fun k hk => by cases hk; exact .inr (Nat.le_trans HK.out.1 HE10.out))); have B2a := Aside0.mk (blk_grown B29.out hgs (fun e => HN2.out (Option.some.inj e))); have HOa := Aside0.mk (Kd.R_grown HO9.out hgs (fun k q e => q.2 (Option.some.inj e))); clear hbs hgs hss)
              | ((with_reducible refine gate_store (t := 4) (p := 86) (v := .tmp 84) rfl ?_); refine step_store rfl rfl rfl B10a.out rfl (u := .bool l5) (seg := [.bool l5]) rfl rfl (by kernel_rfl) (by simp [Value.oneCell']) (by show 6 + 1 ≤ 8; omega) (cur' := #[.int .i64 xi, .int .i64 3, .int .i64 xs, .int .i64 xg, .int .i64 xc, .int .u64 l4, .bool l5, .int .u64 xp]) rfl ?_; intro wb hbs hgs hss; have B10b := Aside0.mk hbs; have HBb := Aside0.mk (below_mput HBa.out hgs (Nat.le_trans HB.out.size HE10.out) HBa.out.size); have HKb := Aside0.mk (Kept.of_grown hgs HKa.out (fun k hk => by cases hk; exact .inr (Nat.le_trans HK.out.1 HE10.out))); have B2b := Aside0.mk (blk_grown B2a.out hgs (fun e => HN2.out (Option.some.inj e))); have HOb := Aside0.mk (Kd.R_grown HOa.out hgs (fun k q e => q.2 (Option.some.inj e))); have s0 : wb.cell? ⟨g2, 0, none⟩ = some (.int .i64 last) := (blk_cell B2b.out 0).trans rfl; have s1 : wb.cell? ⟨g2, 1, none⟩ = some (.slice A' Li.length c') := (blk_cell B2b.out 1).trans rfl; have t0 : wb.cell? ⟨g10, 0, none⟩ = some (.int .i64 xi) := (blk_cell hbs 0).trans rfl; have t1 : wb.cell? ⟨g10, 1, none⟩ = some (.int .i64 3) := (blk_cell hbs 1).trans rfl; have t2 : wb.cell? ⟨g10, 2, none⟩ = some (.int .i64 xs) := (blk_cell hbs 2).trans rfl; have t3 : wb.cell? ⟨g10, 3, none⟩ = some (.int .i64 xg) := (blk_cell hbs 3).trans rfl; have t4 : wb.cell? ⟨g10, 4, none⟩ = some (.int .i64 xc) := (blk_cell hbs 4).trans rfl; have t5 : wb.cell? ⟨g10, 5, none⟩ = some (.int .u64 l4) := (blk_cell hbs 5).trans rfl; have t6 : wb.cell? ⟨g10, 6, none⟩ = some (.bool l5) := (blk_cell hbs 6).trans rfl; have t7 : wb.cell? ⟨g10, 7, none⟩ = some (.int .u64 xp) := (blk_cell hbs 7).trans rfl; clear hbs hgs hss)
              | (go_at_call 59; (refine (put_calls A' c' Li ⟨xi, 3, ⟨xs, xg⟩, xc, l4, l5, xp⟩ last _ (Kd.R_reads' HOb.out).2.2 (Kd.R_reads' HOb.out).2.1 (by have := HLi.out; omega)).mono ?_); rintro e wd ⟨v, rfl, hr, hb⟩; (obtain ⟨A9, c9, rfl⟩ := Kd.R_slice hr); have HBd := Aside0.mk (below_step HBb.out hb); have HKd := Aside0.mk (HKb.out.below hb); have HOd := Aside0.mk (Kd.R_mono (Kd.R_lower hr HBb.out.size) (fun k q => Nat.le_trans HBb.out.size q)); have B2d := Aside0.mk (blk_below B2b.out hb); clear hr hb s0 s1 t0 t1 t2 t3 t4 t5 t6 t7)
              | ((with_reducible refine gate_store (t := 64) (p := 2) (v := .tmp 89) rfl ?_); refine step_store rfl rfl rfl B2d.out rfl (u := .agg #[.int .i64 last, .slice A9 (docPut ⟨xi, 3, ⟨xs, xg⟩, xc, l4, l5, xp⟩ Li).length c9]) (seg := [.int .i64 last, .slice A9 (docPut ⟨xi, 3, ⟨xs, xg⟩, xc, l4, l5, xp⟩ Li).length c9]) rfl rfl (by kernel_rfl) (by simp [Value.oneCell']) (Nat.le_refl 2) (cur' := #[.int .i64 last, .slice A9 (docPut ⟨xi, 3, ⟨xs, xg⟩, xc, l4, l5, xp⟩ Li).length c9]) rfl ?_; intro we hbs hgs hss; have B2e := Aside0.mk hbs; have HBe := Aside0.mk (below_mput HBd.out hgs HE2.out HBd.out.size); have HKe := Aside0.mk (Kept.of_grown hgs HKd.out (fun k hk => by cases hk; exact .inl rfl)); have HOe := Aside0.mk (Kd.R_mono (Kd.R_grown (Kd.R_types HOd.out B2d.out (by decide)) hgs (fun k q e => q.2 (Option.some.inj e))) (fun k q => q.1)); clear hbs hgs hss))
            go_roundw
            case rel => exact ⟨i + 1, A9, c9, _, by go_num, HSt, ⟨hil⟩, B2e, HKe, HBe, HOe⟩
            case measure => simp [intOf]; omega
        · have hre : docRe now Li ⟨xi, xk, ⟨xs, xg⟩, xc, xt, false, xp⟩ = Li := by unfold docRe; exact if_neg h3
          rw [hre] at hst
          have hb : (xk != 3) = true := by simpa using h3
          clear hrg hre
          go_wp2_with (first
            | ((with_reducible refine gate_dst (N := 10) rfl ?_); refine box_event ?hg (N := 10) ?hd (cs := #[.int .i64 0, .int .i64 0, .int .i64 0, .int .i64 0, .int .i64 0, .int .u64 0, .bool false, .int .u64 0]) (t := 40) ?hr ?_; (case hd => rfl); (case hg => rfl); (case hr => first | (go_simp; done) | (go_simp; rfl)); intro g10 hg10 w6 hbox hb; have HB6 := Aside0.mk (below_step HB.out hb); have HE10 := Aside0.mk (show wr.heap.size ≤ g10 by omega); have HK6 := Aside0.mk (HK.out.below hb); have B26 := Aside0.mk (blk_below B2r.out hb); have B46 := Aside0.mk (blk_below B4r.out hb); have HO6 := Aside0.mk (Kd.R_elderB HO.out g10 HE10.out); have HO6 := Aside0.mk (Kd.R_below HO6.out hb); have B10 := Aside0.mk hbox; clear hb hbox hg10)
            | ((with_reducible refine gate_store (t := 40) (p := 10) (v := .tmp 61) rfl ?_); refine step_store rfl rfl rfl B10.out rfl (u := .agg #[.int .i64 xi, .int .i64 xk, .int .i64 xs, .int .i64 xg, .int .i64 xc, .int .u64 xt, .bool false, .int .u64 xp]) (seg := [.int .i64 xi, .int .i64 xk, .int .i64 xs, .int .i64 xg, .int .i64 xc, .int .u64 xt, .bool false, .int .u64 xp]) rfl rfl (by kernel_rfl) (by simp [Value.oneCell']) (Nat.le_refl 8) (cur' := #[.int .i64 xi, .int .i64 xk, .int .i64 xs, .int .i64 xg, .int .i64 xc, .int .u64 xt, .bool false, .int .u64 xp]) rfl ?_; intro w7 hbs hgs hss; have B107 := Aside0.mk hbs; have HB7 := Aside0.mk (below_mput HB6.out hgs (Nat.le_trans HB.out.size HE10.out) HB6.out.size); have HK7 := Aside0.mk (Kept.of_grown hgs HK6.out (fun k hk => by cases hk; exact .inr (Nat.le_trans HK.out.1 HE10.out))); have HN2 := Aside0.mk (show g2 ≠ g10 from by have := blk_lt B2r.out; have := HE10.out; omega); have B27 := Aside0.mk (blk_grown B26.out hgs (fun e => HN2.out (Option.some.inj e))); have HO7 := Aside0.mk (Kd.R_mono (Kd.R_grown HO6.out hgs (fun k q e => q.2 (Option.some.inj e))) (fun k q => q.1)); have k1 : w7.cell? ⟨g10, 1, none⟩ = some (.int .i64 xk) := (blk_cell hbs 1).trans rfl; clear hbs hgs hss))
          go_roundw
          case rel => exact ⟨i + 1, A', c', Li, by go_num, ⟨hst⟩, ⟨hil⟩, B27, HK7, HB7, HO7⟩
          case measure => simp [intOf]; omega
      · obtain rfl : i = l.length := by have := HI.out; omega
        have s0 : wr.cell? ⟨g2, 0, none⟩ = some (.int .i64 last) := (blk_cell B2r.out 0).trans rfl
        have s1 : wr.cell? ⟨g2, 1, none⟩ = some (.slice A' Li.length c') := (blk_cell B2r.out 1).trans rfl
        go_wp2_with (first
          | ((with_reducible refine gate_store (t := 64) (p := 4) (v := .tmp 90) rfl ?_); refine step_store rfl rfl rfl B4r.out rfl (u := .agg #[.int .i64 last, .slice A' Li.length c']) (seg := [.int .i64 last, .slice A' Li.length c']) rfl rfl (by kernel_rfl) (by simp [Value.oneCell']) (Nat.le_refl 2) (cur' := #[.int .i64 last, .slice A' Li.length c']) rfl ?_; intro w6 hbs hgs hss; have BF := Aside0.mk hbs; have HB6 := Aside0.mk (below_mput HB.out hgs HE4.out HB.out.size); have HO6 := Aside0.mk (Kd.R_mono (Kd.R_grown (Kd.R_types HO.out B4r.out (by decide)) hgs (fun k q e => q.2 (Option.some.inj e))) (fun k q => q.1)); have HL6 := Aside0.mk (Kd.R_mono (Kd.R_grown (Kd.R_types HLr.out B4r.out (by decide)) hgs (fun k q e => q.2 (Option.some.inj e))) (fun k q => q.1.2.1)); clear hbs hgs hss))
        refine bodyPost_ret (results_list (rs := [.cell 4 64, .tmp 5]) rfl (by simp) (.cell g4 64 #[.int .i64 last, .slice A' Li.length c'] (0, 0) _ rfl BF.out Try.underlying64 rfl (by kernel_rfl) (.tmp .nil))) rfl ?_
        have hLi := HFo.out
        rw [List.take_length] at hLi
        rw [hLi]
        exact ⟨A', c', A5, c5, rfl, HO6.out, HL6.out, HB6.out⟩
end Go.Proofs.Ytceopcfmhidjlaa.PTimerPlays
