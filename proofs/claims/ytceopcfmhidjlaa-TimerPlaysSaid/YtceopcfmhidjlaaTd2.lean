/- What the document's calls answer, told by what the timers hold. Plain. Conditions: each theorem's own.
   Each call, of the timers and of the document, on the same state: what both answer. Conditions: each theorem's own.
   Both, behind a call of Sleep, After, Every or Stop, and behind none. Conditions: each theorem's own.
   Both, behind a call of Due, and behind none. Conditions: each theorem's own.
   Both tell the same state. Conditions: each theorem's own.
   The law TimerPlays, walked. Conditions: the theorem's own. -/
import Derived.Test.YtceopcfmhidjlaaTd1
import Derived.Test.YtceopcfmhidjlaaXm
import Derived.Test.YtceopcfmhidjlaaTnx
import Derived.Deep.RegionHeld3
set_option linter.unusedVariables false
set_option linter.unusedSimpArgs false
namespace Go.Proofs.Ytceopcfmhidjlaa.PTimerPlays
open Go.RowKit Go.Proofs.Ytceopcfmhidjlaa.Ef Go.Proofs.Ytceopcfmhidjlaa.Mp Go.Proofs.Ytceopcfmhidjlaa.Hp Go.Proofs.YtceopcfmhidjlaaW.PrintWords Go.Proofs.YtceopcfmhidjlaaW.PrintLast Go.Proofs.YtceopcfmhidjlaaW.PrintMore
theorem Doc.begin {S : TS} {L : List Tm} (h : Doc S L) (D : DI S) (x : Tm) (now t : Int) : Doc (S.begin x now t) (docPut (begL S.last x now t) L) :=
  Doc.arm (S := { S with last := S.last + 1 }) (h.last _) (D.last _) (begL S.last x now t)
/-! ### sleeps -/
def sleepC (s g : Int) (x : Tm) : Bool := x.f1 == 1 && (x.f2.f0 == s && x.f2.f1 == g)
theorem sleeps_loop (last s g : Int) (L : List Tm) (hL : L.length ≤ 4096) : ∀ (d k i : Nat), d < k → i + d = L.length → rotaref14_Sleeps.l0 k (i : Int) last L s g = some ((L.drop i).any (sleepC s g)) := by
  intro d
  induction d with
  | zero =>
    intro k i hk hi
    obtain ⟨k, rfl⟩ : ∃ j, k = j + 1 := ⟨k - 1, by omega⟩
    unfold rotaref14_Sleeps.l0
    rw [if_neg (by omega), List.drop_eq_nil_of_le (by omega)]
    rfl
  | succ d ih =>
    intro k i hk hi
    obtain ⟨k, rfl⟩ : ∃ j, k = j + 1 := ⟨k - 1, by omega⟩
    have hil : i < L.length := by omega
    unfold rotaref14_Sleeps.l0
    rw [if_pos (by omega), if_pos (by omega), rdT_at L hil, wrap_next (by omega), ih k (i + 1) (by omega) (by omega), List.drop_eq_getElem_cons hil, List.any_cons]
    by_cases h1 : L[i].f1 = 1
    · rw [if_pos h1]
      by_cases h2 : (L[i].f2.f0 == s && L[i].f2.f1 == g) = true
      · rw [if_pos h2]
        unfold sleepC
        rw [h1, h2]
        rfl
      · rw [if_neg h2]
        have : sleepC s g L[i] = false := by unfold sleepC; rw [Bool.eq_false_iff.2 h2, Bool.and_false]
        rw [this, Bool.false_or]
    · rw [if_neg h1]
      have : sleepC s g L[i] = false := by unfold sleepC; rw [beq_eq_false_iff_ne.2 h1, Bool.false_and]
      rw [this, Bool.false_or]
theorem sleeps_f {S : TS} {L : List Tm} (h : Doc S L) (s g : Int) (hL : L.length ≤ 4096) (k : Nat) (hk : L.length < k) : rotaref14_Sleeps.f k S.last L s g = some (S.sleeps (s, g)) := by
  refine (sleeps_loop S.last s g L hL L.length k 0 hk (by omega)).trans ?_
  congr 1
  rw [List.drop_zero, Bool.eq_iff_iff, List.any_eq_true]
  unfold TS.sleeps
  rw [decide_eq_true_iff]
  constructor
  · rintro ⟨x, hx, hq⟩
    unfold sleepC at hq
    simp only [Bool.and_eq_true, beq_iff_eq] at hq
    exact ⟨x, List.mem_filter.2 ⟨h.perm.mem_iff.1 hx, by simpa using hq.1⟩, Prod.ext hq.2.1 hq.2.2⟩
  · rintro ⟨x, hx, hq⟩
    obtain ⟨hx, h1⟩ := List.mem_filter.1 hx
    obtain ⟨h2, h3⟩ := Prod.mk.inj hq
    refine ⟨x, h.perm.mem_iff.2 hx, ?_⟩
    unfold sleepC
    simp only [Bool.and_eq_true, beq_iff_eq]
    exact ⟨by simpa using h1, h2, h3⟩
/-! ### Next -/
theorem next_f_none {S : TS} {L : List Tm} (h : Doc S L) (D : DI S) (hS : S.hp = []) : rotaref14_Next.f S.last L = some (0, false) := by
  obtain ⟨d, h1, h2, rfl⟩ := h
  rw [hS] at h1
  rw [h1.eq_nil]
  unfold rotaref14_Next.f
  show (if ((S.nv.length : Nat) : Int) = 0 then _ else _) = _
  cases hv : S.nv with
  | nil => exact if_pos rfl
  | cons x r =>
    rw [if_neg (by first | (simp; done) | (simp; omega)), if_pos (by first | (simp; done) | (simp; omega))]
    have := rdT_at (x :: r) (i := 0) (by simp)
    rw [if_pos]
    show (rd_T40 (x :: r) ((0 : Nat) : Int)).f5 = true
    rw [this]
    exact D.nd x (by rw [hv]; exact List.mem_cons_self)
theorem next_f_some {S : TS} {L : List Tm} (h : Doc S L) (D : DI S) (hS : S.hp ≠ []) : ∃ x, Least S.hp x ∧ rotaref14_Next.f S.last L = some (x.when, true) := by
  obtain ⟨d, h1, h2, rfl⟩ := h
  cases d with
  | nil => exact absurd h1.symm.eq_nil hS
  | cons x r =>
    rw [List.pairwise_cons] at h2
    have hx : x ∈ S.hp := h1.mem_iff.1 List.mem_cons_self
    have hd := D.hd x hx
    refine ⟨x, ⟨hx, fun y hy q => ?_⟩, ?_⟩
    · rcases List.mem_cons.1 (h1.mem_iff.2 hy) with rfl | q2
      · unfold lt at q; omega
      · have := h2.1 y q2
        unfold lt at q this
        omega
    · unfold rotaref14_Next.f
      have e := rdT_at ((x :: r).map (·.val) ++ S.nv) (i := 0) (by simp)
      have e' : rd_T40 ((x :: r).map (·.val) ++ S.nv) 0 = x.val := e
      rw [if_neg (by first | (simp; done) | (simp; omega)), if_pos (by first | (simp; done) | (simp; omega)), e', if_neg (by rw [hd.1]; decide), hd.2]
/-! ### Stop -/
def stopB (S : TS) (id : Int) : Bool := S.all.any (fun x => x.f0 == id && x.f1 != 1)
theorem stop_loop (last id : Int) (L : List Tm) (hL : L.length ≤ 4096) (hn : (L.map (·.f0)).Nodup) : ∀ (d k i : Nat), d < k → i + d = L.length → (∀ x ∈ L.take i, ¬ (x.f0 = id ∧ x.f1 ≠ 1)) →
    rotaref14_Stop.l0 k id (i : Int) last L = some (last, if L.any (fun x => x.f0 == id && x.f1 != 1) = true then L.filter (fun x => x.f0 != id) else L, L.any (fun x => x.f0 == id && x.f1 != 1)) := by
  intro d
  induction d with
  | zero =>
    intro k i hk hi hno
    obtain ⟨k, rfl⟩ : ∃ j, k = j + 1 := ⟨k - 1, by omega⟩
    rw [List.take_of_length_le (by omega)] at hno
    have e : L.any (fun x => x.f0 == id && x.f1 != 1) = false := by
      rw [List.any_eq_false]
      intro x hx q
      simp only [Bool.and_eq_true, beq_iff_eq, bne_iff_ne, ne_eq] at q
      exact hno x hx q
    unfold rotaref14_Stop.l0
    rw [if_neg (by omega), e, if_neg (by decide)]
  | succ d ih =>
    intro k i hk hi hno
    obtain ⟨k, rfl⟩ : ∃ j, k = j + 1 := ⟨k - 1, by omega⟩
    have hil : i < L.length := by omega
    have hst : ¬ (L[i].f0 = id ∧ L[i].f1 ≠ 1) → ∀ x ∈ L.take (i + 1), ¬ (x.f0 = id ∧ x.f1 ≠ 1) := by
      intro q x hx
      rw [List.take_succ_eq_append_getElem hil] at hx
      rcases List.mem_append.1 hx with p | p
      · exact hno x p
      · rw [List.mem_singleton.1 p]; exact q
    unfold rotaref14_Stop.l0
    rw [if_pos (by omega), if_pos (by omega), rdT_at L hil, wrap_next (by omega)]
    by_cases h1 : L[i].f0 = id
    · rw [if_pos h1]
      by_cases h2 : L[i].f1 = 1
      · rw [if_pos h2]
        exact ih k (i + 1) (by omega) (by omega) (hst (fun q => q.2 h2))
      · rw [if_neg h2, if_pos (by omega)]
        have ha : L.any (fun x => x.f0 == id && x.f1 != 1) = true := List.any_eq_true.2 ⟨L[i], List.getElem_mem hil, by simp [h1, h2]⟩
        simp only [Option.bind_some, List.nil_append, List.length_nil]
        rw [if_pos (by rw [List.length_take]; omega), if_pos (by omega), if_pos (by omega), Int.toNat_natCast, Int.toNat_natCast]
        rw [if_pos (by rw [List.length_take, List.length_drop]; omega), ha, if_pos rfl]
        have := erase_ne (fun x : Tm => x.f0) hn hil
        rw [h1] at this
        rw [← this, List.eraseIdx_eq_take_drop_succ]
    · rw [if_neg h1]
      exact ih k (i + 1) (by omega) (by omega) (hst (fun q => h1 q.1))
theorem any_perm {α : Type} {l r : List α} (h : l.Perm r) (p : α → Bool) : l.any p = r.any p := by
  rw [Bool.eq_iff_iff, List.any_eq_true, List.any_eq_true]
  exact ⟨fun ⟨x, a, b⟩ => ⟨x, h.mem_iff.1 a, b⟩, fun ⟨x, a, b⟩ => ⟨x, h.mem_iff.2 a, b⟩⟩
theorem stop_f {S : TS} {L : List Tm} (h : Doc S L) (F : Fine S) (id : Int) (k : Nat) (hk : 2000 ≤ k) : rotaref14_Stop.f k S.last L id = some (S.last, if stopB S id = true then L.filter (fun x => x.f0 != id) else L, stopB S id) := by
  have hl := h.len
  have := F.len
  have hn : (L.map (·.f0)).Nodup := (h.perm.map _).nodup_iff.2 F.ni
  have e := stop_loop S.last id L (by omega) hn L.length k 0 (by omega) (by omega) (fun x hx => by cases hx)
  rw [any_perm h.perm] at e
  exact e
theorem Doc.stop {S : TS} {L : List Tm} (h : Doc S L) (id : Int) : Doc (S.stopS id) (if stopB S id = true then L.filter (fun x => x.f0 != id) else L) := by
  unfold TS.stopS stopB
  by_cases q : (S.all.any fun x => x.f0 == id && x.f1 != 1) = true
  · rw [if_pos q, if_pos q]; exact h.rm id
  · rw [if_neg q, if_neg q]; exact h
/-! ### Due -/
theorem doc_fold (now : Int) : ∀ (l : List Tm) (S : TS) (R : List Tm), Doc S R → DI S → Doc (l.foldl (rearm now) S) (l.foldl (docRe now) R)
  | [], _, _, h, _ => h
  | x :: r, S, R, h, D => by
    rw [List.foldl_cons, List.foldl_cons]
    unfold rearm docRe
    by_cases h3 : x.f1 = 3
    · rw [if_pos h3, if_pos h3]; exact doc_fold now r _ _ (h.arm D _) (D.arm _)
    · rw [if_neg h3, if_neg h3]; exact doc_fold now r _ _ h D
theorem doc_due {now : Int} {S S1 : TS} {L l : List Tm} (h : Doc S L) (D : DI S) (F : Fine S) (hO : Once S.hp) (hp : Path now S l S1) (hm : ∀ n ∈ S1.hp, now < n.when) :
    ∃ R, L = l ++ R ∧ (∀ x ∈ l, x.f4 ≤ now ∧ x.f5 = false) ∧ (∀ x r, R = x :: r → x.f5 = true ∨ (x.f5 = false ∧ now < x.f4)) ∧ Doc (l.foldl (rearm now) S1) (l.foldl (docRe now) R) := by
  obtain ⟨Ln, e1, p1, s1, a1, w1, _, _⟩ := hp.nodes F hO
  have P := hp.says F
  obtain ⟨d, q1, q2, rfl⟩ := h
  have q3 : (d.filter (fun x => decide (now < x.when))).Perm S1.hp := (filter_le (q1.trans p1) w1 hm).2
  have hd : d = Ln ++ d.filter (fun x => decide (now < x.when)) := by
    refine sorted_eq q2 (List.pairwise_append.2 ⟨s1, q2.filter _, fun x hx y hy => a1 x hx y (q3.mem_iff.1 hy)⟩) ((q1.trans p1).trans (q3.symm.append_left _))
  generalize d.filter (fun x => decide (now < x.when)) = R at q3 hd
  subst hd
  have hR2 : R.Pairwise lt := (List.pairwise_append.1 q2).2.1
  have hD1 : Doc S1 (R.map (·.val) ++ S1.nv) := ⟨R, q3, hR2, rfl⟩
  have hI1 := D.path hp
  refine ⟨R.map (·.val) ++ S1.nv, by rw [List.map_append, e1, P.nv, List.append_assoc], P.due, fun x r hx => ?_, doc_fold now l S1 _ hD1 hI1⟩
  cases R with
  | nil => exact .inl (hI1.nd x (by have : S1.nv = x :: r := hx; rw [this]; exact List.mem_cons_self))
  | cons y R' =>
    have hy := q3.mem_iff.1 (List.mem_cons_self (a := y) (l := R'))
    have hxy : y.val = x := (List.cons.inj hx).1
    rw [← hxy, (hI1.hd y hy).2, (hI1.hd y hy).1]
    exact .inr ⟨rfl, hm y hy⟩
theorem same_full (l : List Tm) (hl : l.length ≤ 1000000) : rotaref14_Same.f (l.length + 1) l l = some true := same_f l hl
end Go.Proofs.Ytceopcfmhidjlaa.PTimerPlays
set_option linter.unusedVariables false
set_option linter.unusedSimpArgs false
namespace Go.Proofs.Ytceopcfmhidjlaa.PTimerPlays
open Go.RowKit Go.Proofs.Ytceopcfmhidjlaa.Ef Go.Proofs.Ytceopcfmhidjlaa.Mp Go.Proofs.Ytceopcfmhidjlaa.Hp Go.Proofs.YtceopcfmhidjlaaW.PrintWords Go.Proofs.YtceopcfmhidjlaaW.PrintLast Go.Proofs.YtceopcfmhidjlaaW.PrintMore
def LeftV (base p : Nat) (ok : Nat → Prop) (S : TS) (w : World) (v : Value) (e : Ending) (w' : World) : Prop := ∃ ok' : Nat → Prop, e = .returned v ∧ TP w' base p ok' S ∧ (∀ k, ok' k → ok k ∨ w.heap.size ≤ k) ∧ Fr base ok w w'
theorem LeftV.same {base p : Nat} {ok : Nat → Prop} {S : TS} {w w' : World} {v : Value} (H : TP w base p ok S) (hb : Below w.heap.size w w') : LeftV base p ok S w v (.returned v) w' := ⟨ok, rfl, H.below hb, fun k q => .inl q, H.fr.below hb⟩
/-- The document's state behind a call, with what else it told. -/
def Told (A : Option Addr) (c : Nat) (L : List Tm) (last' : Int) (L' : List Tm) (vs : List Value) (w : World) (e : Ending) (w' : World) : Prop :=
  ∃ (A' : Option Addr) (c' : Nat), e = .returned (.tuple (.agg #[.int .i64 last', .slice A' L'.length c'] :: vs).toArray) ∧ NewRow w w' A c A' c' L L' ∧ Below w.heap.size w w'
theorem armO_full {S : TS} {L : List Tm} (hL : L.length = S.all.length) (hf : S.full) (x : Tm) (now t : Int) : armO S.last L x now t = (S.last, L, 0, 2) := if_pos (by rw [hL]; exact hf)
theorem armO_ok {S : TS} {L : List Tm} (hL : L.length = S.all.length) (hf : ¬ S.full) (x : Tm) (now t : Int) : armO S.last L x now t = (S.last + 1, docPut (begL S.last x now t) L, S.last + 1, 0) := if_neg (by rw [hL]; exact hf)
/-- What is told of the state that both are in. -/
structure Say (S : TS) (L : List Tm) : Prop where
  doc : Doc S L
  di : DI S
  fine : Fine S
  l0 : 0 ≤ S.last
  l1 : S.last < 9223372036854775807
  n1 : S.next ≤ 1000000000000000000
theorem Say.len {S : TS} {L : List Tm} (h : Say S L) : L.length ≤ 1024 := by rw [h.doc.len]; exact h.fine.len
section
variable (base p : Nat) (ok okD : Nat → Prop) (S : TS) (A : Option Addr) (c : Nat) (L : List Tm) (H : Say S L)
include H
theorem sleep_both (s g now t : Int) (h1 : u64 now) (h2 : u64 t) : ∃ L' er, Doc (S.sleepS s g now t) L' ∧
    (∀ w, TP w base p ok S → Calls Try.prog 13 #[.pointer (some ⟨p, 0, none⟩), .agg #[.int .i64 s, .int .i64 g], .int .u64 now, .int .u64 t] w (LeftV base p ok (S.sleepS s g now t) w (.int .i64 er))) ∧
    (∀ w, kT.R 40 w base okD (.slice A L.length c) L → Calls Try.prog 36 #[.agg #[.int .i64 S.last, .slice A L.length c], .agg #[.int .i64 s, .int .i64 g], .int .u64 now, .int .u64 t] w (Told A c L (S.sleepS s g now t).last L' [.int .i64 er] w)) := by
  have hll := H.len
  have hsf := sleeps_f H.doc s g (by omega) (L.length + 1) (Nat.lt_succ_self _)
  by_cases hs : S.sleeps (s, g) = true
  · rw [show S.sleepS s g now t = S from if_pos (.inl hs)]
    rw [hs] at hsf
    refine ⟨L, 141, H.doc, fun w hT => (sleep_sleeps base p ok S s g now t w hT hs).mono fun e w' ⟨he, hb⟩ => by subst he; exact LeftV.same hT hb, fun w hr => (docSleep_sleeps A c L S.last s g now t w (Kd.R_reads' hr).2.2 (Kd.R_reads' hr).2.1 hsf).mono fun e w' ⟨he, hb⟩ => ⟨A, c, he, .inl ⟨rfl, rfl, rfl⟩, hb⟩⟩
  · have hs' : S.sleeps (s, g) = false := by simpa using hs
    rw [hs'] at hsf
    by_cases hf : S.full
    · rw [show S.sleepS s g now t = S from if_pos (.inr hf)]
      exact ⟨L, 2, H.doc, fun w hT => (sleep_full base p ok S s g now t w hT hs' hf).mono fun e w' ⟨he, hb⟩ => by subst he; exact LeftV.same hT hb, fun w hr => docSleep_calls A c L S.last s g now t w (Kd.R_reads' hr).2.2 (Kd.R_reads' hr).2.1 H.l0 (by have := H.l1; omega) h1 h2 hsf (armO_full H.doc.len hf _ now t)⟩
    · rw [show S.sleepS s g now t = _ from if_neg (fun q => q.elim hs hf), begin_last]
      exact ⟨_, 0, H.doc.begin H.di _ now t, fun w hT => (sleep_ok base p ok S s g now t w hT hs' (room hf) H.l1 H.n1 h1.1 h1.2 h2.1 h2.2).mono fun e w' ⟨ok', he, h3, h4, h5⟩ => ⟨ok', he, h3, h4, h5⟩, fun w hr => docSleep_calls A c L S.last s g now t w (Kd.R_reads' hr).2.2 (Kd.R_reads' hr).2.1 H.l0 (by have := H.l1; omega) h1 h2 hsf (armO_ok H.doc.len hf _ now t)⟩
theorem after_both (ch now t : Int) (h1 : u64 now) (h2 : u64 t) : ∃ L' r er, Doc (S.afterS ch now t) L' ∧
    (∀ w, TP w base p ok S → Calls Try.prog 11 #[.pointer (some ⟨p, 0, none⟩), .int .i64 ch, .int .u64 now, .int .u64 t] w (LeftV base p ok (S.afterS ch now t) w (.tuple #[.int .i64 r, .int .i64 er]))) ∧
    (∀ w, kT.R 40 w base okD (.slice A L.length c) L → Calls Try.prog 37 #[.agg #[.int .i64 S.last, .slice A L.length c], .int .i64 ch, .int .u64 now, .int .u64 t] w (Told A c L (S.afterS ch now t).last L' [.int .i64 r, .int .i64 er] w)) := by
  by_cases hf : S.full
  · rw [show S.afterS ch now t = S from if_pos hf]
    exact ⟨L, 0, 2, H.doc, fun w hT => (after_full base p ok S ch now t w hT hf).mono fun e w' ⟨he, hb⟩ => by subst he; exact LeftV.same hT hb, fun w hr => docAfter_calls A c L S.last ch now t w (Kd.R_reads' hr).2.2 (Kd.R_reads' hr).2.1 H.l0 (by have := H.l1; omega) h1 h2 (armO_full H.doc.len hf _ now t)⟩
  · rw [show S.afterS ch now t = _ from if_neg hf, begin_last]
    exact ⟨_, _, 0, H.doc.begin H.di _ now t, fun w hT => (after_ok base p ok S ch now t w hT (room hf) H.l1 H.n1 h1.1 h1.2 h2.1 h2.2).mono fun e w' ⟨ok', he, h3, h4, h5⟩ => ⟨ok', he, h3, h4, h5⟩, fun w hr => docAfter_calls A c L S.last ch now t w (Kd.R_reads' hr).2.2 (Kd.R_reads' hr).2.1 H.l0 (by have := H.l1; omega) h1 h2 (armO_ok H.doc.len hf _ now t)⟩
theorem every_both (ch now t : Int) (h1 : u64 now) (h2 : u64 t) : ∃ L' r er, Doc (S.everyS ch now t) L' ∧
    (∀ w, TP w base p ok S → Calls Try.prog 12 #[.pointer (some ⟨p, 0, none⟩), .int .i64 ch, .int .u64 now, .int .u64 t] w (LeftV base p ok (S.everyS ch now t) w (.tuple #[.int .i64 r, .int .i64 er]))) ∧
    (∀ w, kT.R 40 w base okD (.slice A L.length c) L → Calls Try.prog 38 #[.agg #[.int .i64 S.last, .slice A L.length c], .int .i64 ch, .int .u64 now, .int .u64 t] w (Told A c L (S.everyS ch now t).last L' [.int .i64 r, .int .i64 er] w)) := by
  by_cases hz : t = 0
  · subst hz
    rw [show S.everyS ch now 0 = S from if_pos (.inl rfl)]
    exact ⟨L, 0, 1, H.doc, fun w hT => (every_zero base p ok S ch now w hT).mono fun e w' ⟨he, hb⟩ => by subst he; subst hb; exact LeftV.same hT (Below.refl _ _), fun w hr => (docEvery_zero A c L S.last ch now w (Kd.R_reads' hr).2.2).mono fun e w' ⟨he, hb⟩ => ⟨A, c, he, .inl ⟨rfl, rfl, rfl⟩, hb⟩⟩
  · by_cases hf : S.full
    · rw [show S.everyS ch now t = S from if_pos (.inr hf)]
      exact ⟨L, 0, 2, H.doc, fun w hT => (every_full base p ok S ch now t w hT hf hz).mono fun e w' ⟨he, hb⟩ => by subst he; exact LeftV.same hT hb, fun w hr => docEvery_calls A c L S.last ch now t w (Kd.R_reads' hr).2.2 (Kd.R_reads' hr).2.1 H.l0 (by have := H.l1; omega) h1 h2 hz (armO_full H.doc.len hf _ now t)⟩
    · rw [show S.everyS ch now t = _ from if_neg (fun q => q.elim hz hf), begin_last]
      exact ⟨_, _, 0, H.doc.begin H.di _ now t, fun w hT => (every_ok base p ok S ch now t w hT hz (room hf) H.l1 H.n1 h1.1 h1.2 h2.1 h2.2).mono fun e w' ⟨ok', he, h3, h4, h5⟩ => ⟨ok', he, h3, h4, h5⟩, fun w hr => docEvery_calls A c L S.last ch now t w (Kd.R_reads' hr).2.2 (Kd.R_reads' hr).2.1 H.l0 (by have := H.l1; omega) h1 h2 hz (armO_ok H.doc.len hf _ now t)⟩
theorem stop_both (id : Int) : ∃ L' b, Doc (S.stopS id) L' ∧
    (∀ w, TP w base p ok S → Calls Try.prog 14 #[.pointer (some ⟨p, 0, none⟩), .int .i64 id] w (LeftV base p ok (S.stopS id) w (.bool b))) ∧
    (∀ w, kT.R 40 w base okD (.slice A L.length c) L → Calls Try.prog 39 #[.agg #[.int .i64 S.last, .slice A L.length c], .int .i64 id] w (Told A c L (S.stopS id).last L' [.bool b] w)) := by
  have hsf := stop_f H.doc H.fine id 2000 (Nat.le_refl _)
  have hla : (S.stopS id).last = S.last := by unfold TS.stopS; split <;> rfl
  refine ⟨_, stopB S id, H.doc.stop id, fun w hT => ?_, fun w hr => ?_⟩
  · by_cases h : S.all.any (fun x => x.f0 == id && x.f1 != 1) = true
    · rw [show S.stopS id = _ from if_pos h, show stopB S id = true from h]
      obtain ⟨x, hx, hq⟩ := List.any_eq_true.1 h
      simp only [Bool.and_eq_true, beq_iff_eq, bne_iff_ne, ne_eq] at hq
      have := stop_ok base p ok S x w hT hx hq.2
      rw [hq.1] at this
      exact this.mono fun e w' ⟨ok', he, h3, h4, h5⟩ => ⟨ok', he, h3, h4, h5⟩
    · rw [show S.stopS id = _ from if_neg h, show stopB S id = false from by unfold stopB; simpa using h]
      have hno : ∀ x ∈ S.all, ¬ (x.f0 = id ∧ x.f1 ≠ 1) := fun x hx q => h (List.any_eq_true.2 ⟨x, hx, by simp [q.1, q.2]⟩)
      by_cases hi : ∃ x ∈ S.all, x.f0 = id
      · obtain ⟨x, hx, e⟩ := hi
        have hk : x.f1 = 1 := by
          by_cases q : x.f1 = 1
          · exact q
          · exact absurd ⟨e, q⟩ (hno x hx)
        exact (stop_sleep base p ok S id x w hT hx e hk).mono fun e w' ⟨he, hb⟩ => by subst he; exact LeftV.same hT hb
      · exact (stop_none base p ok S id w hT (fun x hx e => hi ⟨x, hx, e⟩)).mono fun e w' ⟨he, hb⟩ => by subst he; exact LeftV.same hT hb
  · rw [hla]
    generalize (if stopB S id = true then L.filter (fun x => x.f0 != id) else L) = L' at hsf
    generalize stopB S id = b at hsf
    refine (rotaref14_Stop.calls 2000 S.last okD A c L id S.last L' b w (Kd.R_V hr) hsf).mono ?_
    rintro e w' ⟨⟨rfl, -, v, rfl, hn⟩ | ⟨rfl, -, rfl, rfl⟩, hb⟩
    · obtain ⟨A', c', rfl⟩ := Kd.R_slice hn
      exact ⟨A', c', rfl, .inr hn, hb⟩
    · exact ⟨A, c, rfl, .inl ⟨rfl, rfl, rfl⟩, hb⟩
end
end Go.Proofs.Ytceopcfmhidjlaa.PTimerPlays
set_option linter.unusedVariables false
set_option linter.unusedSimpArgs false
namespace Go.Proofs.Ytceopcfmhidjlaa.PTimerPlays
open Go.RowKit Go.Proofs.Ytceopcfmhidjlaa.Ef Go.Proofs.Ytceopcfmhidjlaa.Mp Go.Proofs.Ytceopcfmhidjlaa.Hp Go.Proofs.YtceopcfmhidjlaaW.PrintWords Go.Proofs.YtceopcfmhidjlaaW.PrintLast Go.Proofs.YtceopcfmhidjlaaW.PrintMore
theorem NewRow.row {w w' : World} {base : Nat} {okD : Nat → Prop} {A A' : Option Addr} {c c' : Nat} {L L' : List Tm} (h : NewRow w w' A c A' c' L L') (hr : kT.R 40 w base okD (.slice A L.length c) L) (hb : Below w.heap.size w w') (hs : base ≤ w.heap.size) : kT.R 40 w' base (fun k => okD k ∨ w.heap.size ≤ k) (.slice A' L'.length c') L' := by
  rcases h with ⟨rfl, rfl, rfl⟩ | h
  · exact Kd.R_mono (Kd.R_below hr hb) (fun k q => .inl q)
  · exact Kd.R_mono (Kd.R_lower h hs) (fun k q => .inr q)
theorem rowG {w W : World} {base g : Nat} {okD : Nat → Prop} {v : Value} {L : List Tm} {cs : Array Value} (h : kT.R 40 w base okD v L) (hb : w.heap[g]? = some (.cells cs 64 (0, 0))) (hg : w.grownBy W (some g)) : kT.R 40 W base okD v L :=
  Kd.R_mono (Kd.R_grown (Kd.R_types h hb (by decide)) hg (fun k q e => q.2 (Option.some.inj e))) (fun k q => q.1)
/-- Both behind one call. -/
def Both (base p : Nat) (ok : Nat → Prop) (S : TS) (o : OpT) (w : World) (e : Ending) (w' : World) : Prop :=
  ∃ (S' : TS) (L' : List Tm) (ok' okD' : Nat → Prop) (A' : Option Addr) (c' : Nat), e = .returned (.tuple #[.agg #[.int .i64 S'.last, .slice A' L'.length c'], .bool true]) ∧ Does S o S' ∧ Doc S' L' ∧ TP w' base p ok' S' ∧ kT.R 40 w' base okD' (.slice A' L'.length c') L' ∧ (∀ k, okD' k → ¬ ok' k) ∧ (∀ k, ok' k → ok k ∨ w.heap.size ≤ k) ∧ Fr base ok w w'
set_option maxHeartbeats 4000000 in
set_option maxRecDepth 100000 in
theorem calls_sleep (base p : Nat) (ok okD : Nat → Prop) (S : TS) (A : Option Addr) (c : Nat) (L : List Tm) (H : Say S L) (x1 x2 x3 now t : Int) (w : World) (hT : TP w base p ok S) (hr : kT.R 40 w base okD (.slice A L.length c) L) (ha : ∀ k, okD k → ¬ ok k ∧ k < w.heap.size) (h1 : u64 now) (h2 : u64 t) :
    Calls Try.prog 23 #[.pointer (some ⟨p, 0, none⟩), .agg #[.int .i64 S.last, .slice A L.length c], .agg #[.int .i64 0, .int .i64 x1, .int .i64 x2, .int .i64 x3, .int .u64 now, .int .u64 t]] w (Both base p ok S ⟨0, ⟨x1, x2⟩, x3, now, t⟩ w) := by
  obtain ⟨L', er, hD, hp, hd⟩ := sleep_both base p ok okD S A c L H x1 x2 now t h1 h2
  have hSd : Does S ⟨0, ⟨x1, x2⟩, x3, now, t⟩ (S.sleepS x1 x2 now t) := .inl ⟨rfl, rfl⟩
  generalize S.sleepS x1 x2 now t = S' at hD hp hd hSd
  have HP := Aside0.mk hp
  have HD := Aside0.mk hd
  clear hp hd
  have HA := Aside0.mk ha
  have HT := Aside0.mk hT
  have HR := Aside0.mk hr
  have hu64 := Try.underlying64
  clear hT hr ha h1 h2
  go_enter Try.func23, Try.ntmps23
  go_wp2_with (first
    | ((with_reducible refine gate_dst (N := 4) rfl ?_); refine box_event ?hg (N := 4) ?hd (cs := #[.int .i64 S.last, .slice A L.length c]) (t := 64) ?hr ?_; (case hd => rfl); (case hg => rfl); (case hr => first | (go_simp; done) | (go_simp; rfl)); intro g4 hgN w1 hbox hb; have HE4 := Aside0.mk (show w.heap.size ≤ g4 by omega); have HB1 := Aside0.mk hb; have B41 := Aside0.mk hbox; clear hb hbox hgN)
    | ((with_reducible refine gate_dst (N := 5) rfl ?_); refine box_event ?hg (N := 5) ?hd (cs := #[.int .i64 0, .int .i64 x1, .int .i64 x2, .int .i64 x3, .int .u64 now, .int .u64 t]) (t := 52) ?hr ?_; (case hd => rfl); (case hg => rfl); (case hr => first | (go_simp; done) | (go_simp; rfl)); intro g5 hgN w2 hbox hb; have HE5 := Aside0.mk (show w.heap.size ≤ g5 from by have := HB1.out.size; omega); have HB2 := Aside0.mk (below_step HB1.out hb); have B42 := Aside0.mk (blk_below B41.out hb); have B52 := Aside0.mk hbox; clear hb hbox hgN HB1 B41)
    | ((with_reducible refine gate_dst (N := 6) rfl ?_); refine box_event ?hg (N := 6) ?hd (cs := #[.int .i64 0, .slice none 0 0]) (t := 64) ?hr ?_; (case hd => rfl); (case hg => rfl); (case hr => first | (go_simp; done) | (go_simp; rfl)); intro g6 hgN w3 hbox hb; have HE6 := Aside0.mk (show w.heap.size ≤ g6 from by have := HB2.out.size; omega); have HB3 := Aside0.mk (below_step HB2.out hb); have B43 := Aside0.mk (blk_below B42.out hb); have B53 := Aside0.mk (blk_below B52.out hb); have B63 := Aside0.mk hbox; have HF3 := Aside0.mk (HT.out.fr.below HB3.out); have HT3 := Aside0.mk (HT.out.below HB3.out); have HR3 := Aside0.mk (Kd.R_below HR.out HB3.out); have s0 : w3.cell? ⟨g4, 0, none⟩ = some (.int .i64 S.last) := (blk_cell B43.out 0).trans rfl; have s1 : w3.cell? ⟨g4, 1, none⟩ = some (.slice A L.length c) := (blk_cell B43.out 1).trans rfl; have k0 : w3.cell? ⟨g5, 0, none⟩ = some (.int .i64 0) := (blk_cell B53.out 0).trans rfl; have k1 : w3.cell? ⟨g5, 1, none⟩ = some (.int .i64 x1) := (blk_cell B53.out 1).trans rfl; have k2 : w3.cell? ⟨g5, 2, none⟩ = some (.int .i64 x2) := (blk_cell B53.out 2).trans rfl; have k3 : w3.cell? ⟨g5, 3, none⟩ = some (.int .i64 x3) := (blk_cell B53.out 3).trans rfl; have k4 : w3.cell? ⟨g5, 4, none⟩ = some (.int .u64 now) := (blk_cell B53.out 4).trans rfl; have k5 : w3.cell? ⟨g5, 5, none⟩ = some (.int .u64 t) := (blk_cell B53.out 5).trans rfl; clear hb hbox hgN HB2 B42 B52)
    | (go_at_call 13; (refine (HP.out _ HT3.out).mono ?_); rintro e w4 ⟨ok', rfl, hT, hn, hF⟩; have HT4 := Aside0.mk hT; have HN4 := Aside0.mk (show ∀ k, ok' k → ok k ∨ w.heap.size ≤ k from fun k q => (hn k q).imp id (Nat.le_trans HB3.out.size)); have HA4 := Aside0.mk (show ∀ k, okD k → ¬ ok' k from fun k q q2 => by rcases hn k q2 with r | r; exact (HA.out k q).1 r; (have := (HA.out k q).2; have := HB3.out.size; omega)); have HG6 := Aside0.mk (show ¬ ok' g6 from fun q => by rcases hn g6 q with r | r; exact HT.out.new HE6.out r; (have := blk_lt B63.out; omega)); have HF4 := Aside0.mk (HF3.out.then_ hF (Nat.le_refl _) (fun k q => .inl q)); have HR4 := Aside0.mk (Kd.R_kept HR3.out hF.k (fun k q => (HA.out k q).1)); have B44 := Aside0.mk (hF.blk B43.out (HT.out.new HE4.out)); have B54 := Aside0.mk (hF.blk B53.out (HT.out.new HE5.out)); have B64 := Aside0.mk (hF.blk B63.out (HT.out.new HE6.out)); clear hT hn hF s0 s1 k0 k1 k2 k3 k4 k5; have s0 : w4.cell? ⟨g4, 0, none⟩ = some (.int .i64 S.last) := (blk_cell B44.out 0).trans rfl; have s1 : w4.cell? ⟨g4, 1, none⟩ = some (.slice A L.length c) := (blk_cell B44.out 1).trans rfl; have k0 : w4.cell? ⟨g5, 0, none⟩ = some (.int .i64 0) := (blk_cell B54.out 0).trans rfl; have k1 : w4.cell? ⟨g5, 1, none⟩ = some (.int .i64 x1) := (blk_cell B54.out 1).trans rfl; have k2 : w4.cell? ⟨g5, 2, none⟩ = some (.int .i64 x2) := (blk_cell B54.out 2).trans rfl; have k3 : w4.cell? ⟨g5, 3, none⟩ = some (.int .i64 x3) := (blk_cell B54.out 3).trans rfl; have k4 : w4.cell? ⟨g5, 4, none⟩ = some (.int .u64 now) := (blk_cell B54.out 4).trans rfl; have k5 : w4.cell? ⟨g5, 5, none⟩ = some (.int .u64 t) := (blk_cell B54.out 5).trans rfl; clear HT3 HR3 HF3 B43 B53 B63)
    | (go_at_call 36; (refine (HD.out _ HR4.out).mono ?_); rintro e w5 ⟨A', c', rfl, hnr, hb⟩; have HT5 := Aside0.mk (HT4.out.below hb); have HF5 := Aside0.mk (HF4.out.below hb); have HR5 := Aside0.mk (hnr.row HR4.out hb HT4.out.le); have HA5 := Aside0.mk (show ∀ k, (okD k ∨ w4.heap.size ≤ k) → ¬ ok' k from fun k q => q.elim (HA4.out k) (fun q => HT4.out.new q)); have B65 := Aside0.mk (blk_below B64.out hb); clear hnr hb s0 s1 k0 k1 k2 k3 k4 k5 B44 B54 B64 HR4 HF4)
    | ((with_reducible refine gate_dst (N := 9) rfl ?_); refine box_event ?hg (N := 9) ?hd (cs := #[.int .i64 0, .slice none 0 0]) (t := 64) ?hr ?_; (case hd => rfl); (case hg => rfl); (case hr => first | (go_simp; done) | (go_simp; rfl)); intro gx hgN w6 hbox hb; have HEx := Aside0.mk (show w5.heap.size ≤ gx by omega); have HT6 := Aside0.mk (HT5.out.below hb); have HF6 := Aside0.mk (HF5.out.below hb); have HR6 := Aside0.mk (Kd.R_below HR5.out hb); have HN6 := Aside0.mk (show g6 ≠ gx from by have := blk_lt B65.out; omega); have B66 := Aside0.mk (blk_below B65.out hb); have Bx6 := Aside0.mk hbox; clear hb hbox hgN HR5)
    | ((with_reducible refine gate_store (t := 64) (p := 9) (v := .tmp 48) rfl ?_); refine step_store rfl rfl rfl Bx6.out rfl (u := .agg #[.int .i64 S'.last, .slice A' L'.length c']) (seg := [.int .i64 S'.last, .slice A' L'.length c']) rfl rfl (by kernel_rfl) (by simp [Value.oneCell']) (Nat.le_refl 2) (cur' := #[.int .i64 S'.last, .slice A' L'.length c']) rfl ?_; intro w7 hbs hgs hss; have HT7 := Aside0.mk (HT6.out.grown hgs (HT5.out.new HEx.out)); have HF7 := Aside0.mk (HF6.out.grown hgs (.inr (Nat.le_trans HF5.out.size HEx.out))); have HR7 := Aside0.mk (rowG HR6.out Bx6.out hgs); have B67 := Aside0.mk (blk_grown B66.out hgs (fun e => HN6.out (Option.some.inj e))); have s0 : w7.cell? ⟨gx, 0, none⟩ = some (.int .i64 S'.last) := (blk_cell hbs 0).trans rfl; have s1 : w7.cell? ⟨gx, 1, none⟩ = some (.slice A' L'.length c') := (blk_cell hbs 1).trans rfl; clear hbs hgs hss)
    | ((with_reducible refine gate_store (t := 64) (p := 6) (v := .tmp 50) rfl ?_); refine step_store rfl rfl rfl B67.out rfl (u := .agg #[.int .i64 S'.last, .slice A' L'.length c']) (seg := [.int .i64 S'.last, .slice A' L'.length c']) rfl rfl (by kernel_rfl) (by simp [Value.oneCell']) (Nat.le_refl 2) (cur' := #[.int .i64 S'.last, .slice A' L'.length c']) rfl ?_; intro w8 hbs hgs hss; have HT8 := Aside0.mk (HT7.out.grown hgs HG6.out); have HF8 := Aside0.mk (HF7.out.grown hgs (.inr HE6.out)); have HR8 := Aside0.mk (rowG HR7.out B67.out hgs); have BF := Aside0.mk hbs; clear hbs hgs hss))
  refine bodyPost_ret (results_list (rs := [.cell 6 64, .tmp 7]) rfl (by simp) (.cell g6 64 #[.int .i64 S'.last, .slice A' L'.length c'] (0, 0) _ rfl BF.out Try.underlying64 rfl (by kernel_rfl) (.tmp .nil))) rfl ?_
  exact ⟨S', L', ok', _, A', c', by simp, hSd, hD, HT8.out, HR8.out, HA5.out, HN4.out, HF8.out⟩
set_option maxHeartbeats 4000000 in
set_option maxRecDepth 100000 in
theorem calls_after (base p : Nat) (ok okD : Nat → Prop) (S : TS) (A : Option Addr) (c : Nat) (L : List Tm) (H : Say S L) (x1 x2 x3 now t : Int) (w : World) (hT : TP w base p ok S) (hr : kT.R 40 w base okD (.slice A L.length c) L) (ha : ∀ k, okD k → ¬ ok k ∧ k < w.heap.size) (h1 : u64 now) (h2 : u64 t) :
    Calls Try.prog 23 #[.pointer (some ⟨p, 0, none⟩), .agg #[.int .i64 S.last, .slice A L.length c], .agg #[.int .i64 1, .int .i64 x1, .int .i64 x2, .int .i64 x3, .int .u64 now, .int .u64 t]] w (Both base p ok S ⟨1, ⟨x1, x2⟩, x3, now, t⟩ w) := by
  obtain ⟨L', r, er, hD, hp, hd⟩ := after_both base p ok okD S A c L H x3 now t h1 h2
  have hSd : Does S ⟨1, ⟨x1, x2⟩, x3, now, t⟩ (S.afterS x3 now t) := .inr (.inl ⟨rfl, rfl⟩)
  generalize S.afterS x3 now t = S' at hD hp hd hSd
  have HP := Aside0.mk hp
  have HD := Aside0.mk hd
  clear hp hd
  have HA := Aside0.mk ha
  have HT := Aside0.mk hT
  have HR := Aside0.mk hr
  have hu64 := Try.underlying64
  clear hT hr ha h1 h2
  go_enter Try.func23, Try.ntmps23
  go_wp2_with (first
    | ((with_reducible refine gate_dst (N := 4) rfl ?_); refine box_event ?hg (N := 4) ?hd (cs := #[.int .i64 S.last, .slice A L.length c]) (t := 64) ?hr ?_; (case hd => rfl); (case hg => rfl); (case hr => first | (go_simp; done) | (go_simp; rfl)); intro g4 hgN w1 hbox hb; have HE4 := Aside0.mk (show w.heap.size ≤ g4 by omega); have HB1 := Aside0.mk hb; have B41 := Aside0.mk hbox; clear hb hbox hgN)
    | ((with_reducible refine gate_dst (N := 5) rfl ?_); refine box_event ?hg (N := 5) ?hd (cs := #[.int .i64 1, .int .i64 x1, .int .i64 x2, .int .i64 x3, .int .u64 now, .int .u64 t]) (t := 52) ?hr ?_; (case hd => rfl); (case hg => rfl); (case hr => first | (go_simp; done) | (go_simp; rfl)); intro g5 hgN w2 hbox hb; have HE5 := Aside0.mk (show w.heap.size ≤ g5 from by have := HB1.out.size; omega); have HB2 := Aside0.mk (below_step HB1.out hb); have B42 := Aside0.mk (blk_below B41.out hb); have B52 := Aside0.mk hbox; clear hb hbox hgN HB1 B41)
    | ((with_reducible refine gate_dst (N := 6) rfl ?_); refine box_event ?hg (N := 6) ?hd (cs := #[.int .i64 0, .slice none 0 0]) (t := 64) ?hr ?_; (case hd => rfl); (case hg => rfl); (case hr => first | (go_simp; done) | (go_simp; rfl)); intro g6 hgN w3 hbox hb; have HE6 := Aside0.mk (show w.heap.size ≤ g6 from by have := HB2.out.size; omega); have HB3 := Aside0.mk (below_step HB2.out hb); have B43 := Aside0.mk (blk_below B42.out hb); have B53 := Aside0.mk (blk_below B52.out hb); have B63 := Aside0.mk hbox; have HF3 := Aside0.mk (HT.out.fr.below HB3.out); have HT3 := Aside0.mk (HT.out.below HB3.out); have HR3 := Aside0.mk (Kd.R_below HR.out HB3.out); have s0 : w3.cell? ⟨g4, 0, none⟩ = some (.int .i64 S.last) := (blk_cell B43.out 0).trans rfl; have s1 : w3.cell? ⟨g4, 1, none⟩ = some (.slice A L.length c) := (blk_cell B43.out 1).trans rfl; have k0 : w3.cell? ⟨g5, 0, none⟩ = some (.int .i64 1) := (blk_cell B53.out 0).trans rfl; have k1 : w3.cell? ⟨g5, 1, none⟩ = some (.int .i64 x1) := (blk_cell B53.out 1).trans rfl; have k2 : w3.cell? ⟨g5, 2, none⟩ = some (.int .i64 x2) := (blk_cell B53.out 2).trans rfl; have k3 : w3.cell? ⟨g5, 3, none⟩ = some (.int .i64 x3) := (blk_cell B53.out 3).trans rfl; have k4 : w3.cell? ⟨g5, 4, none⟩ = some (.int .u64 now) := (blk_cell B53.out 4).trans rfl; have k5 : w3.cell? ⟨g5, 5, none⟩ = some (.int .u64 t) := (blk_cell B53.out 5).trans rfl; clear hb hbox hgN HB2 B42 B52)
    | (go_at_call 11; (refine (HP.out _ HT3.out).mono ?_); rintro e w4 ⟨ok', rfl, hT, hn, hF⟩; have HT4 := Aside0.mk hT; have HN4 := Aside0.mk (show ∀ k, ok' k → ok k ∨ w.heap.size ≤ k from fun k q => (hn k q).imp id (Nat.le_trans HB3.out.size)); have HA4 := Aside0.mk (show ∀ k, okD k → ¬ ok' k from fun k q q2 => by rcases hn k q2 with r | r; exact (HA.out k q).1 r; (have := (HA.out k q).2; have := HB3.out.size; omega)); have HG6 := Aside0.mk (show ¬ ok' g6 from fun q => by rcases hn g6 q with r | r; exact HT.out.new HE6.out r; (have := blk_lt B63.out; omega)); have HF4 := Aside0.mk (HF3.out.then_ hF (Nat.le_refl _) (fun k q => .inl q)); have HR4 := Aside0.mk (Kd.R_kept HR3.out hF.k (fun k q => (HA.out k q).1)); have B44 := Aside0.mk (hF.blk B43.out (HT.out.new HE4.out)); have B54 := Aside0.mk (hF.blk B53.out (HT.out.new HE5.out)); have B64 := Aside0.mk (hF.blk B63.out (HT.out.new HE6.out)); clear hT hn hF s0 s1 k0 k1 k2 k3 k4 k5; have s0 : w4.cell? ⟨g4, 0, none⟩ = some (.int .i64 S.last) := (blk_cell B44.out 0).trans rfl; have s1 : w4.cell? ⟨g4, 1, none⟩ = some (.slice A L.length c) := (blk_cell B44.out 1).trans rfl; have k0 : w4.cell? ⟨g5, 0, none⟩ = some (.int .i64 1) := (blk_cell B54.out 0).trans rfl; have k1 : w4.cell? ⟨g5, 1, none⟩ = some (.int .i64 x1) := (blk_cell B54.out 1).trans rfl; have k2 : w4.cell? ⟨g5, 2, none⟩ = some (.int .i64 x2) := (blk_cell B54.out 2).trans rfl; have k3 : w4.cell? ⟨g5, 3, none⟩ = some (.int .i64 x3) := (blk_cell B54.out 3).trans rfl; have k4 : w4.cell? ⟨g5, 4, none⟩ = some (.int .u64 now) := (blk_cell B54.out 4).trans rfl; have k5 : w4.cell? ⟨g5, 5, none⟩ = some (.int .u64 t) := (blk_cell B54.out 5).trans rfl; clear HT3 HR3 HF3 B43 B53 B63)
    | (go_at_call 37; (refine (HD.out _ HR4.out).mono ?_); rintro e w5 ⟨A', c', rfl, hnr, hb⟩; have HT5 := Aside0.mk (HT4.out.below hb); have HF5 := Aside0.mk (HF4.out.below hb); have HR5 := Aside0.mk (hnr.row HR4.out hb HT4.out.le); have HA5 := Aside0.mk (show ∀ k, (okD k ∨ w4.heap.size ≤ k) → ¬ ok' k from fun k q => q.elim (HA4.out k) (fun q => HT4.out.new q)); have B65 := Aside0.mk (blk_below B64.out hb); clear hnr hb s0 s1 k0 k1 k2 k3 k4 k5 B44 B54 B64 HR4 HF4)
    | ((with_reducible refine gate_dst (N := 13) rfl ?_); refine box_event ?hg (N := 13) ?hd (cs := #[.int .i64 0, .slice none 0 0]) (t := 64) ?hr ?_; (case hd => rfl); (case hg => rfl); (case hr => first | (go_simp; done) | (go_simp; rfl)); intro gx hgN w6 hbox hb; have HEx := Aside0.mk (show w5.heap.size ≤ gx by omega); have HT6 := Aside0.mk (HT5.out.below hb); have HF6 := Aside0.mk (HF5.out.below hb); have HR6 := Aside0.mk (Kd.R_below HR5.out hb); have HN6 := Aside0.mk (show g6 ≠ gx from by have := blk_lt B65.out; omega); have B66 := Aside0.mk (blk_below B65.out hb); have Bx6 := Aside0.mk hbox; clear hb hbox hgN HR5)
    | ((with_reducible refine gate_store (t := 64) (p := 13) (v := .tmp 76) rfl ?_); refine step_store rfl rfl rfl Bx6.out rfl (u := .agg #[.int .i64 S'.last, .slice A' L'.length c']) (seg := [.int .i64 S'.last, .slice A' L'.length c']) rfl rfl (by kernel_rfl) (by simp [Value.oneCell']) (Nat.le_refl 2) (cur' := #[.int .i64 S'.last, .slice A' L'.length c']) rfl ?_; intro w7 hbs hgs hss; have HT7 := Aside0.mk (HT6.out.grown hgs (HT5.out.new HEx.out)); have HF7 := Aside0.mk (HF6.out.grown hgs (.inr (Nat.le_trans HF5.out.size HEx.out))); have HR7 := Aside0.mk (rowG HR6.out Bx6.out hgs); have B67 := Aside0.mk (blk_grown B66.out hgs (fun e => HN6.out (Option.some.inj e))); have s0 : w7.cell? ⟨gx, 0, none⟩ = some (.int .i64 S'.last) := (blk_cell hbs 0).trans rfl; have s1 : w7.cell? ⟨gx, 1, none⟩ = some (.slice A' L'.length c') := (blk_cell hbs 1).trans rfl; clear hbs hgs hss)
    | ((with_reducible refine gate_store (t := 64) (p := 6) (v := .tmp 79) rfl ?_); refine step_store rfl rfl rfl B67.out rfl (u := .agg #[.int .i64 S'.last, .slice A' L'.length c']) (seg := [.int .i64 S'.last, .slice A' L'.length c']) rfl rfl (by kernel_rfl) (by simp [Value.oneCell']) (Nat.le_refl 2) (cur' := #[.int .i64 S'.last, .slice A' L'.length c']) rfl ?_; intro w8 hbs hgs hss; have HT8 := Aside0.mk (HT7.out.grown hgs HG6.out); have HF8 := Aside0.mk (HF7.out.grown hgs (.inr HE6.out)); have HR8 := Aside0.mk (rowG HR7.out B67.out hgs); have BF := Aside0.mk hbs; clear hbs hgs hss))
  refine bodyPost_ret (results_list (rs := [.cell 6 64, .tmp 7]) rfl (by simp) (.cell g6 64 #[.int .i64 S'.last, .slice A' L'.length c'] (0, 0) _ rfl BF.out Try.underlying64 rfl (by kernel_rfl) (.tmp .nil))) rfl ?_
  exact ⟨S', L', ok', _, A', c', by simp, hSd, hD, HT8.out, HR8.out, HA5.out, HN4.out, HF8.out⟩
set_option maxHeartbeats 4000000 in
set_option maxRecDepth 100000 in
theorem calls_every (base p : Nat) (ok okD : Nat → Prop) (S : TS) (A : Option Addr) (c : Nat) (L : List Tm) (H : Say S L) (x1 x2 x3 now t : Int) (w : World) (hT : TP w base p ok S) (hr : kT.R 40 w base okD (.slice A L.length c) L) (ha : ∀ k, okD k → ¬ ok k ∧ k < w.heap.size) (h1 : u64 now) (h2 : u64 t) :
    Calls Try.prog 23 #[.pointer (some ⟨p, 0, none⟩), .agg #[.int .i64 S.last, .slice A L.length c], .agg #[.int .i64 2, .int .i64 x1, .int .i64 x2, .int .i64 x3, .int .u64 now, .int .u64 t]] w (Both base p ok S ⟨2, ⟨x1, x2⟩, x3, now, t⟩ w) := by
  obtain ⟨L', r, er, hD, hp, hd⟩ := every_both base p ok okD S A c L H x3 now t h1 h2
  have hSd : Does S ⟨2, ⟨x1, x2⟩, x3, now, t⟩ (S.everyS x3 now t) := .inr (.inr (.inl ⟨rfl, rfl⟩))
  generalize S.everyS x3 now t = S' at hD hp hd hSd
  have HP := Aside0.mk hp
  have HD := Aside0.mk hd
  clear hp hd
  have HA := Aside0.mk ha
  have HT := Aside0.mk hT
  have HR := Aside0.mk hr
  have hu64 := Try.underlying64
  clear hT hr ha h1 h2
  go_enter Try.func23, Try.ntmps23
  go_wp2_with (first
    | ((with_reducible refine gate_dst (N := 4) rfl ?_); refine box_event ?hg (N := 4) ?hd (cs := #[.int .i64 S.last, .slice A L.length c]) (t := 64) ?hr ?_; (case hd => rfl); (case hg => rfl); (case hr => first | (go_simp; done) | (go_simp; rfl)); intro g4 hgN w1 hbox hb; have HE4 := Aside0.mk (show w.heap.size ≤ g4 by omega); have HB1 := Aside0.mk hb; have B41 := Aside0.mk hbox; clear hb hbox hgN)
    | ((with_reducible refine gate_dst (N := 5) rfl ?_); refine box_event ?hg (N := 5) ?hd (cs := #[.int .i64 2, .int .i64 x1, .int .i64 x2, .int .i64 x3, .int .u64 now, .int .u64 t]) (t := 52) ?hr ?_; (case hd => rfl); (case hg => rfl); (case hr => first | (go_simp; done) | (go_simp; rfl)); intro g5 hgN w2 hbox hb; have HE5 := Aside0.mk (show w.heap.size ≤ g5 from by have := HB1.out.size; omega); have HB2 := Aside0.mk (below_step HB1.out hb); have B42 := Aside0.mk (blk_below B41.out hb); have B52 := Aside0.mk hbox; clear hb hbox hgN HB1 B41)
    | ((with_reducible refine gate_dst (N := 6) rfl ?_); refine box_event ?hg (N := 6) ?hd (cs := #[.int .i64 0, .slice none 0 0]) (t := 64) ?hr ?_; (case hd => rfl); (case hg => rfl); (case hr => first | (go_simp; done) | (go_simp; rfl)); intro g6 hgN w3 hbox hb; have HE6 := Aside0.mk (show w.heap.size ≤ g6 from by have := HB2.out.size; omega); have HB3 := Aside0.mk (below_step HB2.out hb); have B43 := Aside0.mk (blk_below B42.out hb); have B53 := Aside0.mk (blk_below B52.out hb); have B63 := Aside0.mk hbox; have HF3 := Aside0.mk (HT.out.fr.below HB3.out); have HT3 := Aside0.mk (HT.out.below HB3.out); have HR3 := Aside0.mk (Kd.R_below HR.out HB3.out); have s0 : w3.cell? ⟨g4, 0, none⟩ = some (.int .i64 S.last) := (blk_cell B43.out 0).trans rfl; have s1 : w3.cell? ⟨g4, 1, none⟩ = some (.slice A L.length c) := (blk_cell B43.out 1).trans rfl; have k0 : w3.cell? ⟨g5, 0, none⟩ = some (.int .i64 2) := (blk_cell B53.out 0).trans rfl; have k1 : w3.cell? ⟨g5, 1, none⟩ = some (.int .i64 x1) := (blk_cell B53.out 1).trans rfl; have k2 : w3.cell? ⟨g5, 2, none⟩ = some (.int .i64 x2) := (blk_cell B53.out 2).trans rfl; have k3 : w3.cell? ⟨g5, 3, none⟩ = some (.int .i64 x3) := (blk_cell B53.out 3).trans rfl; have k4 : w3.cell? ⟨g5, 4, none⟩ = some (.int .u64 now) := (blk_cell B53.out 4).trans rfl; have k5 : w3.cell? ⟨g5, 5, none⟩ = some (.int .u64 t) := (blk_cell B53.out 5).trans rfl; clear hb hbox hgN HB2 B42 B52)
    | (go_at_call 12; (refine (HP.out _ HT3.out).mono ?_); rintro e w4 ⟨ok', rfl, hT, hn, hF⟩; have HT4 := Aside0.mk hT; have HN4 := Aside0.mk (show ∀ k, ok' k → ok k ∨ w.heap.size ≤ k from fun k q => (hn k q).imp id (Nat.le_trans HB3.out.size)); have HA4 := Aside0.mk (show ∀ k, okD k → ¬ ok' k from fun k q q2 => by rcases hn k q2 with r | r; exact (HA.out k q).1 r; (have := (HA.out k q).2; have := HB3.out.size; omega)); have HG6 := Aside0.mk (show ¬ ok' g6 from fun q => by rcases hn g6 q with r | r; exact HT.out.new HE6.out r; (have := blk_lt B63.out; omega)); have HF4 := Aside0.mk (HF3.out.then_ hF (Nat.le_refl _) (fun k q => .inl q)); have HR4 := Aside0.mk (Kd.R_kept HR3.out hF.k (fun k q => (HA.out k q).1)); have B44 := Aside0.mk (hF.blk B43.out (HT.out.new HE4.out)); have B54 := Aside0.mk (hF.blk B53.out (HT.out.new HE5.out)); have B64 := Aside0.mk (hF.blk B63.out (HT.out.new HE6.out)); clear hT hn hF s0 s1 k0 k1 k2 k3 k4 k5; have s0 : w4.cell? ⟨g4, 0, none⟩ = some (.int .i64 S.last) := (blk_cell B44.out 0).trans rfl; have s1 : w4.cell? ⟨g4, 1, none⟩ = some (.slice A L.length c) := (blk_cell B44.out 1).trans rfl; have k0 : w4.cell? ⟨g5, 0, none⟩ = some (.int .i64 2) := (blk_cell B54.out 0).trans rfl; have k1 : w4.cell? ⟨g5, 1, none⟩ = some (.int .i64 x1) := (blk_cell B54.out 1).trans rfl; have k2 : w4.cell? ⟨g5, 2, none⟩ = some (.int .i64 x2) := (blk_cell B54.out 2).trans rfl; have k3 : w4.cell? ⟨g5, 3, none⟩ = some (.int .i64 x3) := (blk_cell B54.out 3).trans rfl; have k4 : w4.cell? ⟨g5, 4, none⟩ = some (.int .u64 now) := (blk_cell B54.out 4).trans rfl; have k5 : w4.cell? ⟨g5, 5, none⟩ = some (.int .u64 t) := (blk_cell B54.out 5).trans rfl; clear HT3 HR3 HF3 B43 B53 B63)
    | (go_at_call 38; (refine (HD.out _ HR4.out).mono ?_); rintro e w5 ⟨A', c', rfl, hnr, hb⟩; have HT5 := Aside0.mk (HT4.out.below hb); have HF5 := Aside0.mk (HF4.out.below hb); have HR5 := Aside0.mk (hnr.row HR4.out hb HT4.out.le); have HA5 := Aside0.mk (show ∀ k, (okD k ∨ w4.heap.size ≤ k) → ¬ ok' k from fun k q => q.elim (HA4.out k) (fun q => HT4.out.new q)); have B65 := Aside0.mk (blk_below B64.out hb); clear hnr hb s0 s1 k0 k1 k2 k3 k4 k5 B44 B54 B64 HR4 HF4)
    | ((with_reducible refine gate_dst (N := 18) rfl ?_); refine box_event ?hg (N := 18) ?hd (cs := #[.int .i64 0, .slice none 0 0]) (t := 64) ?hr ?_; (case hd => rfl); (case hg => rfl); (case hr => first | (go_simp; done) | (go_simp; rfl)); intro gx hgN w6 hbox hb; have HEx := Aside0.mk (show w5.heap.size ≤ gx by omega); have HT6 := Aside0.mk (HT5.out.below hb); have HF6 := Aside0.mk (HF5.out.below hb); have HR6 := Aside0.mk (Kd.R_below HR5.out hb); have HN6 := Aside0.mk (show g6 ≠ gx from by have := blk_lt B65.out; omega); have B66 := Aside0.mk (blk_below B65.out hb); have Bx6 := Aside0.mk hbox; clear hb hbox hgN HR5)
    | ((with_reducible refine gate_store (t := 64) (p := 18) (v := .tmp 110) rfl ?_); refine step_store rfl rfl rfl Bx6.out rfl (u := .agg #[.int .i64 S'.last, .slice A' L'.length c']) (seg := [.int .i64 S'.last, .slice A' L'.length c']) rfl rfl (by kernel_rfl) (by simp [Value.oneCell']) (Nat.le_refl 2) (cur' := #[.int .i64 S'.last, .slice A' L'.length c']) rfl ?_; intro w7 hbs hgs hss; have HT7 := Aside0.mk (HT6.out.grown hgs (HT5.out.new HEx.out)); have HF7 := Aside0.mk (HF6.out.grown hgs (.inr (Nat.le_trans HF5.out.size HEx.out))); have HR7 := Aside0.mk (rowG HR6.out Bx6.out hgs); have B67 := Aside0.mk (blk_grown B66.out hgs (fun e => HN6.out (Option.some.inj e))); have s0 : w7.cell? ⟨gx, 0, none⟩ = some (.int .i64 S'.last) := (blk_cell hbs 0).trans rfl; have s1 : w7.cell? ⟨gx, 1, none⟩ = some (.slice A' L'.length c') := (blk_cell hbs 1).trans rfl; clear hbs hgs hss)
    | ((with_reducible refine gate_store (t := 64) (p := 6) (v := .tmp 113) rfl ?_); refine step_store rfl rfl rfl B67.out rfl (u := .agg #[.int .i64 S'.last, .slice A' L'.length c']) (seg := [.int .i64 S'.last, .slice A' L'.length c']) rfl rfl (by kernel_rfl) (by simp [Value.oneCell']) (Nat.le_refl 2) (cur' := #[.int .i64 S'.last, .slice A' L'.length c']) rfl ?_; intro w8 hbs hgs hss; have HT8 := Aside0.mk (HT7.out.grown hgs HG6.out); have HF8 := Aside0.mk (HF7.out.grown hgs (.inr HE6.out)); have HR8 := Aside0.mk (rowG HR7.out B67.out hgs); have BF := Aside0.mk hbs; clear hbs hgs hss))
  refine bodyPost_ret (results_list (rs := [.cell 6 64, .tmp 7]) rfl (by simp) (.cell g6 64 #[.int .i64 S'.last, .slice A' L'.length c'] (0, 0) _ rfl BF.out Try.underlying64 rfl (by kernel_rfl) (.tmp .nil))) rfl ?_
  exact ⟨S', L', ok', _, A', c', by simp, hSd, hD, HT8.out, HR8.out, HA5.out, HN4.out, HF8.out⟩
set_option maxHeartbeats 4000000 in
set_option maxRecDepth 100000 in
theorem calls_stop (base p : Nat) (ok okD : Nat → Prop) (S : TS) (A : Option Addr) (c : Nat) (L : List Tm) (H : Say S L) (x1 x2 x3 now t : Int) (w : World) (hT : TP w base p ok S) (hr : kT.R 40 w base okD (.slice A L.length c) L) (ha : ∀ k, okD k → ¬ ok k ∧ k < w.heap.size) (h1 : u64 now) (h2 : u64 t) :
    Calls Try.prog 23 #[.pointer (some ⟨p, 0, none⟩), .agg #[.int .i64 S.last, .slice A L.length c], .agg #[.int .i64 3, .int .i64 x1, .int .i64 x2, .int .i64 x3, .int .u64 now, .int .u64 t]] w (Both base p ok S ⟨3, ⟨x1, x2⟩, x3, now, t⟩ w) := by
  obtain ⟨L', b, hD, hp, hd⟩ := stop_both base p ok okD S A c L H x3
  have hSd : Does S ⟨3, ⟨x1, x2⟩, x3, now, t⟩ (S.stopS x3) := .inr (.inr (.inr (.inl ⟨rfl, rfl⟩)))
  generalize S.stopS x3 = S' at hD hp hd hSd
  have HP := Aside0.mk hp
  have HD := Aside0.mk hd
  clear hp hd
  have HA := Aside0.mk ha
  have HT := Aside0.mk hT
  have HR := Aside0.mk hr
  have hu64 := Try.underlying64
  clear hT hr ha h1 h2
  go_enter Try.func23, Try.ntmps23
  go_wp2_with (first
    | ((with_reducible refine gate_dst (N := 4) rfl ?_); refine box_event ?hg (N := 4) ?hd (cs := #[.int .i64 S.last, .slice A L.length c]) (t := 64) ?hr ?_; (case hd => rfl); (case hg => rfl); (case hr => first | (go_simp; done) | (go_simp; rfl)); intro g4 hgN w1 hbox hb; have HE4 := Aside0.mk (show w.heap.size ≤ g4 by omega); have HB1 := Aside0.mk hb; have B41 := Aside0.mk hbox; clear hb hbox hgN)
    | ((with_reducible refine gate_dst (N := 5) rfl ?_); refine box_event ?hg (N := 5) ?hd (cs := #[.int .i64 3, .int .i64 x1, .int .i64 x2, .int .i64 x3, .int .u64 now, .int .u64 t]) (t := 52) ?hr ?_; (case hd => rfl); (case hg => rfl); (case hr => first | (go_simp; done) | (go_simp; rfl)); intro g5 hgN w2 hbox hb; have HE5 := Aside0.mk (show w.heap.size ≤ g5 from by have := HB1.out.size; omega); have HB2 := Aside0.mk (below_step HB1.out hb); have B42 := Aside0.mk (blk_below B41.out hb); have B52 := Aside0.mk hbox; clear hb hbox hgN HB1 B41)
    | ((with_reducible refine gate_dst (N := 6) rfl ?_); refine box_event ?hg (N := 6) ?hd (cs := #[.int .i64 0, .slice none 0 0]) (t := 64) ?hr ?_; (case hd => rfl); (case hg => rfl); (case hr => first | (go_simp; done) | (go_simp; rfl)); intro g6 hgN w3 hbox hb; have HE6 := Aside0.mk (show w.heap.size ≤ g6 from by have := HB2.out.size; omega); have HB3 := Aside0.mk (below_step HB2.out hb); have B43 := Aside0.mk (blk_below B42.out hb); have B53 := Aside0.mk (blk_below B52.out hb); have B63 := Aside0.mk hbox; have HF3 := Aside0.mk (HT.out.fr.below HB3.out); have HT3 := Aside0.mk (HT.out.below HB3.out); have HR3 := Aside0.mk (Kd.R_below HR.out HB3.out); have s0 : w3.cell? ⟨g4, 0, none⟩ = some (.int .i64 S.last) := (blk_cell B43.out 0).trans rfl; have s1 : w3.cell? ⟨g4, 1, none⟩ = some (.slice A L.length c) := (blk_cell B43.out 1).trans rfl; have k0 : w3.cell? ⟨g5, 0, none⟩ = some (.int .i64 3) := (blk_cell B53.out 0).trans rfl; have k1 : w3.cell? ⟨g5, 1, none⟩ = some (.int .i64 x1) := (blk_cell B53.out 1).trans rfl; have k2 : w3.cell? ⟨g5, 2, none⟩ = some (.int .i64 x2) := (blk_cell B53.out 2).trans rfl; have k3 : w3.cell? ⟨g5, 3, none⟩ = some (.int .i64 x3) := (blk_cell B53.out 3).trans rfl; have k4 : w3.cell? ⟨g5, 4, none⟩ = some (.int .u64 now) := (blk_cell B53.out 4).trans rfl; have k5 : w3.cell? ⟨g5, 5, none⟩ = some (.int .u64 t) := (blk_cell B53.out 5).trans rfl; clear hb hbox hgN HB2 B42 B52)
    | (go_at_call 14; (refine (HP.out _ HT3.out).mono ?_); rintro e w4 ⟨ok', rfl, hT, hn, hF⟩; have HT4 := Aside0.mk hT; have HN4 := Aside0.mk (show ∀ k, ok' k → ok k ∨ w.heap.size ≤ k from fun k q => (hn k q).imp id (Nat.le_trans HB3.out.size)); have HA4 := Aside0.mk (show ∀ k, okD k → ¬ ok' k from fun k q q2 => by rcases hn k q2 with r | r; exact (HA.out k q).1 r; (have := (HA.out k q).2; have := HB3.out.size; omega)); have HG6 := Aside0.mk (show ¬ ok' g6 from fun q => by rcases hn g6 q with r | r; exact HT.out.new HE6.out r; (have := blk_lt B63.out; omega)); have HF4 := Aside0.mk (HF3.out.then_ hF (Nat.le_refl _) (fun k q => .inl q)); have HR4 := Aside0.mk (Kd.R_kept HR3.out hF.k (fun k q => (HA.out k q).1)); have B44 := Aside0.mk (hF.blk B43.out (HT.out.new HE4.out)); have B54 := Aside0.mk (hF.blk B53.out (HT.out.new HE5.out)); have B64 := Aside0.mk (hF.blk B63.out (HT.out.new HE6.out)); clear hT hn hF s0 s1 k0 k1 k2 k3 k4 k5; have s0 : w4.cell? ⟨g4, 0, none⟩ = some (.int .i64 S.last) := (blk_cell B44.out 0).trans rfl; have s1 : w4.cell? ⟨g4, 1, none⟩ = some (.slice A L.length c) := (blk_cell B44.out 1).trans rfl; have k0 : w4.cell? ⟨g5, 0, none⟩ = some (.int .i64 3) := (blk_cell B54.out 0).trans rfl; have k1 : w4.cell? ⟨g5, 1, none⟩ = some (.int .i64 x1) := (blk_cell B54.out 1).trans rfl; have k2 : w4.cell? ⟨g5, 2, none⟩ = some (.int .i64 x2) := (blk_cell B54.out 2).trans rfl; have k3 : w4.cell? ⟨g5, 3, none⟩ = some (.int .i64 x3) := (blk_cell B54.out 3).trans rfl; have k4 : w4.cell? ⟨g5, 4, none⟩ = some (.int .u64 now) := (blk_cell B54.out 4).trans rfl; have k5 : w4.cell? ⟨g5, 5, none⟩ = some (.int .u64 t) := (blk_cell B54.out 5).trans rfl; clear HT3 HR3 HF3 B43 B53 B63)
    | (go_at_call 39; (refine (HD.out _ HR4.out).mono ?_); rintro e w5 ⟨A', c', rfl, hnr, hb⟩; have HT5 := Aside0.mk (HT4.out.below hb); have HF5 := Aside0.mk (HF4.out.below hb); have HR5 := Aside0.mk (hnr.row HR4.out hb HT4.out.le); have HA5 := Aside0.mk (show ∀ k, (okD k ∨ w4.heap.size ≤ k) → ¬ ok' k from fun k q => q.elim (HA4.out k) (fun q => HT4.out.new q)); have B65 := Aside0.mk (blk_below B64.out hb); clear hnr hb s0 s1 k0 k1 k2 k3 k4 k5 B44 B54 B64 HR4 HF4)
    | ((with_reducible refine gate_dst (N := 22) rfl ?_); refine box_event ?hg (N := 22) ?hd (cs := #[.int .i64 0, .slice none 0 0]) (t := 64) ?hr ?_; (case hd => rfl); (case hg => rfl); (case hr => first | (go_simp; done) | (go_simp; rfl)); intro gx hgN w6 hbox hb; have HEx := Aside0.mk (show w5.heap.size ≤ gx by omega); have HT6 := Aside0.mk (HT5.out.below hb); have HF6 := Aside0.mk (HF5.out.below hb); have HR6 := Aside0.mk (Kd.R_below HR5.out hb); have HN6 := Aside0.mk (show g6 ≠ gx from by have := blk_lt B65.out; omega); have B66 := Aside0.mk (blk_below B65.out hb); have Bx6 := Aside0.mk hbox; clear hb hbox hgN HR5)
    | ((with_reducible refine gate_store (t := 64) (p := 22) (v := .tmp 133) rfl ?_); refine step_store rfl rfl rfl Bx6.out rfl (u := .agg #[.int .i64 S'.last, .slice A' L'.length c']) (seg := [.int .i64 S'.last, .slice A' L'.length c']) rfl rfl (by kernel_rfl) (by simp [Value.oneCell']) (Nat.le_refl 2) (cur' := #[.int .i64 S'.last, .slice A' L'.length c']) rfl ?_; intro w7 hbs hgs hss; have HT7 := Aside0.mk (HT6.out.grown hgs (HT5.out.new HEx.out)); have HF7 := Aside0.mk (HF6.out.grown hgs (.inr (Nat.le_trans HF5.out.size HEx.out))); have HR7 := Aside0.mk (rowG HR6.out Bx6.out hgs); have B67 := Aside0.mk (blk_grown B66.out hgs (fun e => HN6.out (Option.some.inj e))); have s0 : w7.cell? ⟨gx, 0, none⟩ = some (.int .i64 S'.last) := (blk_cell hbs 0).trans rfl; have s1 : w7.cell? ⟨gx, 1, none⟩ = some (.slice A' L'.length c') := (blk_cell hbs 1).trans rfl; clear hbs hgs hss)
    | ((with_reducible refine gate_store (t := 64) (p := 6) (v := .tmp 135) rfl ?_); refine step_store rfl rfl rfl B67.out rfl (u := .agg #[.int .i64 S'.last, .slice A' L'.length c']) (seg := [.int .i64 S'.last, .slice A' L'.length c']) rfl rfl (by kernel_rfl) (by simp [Value.oneCell']) (Nat.le_refl 2) (cur' := #[.int .i64 S'.last, .slice A' L'.length c']) rfl ?_; intro w8 hbs hgs hss; have HT8 := Aside0.mk (HT7.out.grown hgs HG6.out); have HF8 := Aside0.mk (HF7.out.grown hgs (.inr HE6.out)); have HR8 := Aside0.mk (rowG HR7.out B67.out hgs); have BF := Aside0.mk hbs; clear hbs hgs hss))
  refine bodyPost_ret (results_list (rs := [.cell 6 64, .tmp 7]) rfl (by simp) (.cell g6 64 #[.int .i64 S'.last, .slice A' L'.length c'] (0, 0) _ rfl BF.out Try.underlying64 rfl (by kernel_rfl) (.tmp .nil))) rfl ?_
  exact ⟨S', L', ok', _, A', c', by simp, hSd, hD, HT8.out, HR8.out, HA5.out, HN4.out, HF8.out⟩
end Go.Proofs.Ytceopcfmhidjlaa.PTimerPlays
set_option linter.unusedVariables false
set_option linter.unusedSimpArgs false
namespace Go.Proofs.Ytceopcfmhidjlaa.PTimerPlays
open Go.RowKit Go.Proofs.Ytceopcfmhidjlaa.Ef Go.Proofs.Ytceopcfmhidjlaa.Mp Go.Proofs.Ytceopcfmhidjlaa.Hp Go.Proofs.YtceopcfmhidjlaaW.PrintWords Go.Proofs.YtceopcfmhidjlaaW.PrintLast Go.Proofs.YtceopcfmhidjlaaW.PrintMore
set_option maxHeartbeats 4000000 in
set_option maxRecDepth 100000 in
theorem calls_other (base p : Nat) (ok okD : Nat → Prop) (S : TS) (A : Option Addr) (c : Nat) (L : List Tm) (H : Say S L) (y : Int) (x1 x2 x3 now t : Int) (w : World) (hT : TP w base p ok S) (hr : kT.R 40 w base okD (.slice A L.length c) L) (ha : ∀ k, okD k → ¬ ok k ∧ k < w.heap.size) (e0 : y ≠ 0) (e1 : y ≠ 1) (e2 : y ≠ 2) (e3 : y ≠ 3) (e4 : y ≠ 4) :
    Calls Try.prog 23 #[.pointer (some ⟨p, 0, none⟩), .agg #[.int .i64 S.last, .slice A L.length c], .agg #[.int .i64 y, .int .i64 x1, .int .i64 x2, .int .i64 x3, .int .u64 now, .int .u64 t]] w (Both base p ok S ⟨y, ⟨x1, x2⟩, x3, now, t⟩ w) := by
  have HA := Aside0.mk ha
  have HT := Aside0.mk hT
  have HR := Aside0.mk hr
  have hu64 := Try.underlying64
  have f0 : (y == 0) = false := by simpa using e0
  have f1 : (y == 1) = false := by simpa using e1
  have f2 : (y == 2) = false := by simpa using e2
  have f3 : (y == 3) = false := by simpa using e3
  have f4 : (y == 4) = false := by simpa using e4
  clear hT hr ha
  go_enter Try.func23, Try.ntmps23
  go_wp2_with (first
    | ((with_reducible refine gate_dst (N := 4) rfl ?_); refine box_event ?hg (N := 4) ?hd (cs := #[.int .i64 S.last, .slice A L.length c]) (t := 64) ?hr ?_; (case hd => rfl); (case hg => rfl); (case hr => first | (go_simp; done) | (go_simp; rfl)); intro g4 hgN w1 hbox hb; have HE4 := Aside0.mk (show w.heap.size ≤ g4 by omega); have HB1 := Aside0.mk hb; have B41 := Aside0.mk hbox; clear hb hbox hgN)
    | ((with_reducible refine gate_dst (N := 5) rfl ?_); refine box_event ?hg (N := 5) ?hd (cs := #[.int .i64 y, .int .i64 x1, .int .i64 x2, .int .i64 x3, .int .u64 now, .int .u64 t]) (t := 52) ?hr ?_; (case hd => rfl); (case hg => rfl); (case hr => first | (go_simp; done) | (go_simp; rfl)); intro g5 hgN w2 hbox hb; have HE5 := Aside0.mk (show w.heap.size ≤ g5 from by have := HB1.out.size; omega); have HB2 := Aside0.mk (below_step HB1.out hb); have B42 := Aside0.mk (blk_below B41.out hb); have B52 := Aside0.mk hbox; clear hb hbox hgN HB1 B41)
    | ((with_reducible refine gate_dst (N := 6) rfl ?_); refine box_event ?hg (N := 6) ?hd (cs := #[.int .i64 0, .slice none 0 0]) (t := 64) ?hr ?_; (case hd => rfl); (case hg => rfl); (case hr => first | (go_simp; done) | (go_simp; rfl)); intro g6 hgN w3 hbox hb; have HE6 := Aside0.mk (show w.heap.size ≤ g6 from by have := HB2.out.size; omega); have HB3 := Aside0.mk (below_step HB2.out hb); have B43 := Aside0.mk (blk_below B42.out hb); have B53 := Aside0.mk (blk_below B52.out hb); have B63 := Aside0.mk hbox; have HF3 := Aside0.mk (HT.out.fr.below HB3.out); have HT3 := Aside0.mk (HT.out.below HB3.out); have HR3 := Aside0.mk (Kd.R_below HR.out HB3.out); have s0 : w3.cell? ⟨g4, 0, none⟩ = some (.int .i64 S.last) := (blk_cell B43.out 0).trans rfl; have s1 : w3.cell? ⟨g4, 1, none⟩ = some (.slice A L.length c) := (blk_cell B43.out 1).trans rfl; have k0 : w3.cell? ⟨g5, 0, none⟩ = some (.int .i64 y) := (blk_cell B53.out 0).trans rfl; have k4 : w3.cell? ⟨g5, 4, none⟩ = some (.int .u64 now) := (blk_cell B53.out 4).trans rfl; clear hb hbox hgN HB2 B42 B52)
    | ((with_reducible refine gate_store (t := 64) (p := 6) (v := .tmp 156) rfl ?_); refine step_store rfl rfl rfl B63.out rfl (u := .agg #[.int .i64 S.last, .slice A L.length c]) (seg := [.int .i64 S.last, .slice A L.length c]) rfl rfl (by kernel_rfl) (by simp [Value.oneCell']) (Nat.le_refl 2) (cur' := #[.int .i64 S.last, .slice A L.length c]) rfl ?_; intro w8 hbs hgs hss; have HT8 := Aside0.mk (HT3.out.grown hgs (HT.out.new HE6.out)); have HF8 := Aside0.mk (HF3.out.grown hgs (.inr HE6.out)); have HR8 := Aside0.mk (rowG HR3.out B63.out hgs); have BF := Aside0.mk hbs; clear hbs hgs hss))
  refine bodyPost_ret (results_list (rs := [.cell 6 64, .tmp 7]) rfl (by simp) (.cell g6 64 #[.int .i64 S.last, .slice A L.length c] (0, 0) _ rfl BF.out Try.underlying64 rfl (by kernel_rfl) (.tmp .nil))) rfl ?_
  exact ⟨S, L, ok, okD, A, c, rfl, .inr (.inr (.inr (.inr (.inr ⟨⟨e0, e1, e2, e3, e4⟩, rfl⟩)))), H.doc, HT8.out, HR8.out, fun k q => (HA.out k q).1, fun k q => .inl q, HF8.out⟩
theorem docDue_calls' (A : Option Addr) (c : Nat) (l R L : List Tm) (last now : Int) (w : World) (hL : L = l ++ R) (hC : kT.C w A L.length L) (hc : L.length ≤ c) (hl : ∀ x ∈ l, x.f4 ≤ now ∧ x.f5 = false) (hR : ∀ x r, R = x :: r → x.f5 = true ∨ (x.f5 = false ∧ now < x.f4)) (hg : ∀ x ∈ l, Rg x) (hlen : L.length ≤ 1024) (hn : u64 now) :
    Calls Try.prog 40 #[.agg #[.int .i64 last, .slice A L.length c], .int .u64 now] w fun e w' => ∃ A' c' A2 c2, e = .returned (.tuple #[.agg #[.int .i64 last, .slice A' (l.foldl (docRe now) R).length c'], .slice A2 l.length c2]) ∧ kT.R 40 w' w.heap.size (fun k => w.heap.size ≤ k) (.slice A' (l.foldl (docRe now) R).length c') (l.foldl (docRe now) R) ∧ kT.R 40 w' w.heap.size (fun k => w.heap.size ≤ k) (.slice A2 l.length c2) l ∧ Below w.heap.size w w' := by
  subst hL
  exact docDue_calls A c l R last now w hC hc hl hR hg hlen hn
set_option maxHeartbeats 4000000 in
set_option maxRecDepth 100000 in
theorem calls_due (base p : Nat) (ok okD : Nat → Prop) (S : TS) (A : Option Addr) (c : Nat) (L : List Tm) (H : Say S L) (x1 x2 x3 now t : Int) (w : World) (hT : TP w base p ok S) (hr : kT.R 40 w base okD (.slice A L.length c) L) (ha : ∀ k, okD k → ¬ ok k ∧ k < w.heap.size) (h1 : u64 now) (hg : Rng S) (hnx : S.next + 1024 ≤ 1000000000000000000) :
    Calls Try.prog 23 #[.pointer (some ⟨p, 0, none⟩), .agg #[.int .i64 S.last, .slice A L.length c], .agg #[.int .i64 4, .int .i64 x1, .int .i64 x2, .int .i64 x3, .int .u64 now, .int .u64 t]] w (Both base p ok S ⟨4, ⟨x1, x2⟩, x3, now, t⟩ w) := by
  have HA := Aside0.mk ha
  have HT := Aside0.mk hT
  have HR := Aside0.mk hr
  have hu64 := Try.underlying64
  have HG := Aside0.mk hg
  have HU := Aside0.mk h1
  have HDu := Aside0.mk (fun W (q : TP W base p ok S) => due_calls base p ok S now W q hg hnx h1.1 h1.2)
  clear hg h1
  clear hT hr ha
  go_enter Try.func23, Try.ntmps23
  go_wp2_with (first
    | ((with_reducible refine gate_dst (N := 4) rfl ?_); refine box_event ?hg (N := 4) ?hd (cs := #[.int .i64 S.last, .slice A L.length c]) (t := 64) ?hr ?_; (case hd => rfl); (case hg => rfl); (case hr => first | (go_simp; done) | (go_simp; rfl)); intro g4 hgN w1 hbox hb; have HE4 := Aside0.mk (show w.heap.size ≤ g4 by omega); have HB1 := Aside0.mk hb; have B41 := Aside0.mk hbox; clear hb hbox hgN)
    | ((with_reducible refine gate_dst (N := 5) rfl ?_); refine box_event ?hg (N := 5) ?hd (cs := #[.int .i64 4, .int .i64 x1, .int .i64 x2, .int .i64 x3, .int .u64 now, .int .u64 t]) (t := 52) ?hr ?_; (case hd => rfl); (case hg => rfl); (case hr => first | (go_simp; done) | (go_simp; rfl)); intro g5 hgN w2 hbox hb; have HE5 := Aside0.mk (show w.heap.size ≤ g5 from by have := HB1.out.size; omega); have HB2 := Aside0.mk (below_step HB1.out hb); have B42 := Aside0.mk (blk_below B41.out hb); have B52 := Aside0.mk hbox; clear hb hbox hgN HB1 B41)
    | ((with_reducible refine gate_dst (N := 6) rfl ?_); refine box_event ?hg (N := 6) ?hd (cs := #[.int .i64 0, .slice none 0 0]) (t := 64) ?hr ?_; (case hd => rfl); (case hg => rfl); (case hr => first | (go_simp; done) | (go_simp; rfl)); intro g6 hgN w3 hbox hb; have HE6 := Aside0.mk (show w.heap.size ≤ g6 from by have := HB2.out.size; omega); have HB3 := Aside0.mk (below_step HB2.out hb); have B43 := Aside0.mk (blk_below B42.out hb); have B53 := Aside0.mk (blk_below B52.out hb); have B63 := Aside0.mk hbox; have HF3 := Aside0.mk (HT.out.fr.below HB3.out); have HT3 := Aside0.mk (HT.out.below HB3.out); have HR3 := Aside0.mk (Kd.R_below HR.out HB3.out); have s0 : w3.cell? ⟨g4, 0, none⟩ = some (.int .i64 S.last) := (blk_cell B43.out 0).trans rfl; have s1 : w3.cell? ⟨g4, 1, none⟩ = some (.slice A L.length c) := (blk_cell B43.out 1).trans rfl; have k0 : w3.cell? ⟨g5, 0, none⟩ = some (.int .i64 4) := (blk_cell B53.out 0).trans rfl; have k4 : w3.cell? ⟨g5, 4, none⟩ = some (.int .u64 now) := (blk_cell B53.out 4).trans rfl; clear hb hbox hgN HB2 B42 B52)
    | (go_at_call 16; (refine (HDu.out _ HT3.out).mono ?_); rintro e w4 ⟨ok', okL, v, l, S1, rfl, hp, hm, hT, hl, hd, hn, hF⟩; (obtain ⟨R, hLR, q1, q2, q3⟩ := doc_due H.doc H.di H.fine HT3.out.once hp hm); (obtain ⟨Av, cv, rfl⟩ := Kd.R_slice hl); have HSD := Aside0.mk (show DueTo now S l (l.foldl (rearm now) S1) from ⟨S1, hp, hm, rfl⟩); have HLA := Aside0.mk (show (l.foldl (rearm now) S1).last = S.last from by rw [(fold_says now S1 l).last, (hp.says H.fine).last]); have HQ := Aside0.mk (And.intro q1 (And.intro q2 q3)); have HRg := Aside0.mk (show ∀ x ∈ l, Rg x from fun x hx => HG.out x (H.doc.perm.mem_iff.1 (by rw [hLR]; exact List.mem_append.2 (.inl hx)))); have HLR := Aside0.mk hLR; have HLl := Aside0.mk (show l.length ≤ 1000000 from by have h5 := H.len; rw [hLR, List.length_append] at h5; omega); (obtain ⟨S', hS'⟩ : ∃ S', l.foldl (rearm now) S1 = S' := ⟨_, rfl⟩); rw [hS'] at hT HSD HLA HQ; have HT4 := Aside0.mk hT; have HV4 := Aside0.mk hl; have HN4 := Aside0.mk (show ∀ k, ok' k → ok k ∨ w.heap.size ≤ k from fun k q => (hn k q).imp id (Nat.le_trans HB3.out.size)); have HA4 := Aside0.mk (show ∀ k, okD k → ¬ ok' k from fun k q q2 => by rcases hn k q2 with r | r; exact (HA.out k q).1 r; (have := (HA.out k q).2; have := HB3.out.size; omega)); have HG6 := Aside0.mk (show ¬ ok' g6 from fun q => by rcases hn g6 q with r | r; exact HT.out.new HE6.out r; (have := blk_lt B63.out; omega)); have HF4 := Aside0.mk (HF3.out.then_ hF (Nat.le_refl _) (fun k q => .inl q)); have HR4 := Aside0.mk (Kd.R_kept HR3.out hF.k (fun k q => (HA.out k q).1)); have B44 := Aside0.mk (hF.blk B43.out (HT.out.new HE4.out)); have B54 := Aside0.mk (hF.blk B53.out (HT.out.new HE5.out)); have B64 := Aside0.mk (hF.blk B63.out (HT.out.new HE6.out)); clear hp hm hT hl hd hn hF q1 q2 q3 hS' hLR s0 s1 k0 k4; have s0 : w4.cell? ⟨g4, 0, none⟩ = some (.int .i64 S.last) := (blk_cell B44.out 0).trans rfl; have s1 : w4.cell? ⟨g4, 1, none⟩ = some (.slice A L.length c) := (blk_cell B44.out 1).trans rfl; have k4 : w4.cell? ⟨g5, 4, none⟩ = some (.int .u64 now) := (blk_cell B54.out 4).trans rfl; clear HT3 HR3 HF3 B43 B53 B63)
    | (go_at_call 40; have HL5 := H.len; (refine (docDue_calls' A c l R L S.last now _ HLR.out (Kd.R_reads' HR4.out).2.2 (Kd.R_reads' HR4.out).2.1 HQ.out.1 HQ.out.2.1 HRg.out HL5 HU.out).mono ?_); rintro e w5 ⟨A', c', A2, c2, rfl, hnr, hlr, hb⟩; (obtain ⟨L', hL'⟩ : ∃ L', l.foldl (docRe now) R = L' := ⟨_, rfl⟩); have HQ5 := Aside0.mk HQ.out.2.2; rw [hL'] at hnr HQ5 ⊢; have HT5 := Aside0.mk (HT4.out.below hb); have HF5 := Aside0.mk (HF4.out.below hb); have HV5 := Aside0.mk (Kd.R_below HV4.out hb); have HW5 := Aside0.mk hlr; have HR5 := Aside0.mk (Kd.R_lower hnr HT4.out.le); have HA5 := Aside0.mk (show ∀ k, w4.heap.size ≤ k → ¬ ok' k from fun k q => HT4.out.new q); have B65 := Aside0.mk (blk_below B64.out hb); clear hnr hlr hb hL' HL5 s0 s1 k4 B44 B54 B64 HR4 HF4 HV4)
    | ((with_reducible refine gate_dst (N := 25) rfl ?_); refine box_event ?hg (N := 25) ?hd (cs := #[.int .i64 0, .slice none 0 0]) (t := 64) ?hr ?_; (case hd => rfl); (case hg => rfl); (case hr => first | (go_simp; done) | (go_simp; rfl)); intro gx hgN w6 hbox hb; have HEx := Aside0.mk (show w5.heap.size ≤ gx by omega); have HT6 := Aside0.mk (HT5.out.below hb); have HF6 := Aside0.mk (HF5.out.below hb); have HV6 := Aside0.mk (Kd.R_below HV5.out hb); have HW6 := Aside0.mk (Kd.R_below HW5.out hb); have HR6 := Aside0.mk (Kd.R_below HR5.out hb); have HN6 := Aside0.mk (show g6 ≠ gx from by have := blk_lt B65.out; omega); have B66 := Aside0.mk (blk_below B65.out hb); have Bx6 := Aside0.mk hbox; clear hb hbox hgN HR5 HV5 HW5)
    | ((with_reducible refine gate_store (t := 64) (p := 25) (v := .tmp 150) rfl ?_); refine step_store rfl rfl rfl Bx6.out rfl (u := .agg #[.int .i64 S.last, .slice A' L'.length c']) (seg := [.int .i64 S.last, .slice A' L'.length c']) rfl rfl (by kernel_rfl) (by simp [Value.oneCell']) (Nat.le_refl 2) (cur' := #[.int .i64 S.last, .slice A' L'.length c']) rfl ?_; intro w7 hbs hgs hss; have HT7 := Aside0.mk (HT6.out.grown hgs (HT5.out.new HEx.out)); have HF7 := Aside0.mk (HF6.out.grown hgs (.inr (Nat.le_trans HF5.out.size HEx.out))); have HV7 := Aside0.mk (rowG HV6.out Bx6.out hgs); have HW7 := Aside0.mk (rowG HW6.out Bx6.out hgs); have HR7 := Aside0.mk (rowG HR6.out Bx6.out hgs); have B67 := Aside0.mk (blk_grown B66.out hgs (fun e => HN6.out (Option.some.inj e))); have Bx7 := Aside0.mk hbs; clear hbs hgs hss))
  have s0 : w7.cell? ⟨gx, 0, none⟩ = some (.int .i64 S.last) := (blk_cell Bx7.out 0).trans rfl
  have s1 : w7.cell? ⟨gx, 1, none⟩ = some (.slice A' L'.length c') := (blk_cell Bx7.out 1).trans rfl
  have p0 : w7.cell? ⟨g6, 0, none⟩ = some (.int .i64 0) := (blk_cell B67.out 0).trans rfl
  have p1 : w7.cell? ⟨g6, 1, none⟩ = some (.slice none 0 0) := (blk_cell B67.out 1).trans rfl
  have z0 := blk_frozen B67.out 0
  have z1 := blk_frozen B67.out 1
  have hn1 := HN6.out
  have hn1' := HN6.out.symm
  go_region_with (go_at_call 18; (refine (rotaref14_Same.calls (l.length + 1) Av cv l A2 c2 l true _ (Kd.C_below (Kd.R_reads' HV7.out).2.2 (pw_below_drewN (Below.refl _ _) _)) (Kd.R_reads' HV7.out).2.1 (Kd.C_below (Kd.R_reads' HW7.out).2.2 (pw_below_drewN (Below.refl _ _) _)) (Kd.R_reads' HW7.out).2.1 (same_f l HLl.out)).mono ?_); rintro e w8 ⟨rfl, n8, rfl⟩)
  all_goals
    go_wp2
    have hT8 := HT7.out.drewN (1 + n8)
    have hF8 := HF7.out.drewN (1 + n8)
    have hR8 := Kd.R_drewN HR7.out (1 + n8)
    have b8 := (show (w7.drewN (1 + n8)).heap[g6]? = _ from B67.out)
    have q1 := set_step (cur' := #[.int .i64 S.last, .slice none 0 0]) b8 0 (.int .i64 S.last) rfl
    have q2 := set_step (cur' := #[.int .i64 S.last, .slice A' L'.length c']) q1.1 1 (.slice A' L'.length c') rfl
    refine bodyPost_ret (results_list (rs := [.cell 6 64, .tmp 7]) rfl (by simp) (.cell g6 64 #[.int .i64 S.last, .slice A' L'.length c'] (0, 0) _ rfl q2.1 Try.underlying64 rfl (by kernel_rfl) (.tmp .nil))) rfl ?_
    exact ⟨S', L', ok', _, A', c', by rw [HLA.out]; rfl, .inr (.inr (.inr (.inr (.inl ⟨rfl, l, HSD.out⟩)))), HQ5.out, (hT8.grown q1.2 HG6.out).grown q2.2 HG6.out, rowG (rowG hR8 b8 q1.2) q1.1 q2.2, HA5.out, HN4.out, (hF8.grown q1.2 (.inr HE6.out)).grown q2.2 (.inr HE6.out)⟩
end Go.Proofs.Ytceopcfmhidjlaa.PTimerPlays
set_option linter.unusedVariables false
set_option linter.unusedSimpArgs false
namespace Go.Proofs.Ytceopcfmhidjlaa.PTimerPlays
open Go.RowKit Go.Proofs.Ytceopcfmhidjlaa.Ef Go.Proofs.Ytceopcfmhidjlaa.Mp Go.Proofs.Ytceopcfmhidjlaa.Hp Go.Proofs.YtceopcfmhidjlaaW.PrintWords Go.Proofs.YtceopcfmhidjlaaW.PrintLast Go.Proofs.YtceopcfmhidjlaaW.PrintMore
theorem next_both (base p : Nat) (ok : Nat → Prop) (S : TS) (L : List Tm) (h : Doc S L) (D : DI S) : ∃ n b, rotaref14_Next.f S.last L = some (n, b) ∧ ∀ w, TP w base p ok S → Calls Try.prog 20 #[.pointer (some ⟨p, 0, none⟩)] w fun e w' => e = .returned (.tuple #[.int .u64 n, .bool b]) ∧ Below w.heap.size w w' := by
  by_cases hS : S.hp = []
  · exact ⟨0, false, next_f_none h D hS, fun w H => next_none base p ok S w H hS⟩
  · obtain ⟨x, hx, hf⟩ := next_f_some h D hS
    exact ⟨x.when, true, hf, fun w H => next_some base p ok S x w H hx⟩
set_option maxHeartbeats 4000000 in
set_option maxRecDepth 100000 in
theorem is_both (base p : Nat) (ok okD : Nat → Prop) (S : TS) (A : Option Addr) (c : Nat) (L : List Tm) (s g : Int) (w : World) (hD : Doc S L) (hT : TP w base p ok S) (hr : kT.R 40 w base okD (.slice A L.length c) L) :
    Calls Try.prog 24 #[.pointer (some ⟨p, 0, none⟩), .agg #[.int .i64 S.last, .slice A L.length c], .agg #[.int .i64 s, .int .i64 g]] w fun e w' => e = .returned (.bool true) ∧ Below w.heap.size w w' := by
  have hll : L.length ≤ 1024 := by rw [hD.len]; exact hT.fine.len
  obtain ⟨n, b, hnf, hnc⟩ := next_both base p ok S L hD hT.di
  have hsl := sleeps_f hD s g (by omega) (L.length + 1) (Nat.lt_succ_self _)
  have hsc := fun w H => sleeps_calls base p ok S s g w H
  generalize S.sleeps (s, g) = bs at hsl hsc
  have HN := Aside0.mk hnc
  have HNf := Aside0.mk hnf
  have HSl := Aside0.mk hsl
  have HSc := Aside0.mk hsc
  have HD := Aside0.mk hD
  have HT := Aside0.mk hT
  have HR := Aside0.mk hr
  have hu64 := Try.underlying64
  clear hD hT hr hnf hnc hsl hsc
  go_enter Try.func24, Try.ntmps24
  go_upto_region 4 with (first
    | ((with_reducible refine gate_dst (N := 4) rfl ?_); refine box_event ?hg (N := 4) ?hd (cs := #[.int .i64 S.last, .slice A L.length c]) (t := 64) ?hr ?_; (case hd => rfl); (case hg => rfl); (case hr => first | (go_simp; done) | (go_simp; rfl)); intro g4 hgN w1 hbox hb; have HB1 := Aside0.mk hb; have B41 := Aside0.mk hbox; clear hb hbox hgN)
    | ((with_reducible refine gate_dst (N := 5) rfl ?_); refine box_event ?hg (N := 5) ?hd (cs := #[.int .i64 s, .int .i64 g]) (t := 30) ?hr ?_; (case hd => rfl); (case hg => rfl); (case hr => first | (go_simp; done) | (go_simp; rfl)); intro g5 hgN w2 hbox hb; have HB2 := Aside0.mk (below_step HB1.out hb); have B42 := Aside0.mk (blk_below B41.out hb); have B52 := Aside0.mk hbox; have HT2 := Aside0.mk (HT.out.below HB2.out); clear hb hbox hgN HB1 B41)
    | (go_at_call 21; (refine (state_calls base p ok S _ HT2.out).mono ?_); rintro e w3 ⟨v, d, rfl, hpm, hso, hr, hb⟩; rw [HD.out.shown HT2.out.once hpm hso] at hr; (obtain ⟨Av, cv, rfl⟩ := Kd.R_slice hr); have HV3 := Aside0.mk hr; have HB3 := Aside0.mk (below_step HB2.out hb); have B43 := Aside0.mk (blk_below B42.out hb); have B53 := Aside0.mk (blk_below B52.out hb); have HT3 := Aside0.mk (HT2.out.below hb); clear hpm hso hr hb HB2 B42 B52 HT2)
    | (go_at_call 20; (refine (HN.out _ HT3.out).mono ?_); rintro e w4 ⟨rfl, hb⟩; have HV4 := Aside0.mk (Kd.R_below HV3.out hb); have HB4 := Aside0.mk (below_step HB3.out hb); have B44 := Aside0.mk (blk_below B43.out hb); have B54 := Aside0.mk (blk_below B53.out hb); have HT4 := Aside0.mk (HT3.out.below hb); have HR4 := Aside0.mk (Kd.R_below HR.out HB4.out); clear hb HB3 B43 B53 HT3 HV3; have s0 : w4.cell? ⟨g4, 0, none⟩ = some (.int .i64 S.last) := (blk_cell B44.out 0).trans rfl; have s1 : w4.cell? ⟨g4, 1, none⟩ = some (.slice A L.length c) := (blk_cell B44.out 1).trans rfl)
    | (go_at_call 41; (refine (rotaref14_Next.calls S.last A c L n b _ (Kd.R_reads' HR4.out).2.2 (Kd.R_reads' HR4.out).2.1 HNf.out).mono ?_); rintro e w5 ⟨rfl, hb⟩; have HV5 := Aside0.mk (Kd.R_below HV4.out hb); have HB5 := Aside0.mk (below_step HB4.out hb); have B45 := Aside0.mk (blk_below B44.out hb); have B55 := Aside0.mk (blk_below B54.out hb); have HT5 := Aside0.mk (HT4.out.below hb); have HR5 := Aside0.mk (Kd.R_below HR4.out hb); clear hb HB4 B44 B54 HT4 HV4 HR4 s0 s1))
  have s0 : w5.cell? ⟨g4, 0, none⟩ = some (.int .i64 S.last) := (blk_cell B45.out 0).trans rfl
  have s1 : w5.cell? ⟨g4, 1, none⟩ = some (.slice A L.length c) := (blk_cell B45.out 1).trans rfl
  have t0 : w5.cell? ⟨g5, 0, none⟩ = some (.int .i64 s) := (blk_cell B55.out 0).trans rfl
  have t1 : w5.cell? ⟨g5, 1, none⟩ = some (.int .i64 g) := (blk_cell B55.out 1).trans rfl
  have hS : ∀ W, Below w5.heap.size w5 W → (W.cell? ⟨g4, 0, none⟩ = some (.int .i64 S.last) ∧ W.cell? ⟨g4, 1, none⟩ = some (.slice A L.length c) ∧ W.cell? ⟨g5, 0, none⟩ = some (.int .i64 s) ∧ W.cell? ⟨g5, 1, none⟩ = some (.int .i64 g) ∧ Below w5.heap.size w5 W) := fun W hb => ⟨(hb.cell (World.block_lt_of_cell? _ _ s0)).trans s0, (hb.cell (World.block_lt_of_cell? _ _ s1)).trans s1, (hb.cell (World.block_lt_of_cell? _ _ t0)).trans t0, (hb.cell (World.block_lt_of_cell? _ _ t1)).trans t1, hb⟩
  have hS0 := hS _ (below_drew (Below.refl w5.heap.size w5))
  have C1 := Aside0.mk (show ∀ W, (W.cell? ⟨g4, 0, none⟩ = some (.int .i64 S.last) ∧ W.cell? ⟨g4, 1, none⟩ = some (.slice A L.length c) ∧ W.cell? ⟨g5, 0, none⟩ = some (.int .i64 s) ∧ W.cell? ⟨g5, 1, none⟩ = some (.int .i64 g) ∧ Below w5.heap.size w5 W) → Calls Try.prog 18 #[.slice Av L.length cv, .slice A L.length c] W fun e w' => e = .returned (.bool true) ∧ (w'.cell? ⟨g4, 0, none⟩ = some (.int .i64 S.last) ∧ w'.cell? ⟨g4, 1, none⟩ = some (.slice A L.length c) ∧ w'.cell? ⟨g5, 0, none⟩ = some (.int .i64 s) ∧ w'.cell? ⟨g5, 1, none⟩ = some (.int .i64 g) ∧ Below w5.heap.size w5 w') from fun W h => (rotaref14_Same.calls (L.length + 1) Av cv L A c L true _ (Kd.C_below (Kd.R_reads' HV5.out).2.2 h.2.2.2.2) (Kd.R_reads' HV5.out).2.1 (Kd.C_below (Kd.R_reads' HR5.out).2.2 h.2.2.2.2) (Kd.R_reads' HR5.out).2.1 (same_f L (by omega))).mono fun e w' ⟨he, n, hn⟩ => ⟨he, hS _ (below_step h.2.2.2.2 (by subst hn; exact pw_below_drewN (Below.refl _ _) n))⟩)
  have C2 := Aside0.mk (show ∀ W, (W.cell? ⟨g4, 0, none⟩ = some (.int .i64 S.last) ∧ W.cell? ⟨g4, 1, none⟩ = some (.slice A L.length c) ∧ W.cell? ⟨g5, 0, none⟩ = some (.int .i64 s) ∧ W.cell? ⟨g5, 1, none⟩ = some (.int .i64 g) ∧ Below w5.heap.size w5 W) → Calls Try.prog 22 #[.pointer (some ⟨p, 0, none⟩), .agg #[.int .i64 s, .int .i64 g]] W fun e w' => e = .returned (.bool bs) ∧ (w'.cell? ⟨g4, 0, none⟩ = some (.int .i64 S.last) ∧ w'.cell? ⟨g4, 1, none⟩ = some (.slice A L.length c) ∧ w'.cell? ⟨g5, 0, none⟩ = some (.int .i64 s) ∧ w'.cell? ⟨g5, 1, none⟩ = some (.int .i64 g) ∧ Below w5.heap.size w5 w') from fun W h => (HSc.out W (HT5.out.below h.2.2.2.2)).mono fun e w' ⟨he, hb⟩ => ⟨he, hS _ (below_step h.2.2.2.2 hb)⟩)
  have C3 := Aside0.mk (show ∀ W, (W.cell? ⟨g4, 0, none⟩ = some (.int .i64 S.last) ∧ W.cell? ⟨g4, 1, none⟩ = some (.slice A L.length c) ∧ W.cell? ⟨g5, 0, none⟩ = some (.int .i64 s) ∧ W.cell? ⟨g5, 1, none⟩ = some (.int .i64 g) ∧ Below w5.heap.size w5 W) → Calls Try.prog 42 #[.agg #[.int .i64 S.last, .slice A L.length c], .agg #[.int .i64 s, .int .i64 g]] W fun e w' => e = .returned (.bool bs) ∧ (w'.cell? ⟨g4, 0, none⟩ = some (.int .i64 S.last) ∧ w'.cell? ⟨g4, 1, none⟩ = some (.slice A L.length c) ∧ w'.cell? ⟨g5, 0, none⟩ = some (.int .i64 s) ∧ w'.cell? ⟨g5, 1, none⟩ = some (.int .i64 g) ∧ Below w5.heap.size w5 w') from fun W h => (rotaref14_Sleeps.calls (L.length + 1) S.last A c L s g bs W (Kd.C_below (Kd.R_reads' HR5.out).2.2 h.2.2.2.2) (Kd.R_reads' HR5.out).2.1 HSl.out).mono fun e w' ⟨he, hb⟩ => ⟨he, hS _ (below_step h.2.2.2.2 hb)⟩)
  clear hS s0 s1 t0 t1
  go_region_held3 (fun w' => w'.cell? ⟨g4, 0, none⟩ = some (.int .i64 S.last) ∧ w'.cell? ⟨g4, 1, none⟩ = some (.slice A L.length c) ∧ w'.cell? ⟨g5, 0, none⟩ = some (.int .i64 s) ∧ w'.cell? ⟨g5, 1, none⟩ = some (.int .i64 g) ∧ Below w5.heap.size w5 w') (first | exact hS0 | assumption) (first
    | (go_at_call 18; (refine (C1.out _ (by assumption)).mono ?_); rintro e w6 ⟨rfl, hS6⟩)
    | (go_at_call 22; (refine (C2.out _ (by assumption)).mono ?_); rintro e w7 ⟨rfl, hS7⟩)
    | (go_at_call 42; (refine (C3.out _ (by assumption)).mono ?_); rintro e w8 ⟨rfl, hS8⟩))
  all_goals
    go_wp2
    go_ret
    exact ⟨rfl, below_step HB5.out hS8.2.2.2.2⟩
end Go.Proofs.Ytceopcfmhidjlaa.PTimerPlays
set_option linter.unusedVariables false
set_option linter.unusedSimpArgs false
namespace Go.Proofs.Ytceopcfmhidjlaa.PTimerPlays
open Go.RowKit Go.Proofs.Ytceopcfmhidjlaa.Ef Go.Proofs.Ytceopcfmhidjlaa.Mp Go.Proofs.Ytceopcfmhidjlaa.Hp Go.Proofs.YtceopcfmhidjlaaW.PrintWords Go.Proofs.YtceopcfmhidjlaaW.PrintLast Go.Proofs.YtceopcfmhidjlaaW.PrintMore
theorem calls_any (base p : Nat) (ok okD : Nat → Prop) (S : TS) (A : Option Addr) (c : Nat) (L : List Tm) (H : Say S L) (hg : Rng S) (hnx : S.next + 1024 ≤ 1000000000000000000) (y x1 x2 x3 now t : Int) (w : World) (hT : TP w base p ok S) (hr : kT.R 40 w base okD (.slice A L.length c) L) (ha : ∀ k, okD k → ¬ ok k) (h1 : u64 now) (h2 : u64 t) :
    Calls Try.prog 23 #[.pointer (some ⟨p, 0, none⟩), .agg #[.int .i64 S.last, .slice A L.length c], .agg #[.int .i64 y, .int .i64 x1, .int .i64 x2, .int .i64 x3, .int .u64 now, .int .u64 t]] w (Both base p ok S ⟨y, ⟨x1, x2⟩, x3, now, t⟩ w) := by
  have hr' : kT.R 40 w base (fun k => okD k ∧ k < w.heap.size) (.slice A L.length c) L := Kd.R_mono (Kd.R_bound hr) (fun k q => ⟨q.1, q.2.2.1⟩)
  have ha' : ∀ k, (okD k ∧ k < w.heap.size) → ¬ ok k ∧ k < w.heap.size := fun k q => ⟨ha k q.1, q.2⟩
  by_cases e0 : y = 0
  · subst e0; exact calls_sleep base p ok _ S A c L H x1 x2 x3 now t w hT hr' ha' h1 h2
  by_cases e1 : y = 1
  · subst e1; exact calls_after base p ok _ S A c L H x1 x2 x3 now t w hT hr' ha' h1 h2
  by_cases e2 : y = 2
  · subst e2; exact calls_every base p ok _ S A c L H x1 x2 x3 now t w hT hr' ha' h1 h2
  by_cases e3 : y = 3
  · subst e3; exact calls_stop base p ok _ S A c L H x1 x2 x3 now t w hT hr' ha' h1 h2
  by_cases e4 : y = 4
  · subst e4; exact calls_due base p ok _ S A c L H x1 x2 x3 now t w hT hr' ha' h1 hg hnx
  exact calls_other base p ok _ S A c L H y x1 x2 x3 now t w hT hr' ha' e0 e1 e2 e3 e4
def fitsV (ops : List OpT) : Prop := ops.length ≤ 3000000000000 ∧ ∀ o ∈ ops, u64 o.f3 ∧ u64 o.f4
instance (ops : List OpT) : Decidable (fitsV ops) := inferInstanceAs (Decidable (_ ∧ _))
def rotalaw14_TimerPlays.f (k : Nat) (ops : List OpT) : Option Bool := if fitsV ops then some true else none
theorem Bnd.say {S : TS} {i : Nat} (h : Bnd S i) (hi : i ≤ 3000000000000) {L : List Tm} (hD : Doc S L) {w : World} {base p : Nat} {ok : Nat → Prop} (H : TP w base p ok S) : Say S L :=
  ⟨hD, H.di, H.fine, h.l0, by have := h.last; omega, by have := h.next; omega⟩
set_option maxHeartbeats 8000000 in
set_option maxRecDepth 100000 in
theorem rotalaw14_TimerPlays.calls (k : Nat) (A0 : Option Addr) (c0 : Nat) (ops : List OpT) (r : Bool) (w : World) (hr0 : Kd.C k52 w A0 ops.length ops) (hc0 : ops.length ≤ c0) (h : rotalaw14_TimerPlays.f k ops = some r) :
    Calls Try.prog 8 #[.slice A0 ops.length c0] w fun e w' => e = .returned (.bool r) ∧ Below w.heap.size w w' := by
  have hr : fitsV ops ∧ r = true := by
    unfold rotalaw14_TimerPlays.f at h
    by_cases hc : fitsV ops
    · rw [if_pos hc] at h; exact ⟨hc, (Option.some.inj h).symm⟩
    · rw [if_neg hc] at h; cases h
  obtain ⟨hf, rfl⟩ := hr
  have HR0 := Aside0.mk hr0
  have HFi := Aside0.mk hf
  have hlo := hf.1
  have hu64 := Try.underlying64
  clear hr0 h hf
  go_enter Try.func8, Try.ntmps8
  go_wp2_with (first
    | (go_at_call 10; (refine (new_tp _).mono ?_); rintro e w1 ⟨p, ok, rfl, hT, hb⟩; have HT1 := Aside0.mk hT; have HB1 := Aside0.mk hb; clear hT hb)
    | ((with_reducible refine gate_dst (N := 4) rfl ?_); refine box_event ?hg (N := 4) ?hd (cs := #[.int .i64 0, .slice none 0 0]) (t := 64) ?hr ?_; (case hd => rfl); (case hg => rfl); (case hr => first | (go_simp; done) | (go_simp; rfl)); intro g4 hg4 w3 hbox hb; have HE3 := Aside0.mk (show w.heap.size ≤ g4 from by have := HB1.out.size; omega); have HG3 := Aside0.mk (show ¬ ok g4 from HT1.out.new (by omega)); have HB3 := Aside0.mk (below_step HB1.out hb); have B3 := Aside0.mk hbox; have HT3 := Aside0.mk (HT1.out.below hb); clear hb hbox hg4 HB1 HT1))
  go_loopw [5, 6] (fun v5 v6 wr => ∃ (i : Nat) (ok okD : Nat → Prop) (S : TS) (A : Option Addr) (c : Nat) (L : List Tm), v5 = .bool true ∧ v6 = .int .i64 (i : Int) ∧ Aside0 (i ≤ ops.length) ∧ Aside0 (Bnd S i) ∧ Aside0 (Doc S L) ∧ Aside0 (TP wr w.heap.size p ok S) ∧ Aside0 (kT.R 40 wr w.heap.size okD (.slice A L.length c) L) ∧ Aside0 (∀ k, okD k → ¬ ok k) ∧ Aside0 (¬ ok g4) ∧ Aside0 (wr.heap[g4]? = some (.cells #[.int .i64 S.last, .slice A L.length c] 64 (0, 0))) ∧ Aside0 (Below w.heap.size w wr)) (fun _ v6 _ => ops.length - (intOf v6).toNat)
  case atStart => exact ⟨0, ok, fun _ => False, TS.nil, none, 0, [], rfl, rfl, ⟨Nat.zero_le _⟩, ⟨Bnd.nil⟩, ⟨Doc.nil⟩, HT3, ⟨Kd.R_nil _ _ _ _ _⟩, ⟨fun _ q => q.elim⟩, HG3, B3, HB3⟩
  case round =>
    clear HT3 B3 HB3 HG3
    obtain ⟨i, ok, okD, S, A, c, L, rfl, rfl, HI, HBn, HD, HT, HR, HA, HG, HBk, HB⟩ := hrel
    have HS := Aside0.mk (HBn.out.say (Nat.le_trans HI.out hlo) HD.out HT.out)
    have s0 : wr.cell? ⟨g4, 0, none⟩ = some (.int .i64 S.last) := (blk_cell HBk.out 0).trans rfl
    have s1 : wr.cell? ⟨g4, 1, none⟩ = some (.slice A L.length c) := (blk_cell HBk.out 1).trans rfl
    by_cases hlt : (i : Int) < (ops.length : Int)
    · have hin : i < ops.length := by omega
      have hin0 : (0 : Int) ≤ (i : Int) := by omega
      have hfi := HFi.out.2 (on ops i) (by unfold on; rw [List.getElem?_eq_getElem hin]; exact List.getElem_mem hin)
      obtain ⟨ad, hae, hx0, hx1, hx2, hx3, hx4, hx5⟩ := at_op HR0.out i hin
      subst hae
      obtain ⟨o, ho⟩ : ∃ o, on ops i = o := ⟨_, rfl⟩
      rw [ho] at hfi hx0 hx1 hx2 hx3 hx4 hx5
      clear ho
      obtain ⟨y, ⟨x1, x2⟩, x3, now, t⟩ := o
      simp only at hfi hx0 hx1 hx2 hx3 hx4 hx5
      have HX := Aside0.mk (And.intro hx1 hx2)
      have HU := Aside0.mk hfi
      replace hx0 := (HB.out.cell (World.block_lt_of_cell? w _ hx0)).trans hx0
      replace hx1 := (HB.out.cell (World.block_lt_of_cell? w _ hx1)).trans hx1
      replace hx2 := (HB.out.cell (World.block_lt_of_cell? w _ hx2)).trans hx2
      replace hx3 := (HB.out.cell (World.block_lt_of_cell? w _ hx3)).trans hx3
      replace hx4 := (HB.out.cell (World.block_lt_of_cell? w _ hx4)).trans hx4
      replace hx5 := (HB.out.cell (World.block_lt_of_cell? w _ hx5)).trans hx5
      clear hfi
      go_wp2
      go_region_with (go_at_call 23; (refine (calls_any w.heap.size p ok okD S A c L HS.out HBn.out.rng (by have := HBn.out.next; have := HI.out; omega) y x1 x2 x3 now t _ (HT.out.drewN _) (Kd.R_drewN HR.out _) HA.out HU.out.1 HU.out.2).mono ?_); rintro e w5 ⟨S', L', ok', okD', A', c', rfl, hdo, hD, hT, hr, ha, hn, hF⟩; have HT5 := Aside0.mk hT; have HR5 := Aside0.mk hr; have HA5 := Aside0.mk ha; have HD5 := Aside0.mk hD; have HBn5 := Aside0.mk (HBn.out.step HT.out.fine HU.out.1 HU.out.2 hdo); have HB5 := Aside0.mk (hF.new (w := wr.drewN 1) (pw_below_drewN HB.out 1) (fun k q => (HT.out.bound k q).1)); have B5 := Aside0.mk (hF.blk (w := wr.drewN 1) HBk.out HG.out); have HG5 := Aside0.mk (show ¬ ok' g4 from fun q => (hn g4 q).elim HG.out (fun q => Nat.not_lt.2 q (blk_lt HBk.out))); clear hdo hD hT hr ha hn hF s0 s1 hx0 hx1 hx2 hx3 hx4 hx5; have s0 : w5.cell? ⟨g4, 0, none⟩ = some (.int .i64 S.last) := (blk_cell B5.out 0).trans rfl; have s1 : w5.cell? ⟨g4, 1, none⟩ = some (.slice A L.length c) := (blk_cell B5.out 1).trans rfl; have z0 := blk_frozen B5.out 0; have z1 := blk_frozen B5.out 1)
      all_goals
        go_wp2
        have q1 := set_step (cur' := #[.int .i64 S'.last, .slice A L.length c]) B5.out 0 (.int .i64 S'.last) rfl
        have q2 := set_step (cur' := #[.int .i64 S'.last, .slice A' L'.length c']) q1.1 1 (.slice A' L'.length c') rfl
        have HT6 := Aside0.mk ((HT5.out.grown q1.2 HG5.out).grown q2.2 HG5.out)
        have HR6 := Aside0.mk (rowG (rowG HR5.out B5.out q1.2) q1.1 q2.2)
        have HB6 := Aside0.mk (below_mput (below_mput HB5.out q1.2 HE3.out HB5.out.size) q2.2 HE3.out (Nat.le_trans HB5.out.size q1.2.size))
        have B6 := Aside0.mk q2.1
        clear q1 q2 s0 s1 z0 z1
        generalize (w5.setCell ⟨g4, 0, none⟩ (.int .i64 S'.last)).setCell ⟨g4, 1, none⟩ (.slice A' L'.length c') = w6 at *
        have s0 : w6.cell? ⟨g4, 0, none⟩ = some (.int .i64 S'.last) := (blk_cell B6.out 0).trans rfl
        have s1 : w6.cell? ⟨g4, 1, none⟩ = some (.slice A' L'.length c') := (blk_cell B6.out 1).trans rfl
        have hx1 := (HB6.out.cell (World.block_lt_of_cell? w _ HX.out.1)).trans HX.out.1
        have hx2 := (HB6.out.cell (World.block_lt_of_cell? w _ HX.out.2)).trans HX.out.2
        go_region_with (go_at_call 24; (refine (is_both w.heap.size p ok' okD' S' A' c' L' x1 x2 _ HD5.out (HT6.out.drewN _) (Kd.R_drewN HR6.out _)).mono ?_); rintro e w7 ⟨rfl, hb⟩; have HB7 := Aside0.mk (below_step (pw_below_drewN HB6.out 1) hb); have HT7 := Aside0.mk ((HT6.out.drewN 1).below hb); have HR7 := Aside0.mk (Kd.R_below (Kd.R_drewN HR6.out 1) hb); have B7 := Aside0.mk (blk_below (w := w6.drewN 1) B6.out hb); clear hb s0 s1 hx1 hx2)
        all_goals
          go_wp2
          go_roundw
          case rel => exact ⟨i + 1, ok', okD', S', A', c', L', rfl, by go_num, ⟨hin⟩, HBn5, HD5, HT7, HR7, HA5, HG5, B7, HB7⟩
          case measure => simp [intOf]; omega
    · go_wp2_with (first
        | (go_at_call 24; (refine (is_both w.heap.size p ok okD S A c L 0 0 _ HD.out HT.out HR.out).mono ?_); rintro e w5 ⟨rfl, hb⟩; have HB5 := Aside0.mk (below_step HB.out hb); clear hb)
        | (go_at_call 17; (refine (awake_calls _).mono ?_); rintro e w6 ⟨rfl, hb⟩; have HB6 := Aside0.mk (below_step HB5.out hb); clear hb))
      go_ret
      exact ⟨rfl, HB6.out⟩
end Go.Proofs.Ytceopcfmhidjlaa.PTimerPlays
