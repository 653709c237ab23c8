/- What timers hold: the timers that run, and what the three maps must tell of them. Plain. Conditions: each theorem's own. -/
import Derived.Test.YtceopcfmhidjlaaTan
set_option linter.unusedVariables false
set_option linter.unusedSimpArgs false
namespace Go.Proofs.Ytceopcfmhidjlaa.PTimerPlays
open Go.RowKit Go.Proofs.Ytceopcfmhidjlaa.Ef Go.Proofs.Ytceopcfmhidjlaa.Mp Go.Proofs.Ytceopcfmhidjlaa.Hp

/-! ### lists of keys and values -/
section
variable {κ : Type} [DecidableEq κ]
theorem look_fresh : ∀ (l : List (κ × Value)) (k : κ) (i : Nat), (∀ p ∈ l, p.1 ≠ k) → Mp.look k l i = none
  | [], _, _, _ => rfl
  | (a, v) :: r, k, i, h => by
    unfold Mp.look
    rw [if_neg (h (a, v) List.mem_cons_self)]
    exact look_fresh r k (i + 1) (fun p hp => h p (List.mem_cons_of_mem _ hp))
theorem ins_new {l : List (κ × Value)} {k : κ} (v : Value) (h : ∀ p ∈ l, p.1 ≠ k) : ins k v l = l ++ [(k, v)] := (look_none l k 0 (look_fresh l k 0 h)).1 v
theorem get_fresh {l : List (κ × Value)} {k : κ} (h : ∀ p ∈ l, p.1 ≠ k) : get k l = none := by rw [look_get, look_fresh l k 0 h]; rfl
theorem get_key_cons {k a : κ} {v : Value} {r : List (κ × Value)} : get k ((a, v) :: r) = if a = k then some v else get k r := by
  show (Mp.look k ((a, v) :: r) 0).map (·.2) = if a = k then some v else (Mp.look k r 0).map (·.2)
  rw [Mp.look]
  by_cases e : a = k
  · rw [if_pos e, if_pos e]; rfl
  · rw [if_neg e, if_neg e]
    have : ∀ (l : List (κ × Value)) (i j : Nat), (Mp.look k l i).map (·.2) = (Mp.look k l j).map (·.2) := by
      intro l
      induction l with
      | nil => intro i j; rfl
      | cons p r ih =>
        intro i j
        obtain ⟨b, u⟩ := p
        unfold Mp.look
        by_cases e : b = k
        · rw [if_pos e, if_pos e]; rfl
        · rw [if_neg e, if_neg e]; exact ih _ _
    exact this r 1 0
theorem get_mem {k : κ} {v : Value} : ∀ {l : List (κ × Value)}, (l.map (·.1)).Nodup → (k, v) ∈ l → get k l = some v
  | [], _, h => by cases h
  | (a, u) :: r, hn, h => by
    rw [get_key_cons]
    rw [List.map_cons, List.nodup_cons] at hn
    rcases List.mem_cons.1 h with e | e
    · obtain ⟨rfl, rfl⟩ := Prod.mk.inj e
      rw [if_pos rfl]
    · rw [if_neg (fun q => hn.1 (List.mem_map.2 ⟨(k, v), e, q.symm⟩))]
      exact get_mem hn.2 e
theorem del_perm {k : κ} {v : Value} : ∀ {l : List (κ × Value)}, (l.map (·.1)).Nodup → (k, v) ∈ l → l.Perm ((k, v) :: del k l)
  | [], _, h => by cases h
  | (a, u) :: r, hn, h => by
    rw [List.map_cons, List.nodup_cons] at hn
    rcases List.mem_cons.1 h with e | e
    · obtain ⟨rfl, rfl⟩ := Prod.mk.inj e
      rw [del, if_pos rfl]
    · rw [del, if_neg (fun q => hn.1 (List.mem_map.2 ⟨(k, v), e, q.symm⟩))]
      exact ((del_perm hn.2 e).cons _).trans (.swap _ _ _)
theorem del_to {k : κ} {v : Value} {l r : List (κ × Value)} (hn : (l.map (·.1)).Nodup) (h : l.Perm ((k, v) :: r)) : (del k l).Perm r :=
  List.Perm.cons_inv ((del_perm hn (h.mem_iff.2 List.mem_cons_self)).symm.trans h)
end

/-! ### what runs -/
structure TS where
  last : Int
  hp : List NI
  next : Int
  nv : List Tm
def TS.all (S : TS) : List Tm := S.hp.map (·.val) ++ S.nv
abbrev gk (x : Tm) : Int × Int := (x.f2.f0, x.f2.f1)
def TS.sl (S : TS) : List Tm := S.all.filter (fun x => x.f1 == 1)
abbrev idN (n : NI) : Int × Value := (n.val.f0, plc n.num false)
abbrev idV (x : Tm) : Int × Value := (x.f0, plc 0 true)
abbrev owP (x : Tm) : Int × Value := (x.f0, .agg (cT x))
abbrev gsP (x : Tm) : (Int × Int) × Value := (gk x, .int .i64 x.f0)
def TS.ids (S : TS) : List (Int × Value) := S.hp.map idN ++ S.nv.map idV
def TS.own (S : TS) : List (Int × Value) := S.all.map owP
def TS.gs (S : TS) : List ((Int × Int) × Value) := S.sl.map gsP
/-- What the maps hold is what the timers tell; and what is true of the timers. -/
structure Good (S : TS) (ids own : List (Int × Value)) (gs : List ((Int × Int) × Value)) : Prop where
  pi : ids.Perm S.ids
  po : own.Perm S.own
  pg : gs.Perm S.gs
  ni : (S.all.map (·.f0)).Nodup
  ng : (S.sl.map gk).Nodup
  hd : ∀ n ∈ S.hp, n.val.f5 = false ∧ n.val.f4 = n.when
  nd : ∀ x ∈ S.nv, x.f5 = true
  idl : ∀ x ∈ S.all, x.f0 ≤ S.last
  num : ∀ n ∈ S.hp, n.num < S.next
  n0 : 0 ≤ S.next
  l0 : 0 ≤ S.last
  len : S.all.length ≤ 1024
def TS.arm (S : TS) (x : Tm) : TS := if x.f5 = true then { S with nv := S.nv ++ [x] } else { S with hp := S.hp ++ [⟨x.f4, S.next, x⟩], next := S.next + 1 }
structure Fresh (S : TS) (x : Tm) : Prop where
  i : ∀ y ∈ S.all, y.f0 ≠ x.f0
  g : x.f1 = 1 → ∀ y ∈ S.sl, gk y ≠ gk x
  l : x.f0 ≤ S.last
  n : S.all.length < 1024
theorem perm_mid {α : Type} (A B : List α) (a : α) : (A ++ [a] ++ B).Perm (A ++ B ++ [a]) := by
  rw [List.append_assoc, List.append_assoc]
  exact (List.perm_append_comm).append_left A
theorem arm_all (S : TS) (x : Tm) : (S.arm x).all.Perm (S.all ++ [x]) := by
  unfold TS.arm TS.all
  by_cases h : x.f5 = true
  · rw [if_pos h]
    simp only [List.append_assoc]
    exact .refl _
  · rw [if_neg h]
    simp only [List.map_append, List.map_cons, List.map_nil]
    exact perm_mid _ _ _
theorem arm_last (S : TS) (x : Tm) : (S.arm x).last = S.last := by unfold TS.arm; by_cases h : x.f5 = true; rw [if_pos h]; rw [if_neg h]
theorem arm_next (S : TS) (x : Tm) : S.next ≤ (S.arm x).next ∧ (S.arm x).next ≤ S.next + 1 := by
  unfold TS.arm
  by_cases h : x.f5 = true
  · rw [if_pos h]; exact ⟨Int.le_refl _, by show S.next ≤ S.next + 1; omega⟩
  · rw [if_neg h]; exact ⟨by show S.next ≤ S.next + 1; omega, Int.le_refl _⟩
theorem ids_key {S : TS} {ids own : List (Int × Value)} {gs : List ((Int × Int) × Value)} (G : Good S ids own gs) : (ids.map (·.1)).Nodup := by
  refine ((G.pi.map (·.1)).nodup_iff).2 ?_
  have : S.ids.map (·.1) = S.all.map (·.f0) := by simp [TS.ids, TS.all, Function.comp_def]
  rw [this]
  exact G.ni
theorem own_key {S : TS} {ids own : List (Int × Value)} {gs : List ((Int × Int) × Value)} (G : Good S ids own gs) : (own.map (·.1)).Nodup := by
  refine ((G.po.map (·.1)).nodup_iff).2 ?_
  have : S.own.map (·.1) = S.all.map (·.f0) := by simp [TS.own, Function.comp_def]
  rw [this]
  exact G.ni
theorem gs_key {S : TS} {ids own : List (Int × Value)} {gs : List ((Int × Int) × Value)} (G : Good S ids own gs) : (gs.map (·.1)).Nodup := by
  refine ((G.pg.map (·.1)).nodup_iff).2 ?_
  have : S.gs.map (·.1) = S.sl.map gk := by simp [TS.gs, Function.comp_def]
  rw [this]
  exact G.ng
theorem ids_len {S : TS} {ids own : List (Int × Value)} {gs : List ((Int × Int) × Value)} (G : Good S ids own gs) : ids.length = S.all.length := by
  rw [G.pi.length_eq]
  simp [TS.ids, TS.all]
theorem Good.arm {S : TS} {ids own : List (Int × Value)} {gs : List ((Int × Int) × Value)} (G : Good S ids own gs) {x : Tm} (F : Fresh S x) :
    Good (S.arm x) (ins x.f0 (plc (if x.f5 = true then 0 else S.next) x.f5) ids) (ins x.f0 (.agg (cT x)) own) (gsN x.f1 x.f2.f0 x.f2.f1 x.f0 gs) := by
  have hp := arm_all S x
  have hi : ∀ p ∈ ids, p.1 ≠ x.f0 := fun p q => by
    have := G.pi.mem_iff.1 q
    have h2 : p.1 ∈ S.ids.map (·.1) := List.mem_map.2 ⟨p, this, rfl⟩
    have h3 : S.ids.map (·.1) = S.all.map (·.f0) := by simp [TS.ids, TS.all, Function.comp_def]
    rw [h3] at h2
    obtain ⟨y, hy, e⟩ := List.mem_map.1 h2
    rw [← e]
    exact F.i y hy
  have ho : ∀ p ∈ own, p.1 ≠ x.f0 := fun p q => by
    have := G.po.mem_iff.1 q
    obtain ⟨y, hy, e⟩ := List.mem_map.1 this
    rw [← e]
    exact F.i y hy
  have hsl : (S.arm x).sl.Perm (S.sl ++ (if x.f1 = 1 then [x] else [])) := by
    unfold TS.sl
    refine (hp.filter _).trans (List.Perm.of_eq ?_)
    rw [List.filter_append]
    congr 1
    by_cases h : x.f1 = 1
    · rw [if_pos h]; simp [h]
    · rw [if_neg h]; simp [h]
  refine ⟨?_, ?_, ?_, ?_, ?_, ?_, ?_, ?_, ?_, ?_, ?_, ?_⟩
  · rw [ins_new _ hi]
    refine (G.pi.append_right _).trans ?_
    unfold TS.arm TS.ids
    by_cases h : x.f5 = true
    · simp only [if_pos h]
      rw [List.map_append, List.append_assoc, List.map_cons, List.map_nil]
      refine List.Perm.of_eq ?_
      rw [h]
    · simp only [if_neg h]
      rw [List.map_append, List.map_cons, List.map_nil]
      refine (List.Perm.of_eq ?_).trans (perm_mid _ _ _).symm
      rw [show x.f5 = false by simpa using h]
  · rw [ins_new _ ho]
    refine (G.po.append_right _).trans ?_
    refine List.Perm.trans (List.Perm.of_eq ?_) ((hp.map owP).symm)
    rw [List.map_append]
    rfl
  · refine List.Perm.trans ?_ ((hsl.map gsP).symm)
    unfold gsN
    rw [List.map_append]
    by_cases h : x.f1 = 1
    · rw [if_pos h, if_pos h, ins_new]
      · exact G.pg.append_right _
      · intro p q
        obtain ⟨y, hy, e⟩ := List.mem_map.1 (G.pg.mem_iff.1 q)
        rw [← e]
        exact F.g h y hy
    · rw [if_neg h, if_neg h]
      simpa [TS.gs] using G.pg
  · refine ((hp.map (·.f0)).nodup_iff).2 ?_
    rw [List.map_append, List.nodup_append]
    refine ⟨G.ni, by simp, fun a ha b hb e => ?_⟩
    obtain ⟨y, hy, rfl⟩ := List.mem_map.1 ha
    rw [List.map_cons, List.map_nil, List.mem_singleton] at hb
    exact F.i y hy (e.trans hb)
  · refine ((hsl.map gk).nodup_iff).2 ?_
    rw [List.map_append, List.nodup_append]
    refine ⟨G.ng, by split <;> simp, fun a ha b hb e => ?_⟩
    obtain ⟨y, hy, rfl⟩ := List.mem_map.1 ha
    by_cases h : x.f1 = 1
    · rw [if_pos h, List.map_cons, List.map_nil, List.mem_singleton] at hb
      exact F.g h y hy (e.trans hb)
    · rw [if_neg h] at hb
      cases hb
  · unfold TS.arm
    by_cases h : x.f5 = true
    · rw [if_pos h]; exact G.hd
    · rw [if_neg h]
      intro n hn
      rcases List.mem_append.1 hn with q | q
      · exact G.hd n q
      · rw [List.mem_singleton.1 q]; exact ⟨by simpa using h, rfl⟩
  · unfold TS.arm
    by_cases h : x.f5 = true
    · rw [if_pos h]
      intro n hn
      rcases List.mem_append.1 hn with q | q
      · exact G.nd n q
      · rw [List.mem_singleton.1 q]; exact h
    · rw [if_neg h]; exact G.nd
  · rw [arm_last]
    intro y hy
    rcases List.mem_append.1 (hp.mem_iff.1 hy) with q | q
    · exact G.idl y q
    · rw [List.mem_singleton.1 q]; exact F.l
  · unfold TS.arm
    by_cases h : x.f5 = true
    · rw [if_pos h]; exact G.num
    · rw [if_neg h]
      intro n hn
      rcases List.mem_append.1 hn with q | q
      · have := G.num n q; show n.num < S.next + 1; omega
      · rw [List.mem_singleton.1 q]; show S.next < S.next + 1; omega
  · exact Int.le_trans G.n0 (arm_next S x).1
  · rw [arm_last]; exact G.l0
  · rw [hp.length_eq, List.length_append]; exact F.n
end Go.Proofs.Ytceopcfmhidjlaa.PTimerPlays
