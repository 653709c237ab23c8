/- How deep calls go, plain: a search that keeps what it knows, and what is open, tells the longest walk, or that walks have no end. Conditions: each theorem's own.
   How deep calls go: what the search tells of a program that may be. Conditions: the program may be. -/
import Derived.Test.YtdlikjfffdpmiaaProperDM
import Derived.Test.YtdlikjfffdpmiaaProperK2
import Derived.Test.YtdlikjfffdpmiaaProperCC
set_option linter.unusedVariables false
set_option linter.unusedSimpArgs false
namespace Go.Proofs.Ytdlikjfffdpmiaa.GProper
open Go.RowKit Go.Proofs.Ytdlikjfffdpmiaa.QProper Go.Proofs.YtdlikjfffdpmiaaW.PrintWords
/-- Is there a walk of so many steps? -/
def Has (N : Int → List Int) : Nat → Int → Prop
  | 0, _ => True
  | d + 1, x => ∃ y ∈ N x, Has N d y
theorem Has_anti (N : Int → List Int) : ∀ (d : Nat) (x : Int), Has N (d + 1) x → Has N d x
  | 0, _, _ => trivial
  | d + 1, _, ⟨y, hy, h⟩ => ⟨y, hy, Has_anti N d y h⟩
theorem Has_le {N : Int → List Int} {x : Int} : ∀ (e d : Nat), Has N (d + e) x → Has N d x
  | 0, _, h => h
  | e + 1, d, h => Has_le e d (Has_anti N (d + e) x h)
theorem Has_le' {N : Int → List Int} {x : Int} {d e : Nat} (h : Has N e x) (hd : d ≤ e) : Has N d x := Has_le (e - d) d (by rwa [Nat.add_sub_cancel' hd])
def Long (N : Int → List Int) (x : Int) (m : Nat) : Prop := Has N m x ∧ ¬ Has N (m + 1) x
theorem nodup_sub : ∀ (l L : List Int), l.Nodup → (∀ x ∈ l, x ∈ L) → l.length ≤ L.length := by
  intro l
  induction l with
  | nil => intro L _ _; exact Nat.zero_le _
  | cons a l ih =>
    intro L hn hs
    obtain ⟨h1, h2⟩ := List.nodup_cons.1 hn
    have ha := hs a List.mem_cons_self
    have := ih (L.erase a) h2 (fun x hx => (List.mem_erase_of_ne (show x ≠ a from fun e => h1 (by rw [← e]; exact hx))).2 (hs x (List.mem_cons_of_mem _ hx)))
    rw [List.length_erase_of_mem ha] at this
    have hp : 0 < L.length := List.length_pos_of_mem ha
    show l.length + 1 ≤ L.length
    omega
theorem getI_some : ∀ (l : List (Int × Int)) (k u : Int), getI k l = some u → ∃ i : Nat, l[i]? = some (k, u) := by
  intro l
  induction l with
  | nil => intro k u h; cases h
  | cons p r ih =>
    intro k u h
    obtain ⟨a, v⟩ := p
    unfold getI at h
    by_cases e : a = k
    · rw [if_pos e] at h
      cases h
      exact ⟨0, by rw [e]; rfl⟩
    · rw [if_neg e] at h
      obtain ⟨i, hi⟩ := ih k u h
      exact ⟨i + 1, hi⟩
theorem getI_none : ∀ (l : List (Int × Int)) (k : Int), getI k l = none ↔ k ∉ l.map (·.1) := by
  intro l
  induction l with
  | nil => intro k; simp [getI]
  | cons p r ih =>
    intro k
    obtain ⟨a, v⟩ := p
    unfold getI
    rw [List.map_cons, List.mem_cons, not_or]
    by_cases e : a = k
    · rw [if_pos e]
      exact ⟨fun h => (by cases h), fun h => absurd e.symm h.1⟩
    · rw [if_neg e, ih k]
      exact ⟨fun h => ⟨fun h2 => e h2.symm, h⟩, fun h => h.2⟩
theorem insI_none : ∀ (l : List (Int × Int)) (k v : Int), getI k l = none → insI k v l = l ++ [(k, v)] := by
  intro l
  induction l with
  | nil => intro k v _; rfl
  | cons p r ih =>
    intro k v h
    obtain ⟨a, u⟩ := p
    unfold getI at h
    by_cases e : a = k
    · rw [if_pos e] at h; cases h
    · rw [if_neg e] at h
      unfold insI
      rw [if_neg e, ih k v h]
      rfl
/-- What is known is right, and each is known once. -/
structure Kn (N : Int → List Int) (L : List Int) (kn : List (Int × Int)) : Prop where
  nd : (kn.map (·.1)).Nodup
  ok : ∀ (i : Nat) (x m : Int), kn[i]? = some (x, m) → x ∈ L ∧ 0 ≤ m ∧ m ≤ i ∧ Long N x m.toNat
theorem Kn.len {N : Int → List Int} {L : List Int} {kn : List (Int × Int)} (h : Kn N L kn) : kn.length ≤ L.length := by
  have := nodup_sub (kn.map (·.1)) L h.nd (fun x hx => by
    obtain ⟨p, hp, rfl⟩ := List.mem_map.1 hx
    obtain ⟨i, hi⟩ := List.mem_iff_getElem?.1 hp
    exact (h.ok i p.1 p.2 hi).1)
  simpa using this
theorem Kn.add {N : Int → List Int} {L : List Int} {kn : List (Int × Int)} (h : Kn N L kn) {f m : Int} (hf : f ∈ L) (hg : getI f kn = none) (h0 : 0 ≤ m) (h1 : m ≤ kn.length) (hl : Long N f m.toNat) : Kn N L (kn ++ [(f, m)]) := by
  refine ⟨?_, ?_⟩
  · rw [List.map_append, List.nodup_append]
    refine ⟨h.nd, by simp, ?_⟩
    intro a ha b hb
    have hb' : b = f := by simpa using hb
    subst hb'
    exact fun e => (getI_none kn b).1 hg (e ▸ ha)
  · intro i x m' hi
    rw [List.getElem?_append] at hi
    by_cases c : i < kn.length
    · rw [if_pos c] at hi; exact h.ok i x m' hi
    · rw [if_neg c] at hi
      have hi0 : i - kn.length = 0 := by
        have := (List.getElem?_eq_some_iff.1 hi).1
        simp at this
        omega
      rw [hi0] at hi
      cases hi
      exact ⟨hf, h0, by omega, hl⟩
def DGood (N : Int → List Int) (L : List Int) (f r : Int) (kn kn' : List (Int × Int)) (op op' : List Int) : Prop :=
  (r = -1 ∧ ∀ d, Has N d f) ∨ (0 ≤ r ∧ op' = op ∧ Kn N L kn' ∧ (∀ x ∈ op, getI x kn' = none) ∧ kn.length ≤ kn'.length ∧ r + 1 ≤ (kn'.length : Int) ∧ Long N f r.toNat)
section
variable {N : Int → List Int} {L : List Int} {nm : Int → Option (List Int)} (hN : ∀ x ∈ L, ∀ y ∈ N x, y ∈ L) (hnm : ∀ x ∈ L, nm x = some (N x)) (hL : L.length ≤ 256)
include hN hL
theorem dLoop_ok (k : Nat) (f : Int) (hf : f ∈ L) (op : List Int) (hfo : f ∉ op) (hnd : op.Nodup) (hop : ∀ x ∈ op, x ∈ L) (hre : ∀ x ∈ op, ∀ d, Has N d f → Has N (d + 1) x) (hk : L.length + 1 ≤ k + (op.length + 1))
    (ih : ∀ (f : Int) (kn : List (Int × Int)) (op : List Int), Kn N L kn → (∀ x ∈ op, getI x kn = none) → op.Nodup → (∀ x ∈ op, x ∈ L) → f ∈ L → (∀ x ∈ op, ∀ d, Has N d f → Has N (d + 1) x) → L.length + 1 ≤ k + op.length → ∃ r kn' op', dOf nm k f kn op = some (r, kn', op') ∧ DGood N L f r kn kn' op op') :
    ∀ (l : List Int) (m : Int) (kn : List (Int × Int)), (∀ y ∈ l, y ∈ N f) → Kn N L kn → (∀ x ∈ op ++ [f], getI x kn = none) → 0 ≤ m → m ≤ (kn.length : Int) → (∀ y ∈ N f, y ∈ l ∨ ¬ Has N m.toNat y) → Has N m.toNat f →
      ∃ m' kn' op', dLoop (dOf nm k) l m kn (op ++ [f]) = some (m', kn', op') ∧ ((m' = -1 ∧ ∀ d, Has N d f) ∨ (0 ≤ m' ∧ op' = op ++ [f] ∧ Kn N L kn' ∧ (∀ x ∈ op ++ [f], getI x kn' = none) ∧ kn.length ≤ kn'.length ∧ m' ≤ (kn'.length : Int) ∧ Long N f m'.toNat)) := by
  intro l
  induction l with
  | nil =>
    intro m kn _ hK hd h0 h1 hy hh
    refine ⟨m, kn, op ++ [f], rfl, .inr ⟨h0, rfl, hK, hd, Nat.le_refl _, h1, hh, ?_⟩⟩
    rintro ⟨y, hyN, hyh⟩
    rcases hy y hyN with h | h
    · cases h
    · exact h hyh
  | cons g l ihl =>
    intro m kn hs hK hd h0 h1 hy hh
    have hgN := hs g List.mem_cons_self
    have hndo : (op ++ [f]).Nodup := by
      rw [List.nodup_append]
      refine ⟨hnd, by simp, ?_⟩
      intro a ha b hb
      have hb' : b = f := by simpa using hb
      subst hb'
      exact fun e => hfo (e ▸ ha)
    obtain ⟨r, kn1, op1, h2, h3⟩ := ih g kn (op ++ [f]) hK hd hndo (fun x hx => by
        rcases List.mem_append.1 hx with hx | hx
        · exact hop x hx
        · have : x = f := by simpa using hx
          exact this ▸ hf) (hN f hf g hgN) (fun x hx d hgd => by
        have hfd : Has N (d + 1) f := ⟨g, hgN, hgd⟩
        rcases List.mem_append.1 hx with hx | hx
        · exact Has_anti N _ _ (hre x hx _ hfd)
        · have : x = f := by simpa using hx
          exact this ▸ hfd) (by rw [List.length_append]; exact hk)
    unfold dLoop
    rw [h2]
    simp only [Option.bind_some]
    rcases h3 with ⟨rfl, hinf⟩ | ⟨hr0, rfl, hK1, hd1, hlen, hr1, hlong⟩
    · rw [if_pos (by decide)]
      refine ⟨-1, kn1, op1, rfl, .inl ⟨rfl, fun d => Has_anti N _ _ ⟨g, hgN, hinf d⟩⟩⟩
    · have hk1 := hK1.len
      rw [if_neg (by omega), if_pos (by omega)]
      have hm : (if m < r + 1 then r + 1 else m) = if m < r + 1 then r + 1 else m := rfl
      obtain ⟨m', kn', op', h4, h5⟩ := ihl (if m < r + 1 then r + 1 else m) kn1 (fun y hy => hs y (List.mem_cons_of_mem _ hy)) hK1 hd1 (by split <;> omega) (by split <;> omega) (fun y hyN => by
          rcases hy y hyN with h | h
          · rcases List.mem_cons.1 h with rfl | h
            · exact .inr (fun hh2 => hlong.2 (Has_le' hh2 (by split <;> omega)))
            · exact .inl h
          · exact .inr (fun hh2 => h (Has_le' hh2 (by split <;> omega)))) (by
          split
          · have e : (r + 1).toNat = r.toNat + 1 := by omega
            rw [e]
            exact ⟨g, hgN, hlong.1⟩
          · exact hh)
      refine ⟨m', kn', op', h4, ?_⟩
      rcases h5 with h5 | ⟨a, b, c, d, e, f', g'⟩
      · exact .inl h5
      · exact .inr ⟨a, b, c, d, by omega, f', g'⟩
include hnm
theorem dOf_ok : ∀ (k : Nat) (f : Int) (kn : List (Int × Int)) (op : List Int), Kn N L kn → (∀ x ∈ op, getI x kn = none) → op.Nodup → (∀ x ∈ op, x ∈ L) → f ∈ L → (∀ x ∈ op, ∀ d, Has N d f → Has N (d + 1) x) → L.length + 1 ≤ k + op.length → ∃ r kn' op', dOf nm k f kn op = some (r, kn', op') ∧ DGood N L f r kn kn' op op' := by
  intro k
  induction k with
  | zero =>
    intro f kn op _ _ hnd hop _ _ hk
    have := nodup_sub op L hnd hop
    omega
  | succ k ih =>
    intro f kn op hK hd hnd hop hf hre hk
    unfold dOf
    cases hg : getI f kn with
    | some n =>
      obtain ⟨i, hi⟩ := getI_some kn f n hg
      obtain ⟨_, h0, h1, h2⟩ := hK.ok i f n hi
      have hil := (List.getElem?_eq_some_iff.1 hi).1
      exact ⟨n, kn, op, rfl, .inr ⟨h0, rfl, hK, hd, Nat.le_refl _, by omega, h2⟩⟩
    | none =>
      dsimp only
      by_cases hfo : f ∈ op
      · rw [if_pos hfo]
        refine ⟨-1, kn, op, rfl, .inl ⟨rfl, fun d => ?_⟩⟩
        induction d with
        | zero => trivial
        | succ d ihd => exact hre f hfo d ihd
      · rw [if_neg hfo, hnm f hf]
        simp only [Option.bind_some]
        obtain ⟨m, kn', op', h1, h2⟩ := dLoop_ok hN hL k f hf op hfo hnd hop hre (by omega) ih (N f) 0 kn (fun _ h => h) hK (fun x hx => by
          rcases List.mem_append.1 hx with hx | hx
          · exact hd x hx
          · have : x = f := by simpa using hx
            rw [this]; exact hg) (Int.le_refl _) (by omega) (fun y hy => .inl hy) trivial
        rw [h1]
        simp only [Option.bind_some]
        unfold dEnd
        rcases h2 with ⟨rfl, hinf⟩ | ⟨h0, rfl, hK', hd', hlen, hm, hlong⟩
        · exact ⟨-1, kn', op', if_pos (by show (-1 : Int) < 0; decide), .inl ⟨rfl, hinf⟩⟩
        · have hgf := hd' f (List.mem_append_right _ List.mem_cons_self)
          refine ⟨m, insI f m kn', (op ++ [f]).erase f, if_neg (by show ¬ m < 0; omega), .inr ⟨h0, ?_, ?_, ?_, ?_, ?_, hlong⟩⟩
          · rw [List.erase_append_right _ hfo]
            simp
          · rw [insI_none kn' f m hgf]
            exact hK'.add hf hgf h0 hm hlong
          · intro x hx
            rw [insI_none kn' f m hgf, getI_none, List.map_append, List.mem_append, not_or]
            refine ⟨(getI_none kn' x).1 (hd' x (List.mem_append_left _ hx)), ?_⟩
            intro hxf
            have : x = f := by simpa using hxf
            exact hfo (this ▸ hx)
          · rw [insI_none kn' f m hgf, List.length_append]; omega
          · rw [insI_none kn' f m hgf, List.length_append]
            simp only [List.length_cons, List.length_nil]
            omega
end
/-- What so many steps from f end in. -/
def Wk (N : Int → List Int) (f : Int) : Nat → Int → Prop
  | 0, x => x = f
  | d + 1, x => ∃ y, Wk N f d y ∧ x ∈ N y
theorem Wk_Has (N : Int → List Int) (f : Int) : ∀ d e, Has N (d + e) f ↔ ∃ x, Wk N f d x ∧ Has N e x := by
  intro d
  induction d with
  | zero =>
    intro e
    rw [Nat.zero_add]
    exact ⟨fun h => ⟨f, rfl, h⟩, by rintro ⟨x, rfl, h⟩; exact h⟩
  | succ d ih =>
    intro e
    rw [show d + 1 + e = d + (e + 1) by omega, ih (e + 1)]
    constructor
    · rintro ⟨x, h1, y, h2, h3⟩
      exact ⟨y, ⟨x, h1, h2⟩, h3⟩
    · rintro ⟨y, ⟨x, h1, h2⟩, h3⟩
      exact ⟨x, h1, y, h2, h3⟩
theorem Wk_in {N : Int → List Int} {f : Int} {S : Int → Prop} (hf : S f) (hN : ∀ x, S x → ∀ y ∈ N x, S y) : ∀ d x, Wk N f d x → S x := by
  intro d
  induction d with
  | zero => rintro x rfl; exact hf
  | succ d ih => rintro x ⟨y, h1, h2⟩; exact hN y (ih y h1) x h2
end Go.Proofs.Ytdlikjfffdpmiaa.GProper
set_option linter.unusedVariables false
set_option linter.unusedSimpArgs false
namespace Go.Proofs.Ytdlikjfffdpmiaa.CProper
open Go.RowKit Go.Proofs.Ytdlikjfffdpmiaa.QProper Go.Proofs.Ytdlikjfffdpmiaa.GProper Go.Proofs.YtdlikjfffdpmiaaW.PrintWords Go.Proofs.YtdlikjfffdpmiaaW.PrintLast Go.Proofs.YtdlikjfffdpmiaaW.PrintMore
/-- What Depth tells, of a function that is there. -/
def DepthIs (c : List Int) (fs : List S34) (ts : List S58) (f D : Int) : Prop :=
  (D = -1 ∧ ∀ d, Has (nmL c fs ts false) d f) ∨ (0 ≤ D ∧ Long (nmL c fs ts false) f D.toNat ∧ ∀ L : List Int, L.length ≤ 256 → f ∈ L → (∀ x ∈ L, 0 ≤ x ∧ x < fs.length) → (∀ x ∈ L, ∀ y ∈ nmL c fs ts false x, y ∈ L) → D < L.length)
section
variable {c : List Int} {fs : List S34} {ts : List S58} (hc : ∀ x ∈ c, 0 ≤ x ∧ x < 4294967296) (F : Fine c fs ts)
include hc F
theorem depth_is (f : Int) (h0 : 0 ≤ f) (h1 : f < fs.length) : ∃ D : Int, DepthIs c fs ts f D ∧ (0 ≤ D → D < fs.length) ∧ ∀ k, 50000 ≤ k → ∃ kn op, dOf (fun g => proper_named.f k c fs ts g false) k f [] [] = some (D, kn, op) := by
  have hnf := F.nf
  have base : ∀ (L : List Int), L.length ≤ 256 → f ∈ L → (∀ x ∈ L, 0 ≤ x ∧ x < fs.length) → (∀ x ∈ L, ∀ y ∈ nmL c fs ts false x, y ∈ L) → ∀ k, 50000 ≤ k → ∃ r kn' op', dOf (fun g => proper_named.f k c fs ts g false) k f [] [] = some (r, kn', op') ∧ DGood (nmL c fs ts false) L f r [] kn' [] op' := fun L hL hf hin hcl k hk =>
    dOf_ok hcl (fun x hx => named_ok hc F false x (hin x hx).1 (hin x hx).2 k (by omega)) hL k f [] [] ⟨by simp, fun i x m h => by simp at h⟩ (fun x hx => by cases hx) (by simp) (fun x hx => by cases hx) hf (fun x hx => by cases hx) (by omega)
  let A : List Int := (List.range fs.length).map (fun i => ((i : Nat) : Int))
  have hA : A.length ≤ 256 := by simp [A]; omega
  have hAm : ∀ x : Int, x ∈ A ↔ 0 ≤ x ∧ x < fs.length := fun x => by
    simp only [A, List.mem_map, List.mem_range]
    constructor
    · rintro ⟨i, hi, rfl⟩; omega
    · rintro ⟨a, b⟩; exact ⟨x.toNat, by omega, by omega⟩
  have hAcl : ∀ x ∈ A, ∀ y ∈ nmL c fs ts false x, y ∈ A := fun x hx y hy => (hAm y).2 ((nmL_in hc F false x ((hAm x).1 hx).1 ((hAm x).1 hx).2).1 y hy)
  obtain ⟨D, kn, op, hD, hG⟩ := base A hA ((hAm f).2 ⟨h0, h1⟩) (fun x hx => (hAm x).1 hx) hAcl 50000 (Nat.le_refl _)
  have same : ∀ L : List Int, L.length ≤ 256 → f ∈ L → (∀ x ∈ L, 0 ≤ x ∧ x < fs.length) → (∀ x ∈ L, ∀ y ∈ nmL c fs ts false x, y ∈ L) → DGood (nmL c fs ts false) L f D [] kn [] op := fun L a b d g => by
    obtain ⟨r, kn', op', hr, hg⟩ := base L a b d g 50000 (Nat.le_refl _)
    rw [hD] at hr
    cases hr
    exact hg
  have hmono : ∀ i, dOf (fun g => proper_named.f (50000 + i) c fs ts g false) (50000 + i) f [] [] = some (D, kn, op) := fun i => by
    induction i with
    | zero => exact hD
    | succ i ih => exact dOf_mono (fun g => proper_named.mono _ _ _ _ _ _) _ _ _ _ _ ih
  have hk0 : ∀ k, 50000 ≤ k → ∃ kn op, dOf (fun g => proper_named.f k c fs ts g false) k f [] [] = some (D, kn, op) := fun k hk => ⟨kn, op, by
    have := hmono (k - 50000)
    rwa [Nat.add_sub_cancel' hk] at this⟩
  rcases hG with ⟨rfl, hinf⟩ | ⟨hD0, _, hK, _, _, hlen, hlong⟩
  · exact ⟨-1, .inl ⟨rfl, hinf⟩, fun h => absurd h (by decide), hk0⟩
  · have hDL : ∀ L : List Int, L.length ≤ 256 → f ∈ L → (∀ x ∈ L, 0 ≤ x ∧ x < fs.length) → (∀ x ∈ L, ∀ y ∈ nmL c fs ts false x, y ∈ L) → D < L.length := fun L a b d g => by
      rcases same L a b d g with ⟨e, _⟩ | ⟨_, _, hK', _, _, hlen', _⟩
      · omega
      · have := hK'.len; omega
    have hDA := hDL A hA ((hAm f).2 ⟨h0, h1⟩) (fun x hx => (hAm x).1 hx) hAcl
    have hAl : A.length = fs.length := by simp [A]
    exact ⟨D, .inr ⟨hD0, hlong, hDL⟩, fun _ => by omega, hk0⟩
end
end Go.Proofs.Ytdlikjfffdpmiaa.CProper
