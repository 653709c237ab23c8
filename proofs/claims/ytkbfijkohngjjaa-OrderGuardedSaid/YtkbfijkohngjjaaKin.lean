/- An argument of structs and slices, nested in one another however deep, reads as a plain value of its kind: the numbers lie in their kinds' ranges, each slice takes no more memory than the row's reach.
   Conditions: the datum was read at the row's own reading (base 0, the spare read, interface values held). -/
import Derived.SizedLaws
import Derived.ProofKit
import Derived.Deep.Slices
import Derived.Test.YtkbfijkohngjjaaWAll
set_option linter.unusedVariables false
namespace Go.Proofs.Ytkbfijkohngjjaa.Kin
open Go.ChangeShapes Go.WideShapes Go.Deep Go.Proofs.YtkbfijkohngjjaaW.PrintWords

/-- A datum of type t reads as a value of kind d, of which G is true. -/
def Opens {α : Type} (P : Program) (t : TypeId) (d : Kd α) (G : α → Prop) : Prop :=
  ∀ (H : Type) (enc : TypeId × Value → H) (w : World) (fuel : Nat) (cs : List Value) (x : DataW H) (ps : List MemPlace),
    DataW.trod enc P w 0 (fun _ => true) true fuel t cs = some (x, ps) → (∀ n ∈ x.weights P t, n ≤ reachBytes) → ∃ y, d.K w y cs ∧ G y

theorem opens_int {P : Program} {t : TypeId} {k : IntKind} (ht : P.underlying t = some (.int k)) : Opens P t (Kd.int k) (fun x => (Lit.int k x).wf = true) := by
  intro H enc w fuel cs x ps h _
  obtain ⟨n, rfl, _, hw⟩ := DataW.trod_int ht h
  exact ⟨n, rfl, hw⟩

theorem opens_bool {P : Program} {t : TypeId} (ht : P.underlying t = some .bool) : Opens P t Kd.bool (fun _ => True) := by
  intro H enc w fuel cs x ps h _
  obtain ⟨b, rfl, _⟩ := DataW.trod_bool ht h
  exact ⟨b, rfl, trivial⟩

theorem opens_string {P : Program} {t : TypeId} (ht : P.underlying t = some .string) : Opens P t Kd.string (fun s => s.size ≤ 140737488351232) := by
  intro H enc w fuel cs x ps h hw
  obtain ⟨s, rfl, hx, _⟩ := DataW.trod_string ht h
  refine ⟨s, rfl, ?_⟩
  obtain ⟨rfl, _⟩ := Prod.mk.inj hx
  have := hw s.data.toList.length (by simp [DataW.weights])
  simpa [reachBytes] using this

theorem opens_mono {α : Type} {P : Program} {t : TypeId} {d : Kd α} {G G' : α → Prop} (h : Opens P t d G) (hg : ∀ y, G y → G' y) : Opens P t d G' := by
  intro H enc w fuel cs x ps hx hw
  obtain ⟨y, h1, h2⟩ := h H enc w fuel cs x ps hx hw
  exact ⟨y, h1, hg y h2⟩

theorem opens_iso {α β : Type} {P : Program} {t : TypeId} {d : Kd α} {G : α → Prop} (f : β → α) (g : α → β) (hfg : ∀ y, f (g y) = y) (h : Opens P t d G) : Opens P t (Kd.iso d f) (fun z => G (f z)) := by
  intro H enc w fuel cs x ps hx hw
  obtain ⟨y, h1, h2⟩ := h H enc w fuel cs x ps hx hw
  refine ⟨g y, ?_, by show G (f (g y)); rw [hfg]; exact h2⟩
  show d.K w (f (g y)) cs
  rw [hfg]
  exact h1

/-- The fields of a struct from the cell 'off' on. -/
def OpensAt {α : Type} (P : Program) (fs : List Field) (off : Nat) (d : Kd α) (G : α → Prop) : Prop :=
  ∀ (H : Type) (enc : TypeId × Value → H) (w : World) (n : Nat) (cs : List Value) (xs : List (DataW H × List MemPlace)),
    cs.length = off + d.sz → xs.length = fs.length →
    (∀ (i : Nat) (f : Field), fs[i]? = some f → DataW.trod enc P w 0 (fun _ => true) true n f.type ((cs.drop f.offset).take (P.cellsOf f.type)) = xs[i]?) →
    (∀ m ∈ DataW.weightsEach P (fs.map (·.type)) (xs.map (·.1)), m ≤ reachBytes) → ∃ y, d.K w y (cs.drop off) ∧ G y

theorem opensAt_one {α : Type} {P : Program} {f : Field} {off : Nat} {d : Kd α} {G : α → Prop} (ho : f.offset = off) (hs : P.cellsOf f.type = d.sz) (h : Opens P f.type d G) : OpensAt P [f] off d G := by
  intro H enc w n cs xs hl hx ht hw
  match xs, hx with
  | [(x, ps)], _ =>
    have h0 := ht 0 f rfl
    rw [ho, hs] at h0
    have hd : (cs.drop off).take d.sz = cs.drop off := List.take_of_length_le (by rw [List.length_drop]; omega)
    rw [hd] at h0
    exact h H enc w n _ x ps h0 (fun m hm => hw m (by simp only [List.map_cons, List.map_nil, DataW.weightsEach, List.append_nil]; exact hm))

theorem opensAt_cons {α β : Type} {P : Program} {f : Field} {fs : List Field} {off : Nat} {a : Kd α} {b : Kd β} {Ga : α → Prop} {Gb : β → Prop} (ho : f.offset = off) (hs : P.cellsOf f.type = a.sz)
    (h : Opens P f.type a Ga) (hr : OpensAt P fs (off + a.sz) b Gb) : OpensAt P (f :: fs) off (Kd.pair a b) (fun y => Ga y.1 ∧ Gb y.2) := by
  intro H enc w n cs xs hl hx ht hw
  match xs, hx with
  | (x, ps) :: xr, hx =>
    have hl' : cs.length = off + (a.sz + b.sz) := hl
    have h0 := ht 0 f rfl
    rw [ho, hs] at h0
    obtain ⟨y0, k0, g0⟩ := h H enc w n _ x ps h0 (fun m hm => hw m (by simp only [List.map_cons, DataW.weightsEach]; exact List.mem_append_left _ hm))
    obtain ⟨y1, k1, g1⟩ := hr H enc w n cs xr (by omega) (by simpa using hx) (fun i g hg => ht (i + 1) g hg) (fun m hm => hw m (by simp only [List.map_cons, DataW.weightsEach]; exact List.mem_append_right _ hm))
    refine ⟨(y0, y1), ⟨(cs.drop off).take a.sz, cs.drop (off + a.sz), ?_, k0, k1⟩, g0, g1⟩
    rw [← List.drop_drop, List.take_append_drop]

theorem opens_struct {α : Type} {P : Program} {t : TypeId} {fs : Array Field} {d : Kd α} {G : α → Prop} (ht : P.underlying t = some (.struct fs)) (hs : P.cellsOf t = d.sz) (h : OpensAt P fs.toList 0 d G) : Opens P t d G := by
  intro H enc w fuel cs x ps hx hw
  obtain ⟨xs, n, _, he, hl, hxl, hf⟩ := DataW.trod_struct ht hx
  obtain ⟨rfl, _⟩ := Prod.mk.inj he
  have hw' : ∀ m ∈ DataW.weightsEach P (fs.toList.map (·.type)) (xs.map (·.1)), m ≤ reachBytes := fun m hm => hw m (by simp only [DataW.weights, ht]; exact hm)
  obtain ⟨y, k, g⟩ := h H enc w n cs xs (by omega) (by simpa using hxl) (fun i f hi => hf i f (by simpa using hi)) hw'
  exact ⟨y, by simpa using k, g⟩

theorem weightsAll_mem {H : Type} {P : Program} {e : TypeId} {d : DataW H} {m : Nat} (hm : m ∈ d.weights P e) : ∀ {l : List (DataW H)}, d ∈ l → m ∈ DataW.weightsAll P e l
  | x :: r, hd => by
    rcases List.mem_cons.1 hd with rfl | hd
    · simp only [DataW.weightsAll]
      exact List.mem_append_left _ hm
    · simp only [DataW.weightsAll]
      exact List.mem_append_right _ (weightsAll_mem hm hd)

theorem opens_slice {α : Type} {P : Program} {t e : TypeId} {d : Kd α} {G : α → Prop} {B : Nat} (z : α) (ht : P.underlying t = some (.slice e)) (hs : P.cellsOf e = d.sz) (hB : P.bytesOf e = B) (h : Opens P e d G) :
    Opens P t (Kd.slice e d) (fun xs => (xs.length ≤ maxLen ∧ xs.length * B ≤ 140737488351232) ∧ ∀ y ∈ xs, G y) := by
  intro H enc w fuel cs x ps hx hw
  rcases open_slice ht hx with ⟨rfl, _⟩ | ⟨a, len, cap, m, n, D, Pl, rfl, _, hl, hm, hmc, he, hel⟩
  · refine ⟨[], ⟨none, 0, rfl, Nat.le_refl _, rfl, by simp, fun h0 => absurd h0 (by simp)⟩, ⟨by simp [maxLen], by simp⟩, by simp⟩
  · obtain ⟨rfl, _⟩ := Prod.mk.inj he
    have hmc' : m = cap := by simpa using hmc
    subst hmc'
    have hone : ∀ i, i < len → ∃ y : α, G y ∧ ∃ c, c.length = d.sz ∧ d.K w y c ∧ ∀ j u, c[j]? = some u → w.cell? (a.add (i * d.sz + j)) = some u := by
      intro i hi
      obtain ⟨c, hc, htr⟩ := hel i (by omega)
      obtain ⟨_, hcl, hcc⟩ := World.cells?_some hc
      obtain ⟨y, k, g⟩ := h H enc w n c (D i) (Pl i) htr (fun q hq => hw q (by
        simp only [DataW.weights, ht]
        refine List.mem_cons_of_mem _ (List.mem_append_left _ (weightsAll_mem hq (List.mem_map.2 ⟨i, List.mem_range.2 hi, rfl⟩)))))
      refine ⟨y, g, c, by rw [hcl, hs], k, fun j u hu => ?_⟩
      have hj : j < P.cellsOf e := by
        have := (List.getElem?_eq_some_iff.1 hu).1
        omega
      have := hcc j hj
      rw [Go.Deep.add_add, hs] at this
      rw [this]
      exact hu
    have : Inhabited α := ⟨z⟩
    obtain ⟨f, hf⟩ := choose_lt hone
    have hml : maxLen = 9223372036854775807 := rfl
    refine ⟨(List.range len).map f, ⟨some a, m, by simp, by simpa using hl, by simp, by rw [List.length_map, List.length_range]; omega, fun _ => ⟨a, rfl, fun j p hj => ?_⟩⟩, ⟨by simp; omega, ?_⟩, ?_⟩
    · obtain ⟨hj1, hj2⟩ := List.getElem?_eq_some_iff.1 hj
      have hj3 : j < len := by simpa using hj1
      have : p = f j := by rw [← hj2]; simp
      subst this
      obtain ⟨_, c, h1, h2, h3⟩ := hf j hj3
      exact ⟨c, h1, h2, h3⟩
    · have h1 := hw _ (by
        simp only [DataW.weights, ht]
        exact List.mem_cons_self)
      rw [hB] at h1
      simp only [List.length_map, List.length_range] at h1 ⊢
      have h2 : len * B ≤ (len + (m - len)) * B := Nat.mul_le_mul_right _ (by omega)
      have h3 : reachBytes = 140737488351232 := rfl
      omega
    · intro y hy
      obtain ⟨j, hj, rfl⟩ := List.mem_map.1 hy
      exact (hf j (List.mem_range.1 hj)).1

/-- At an argument's place of a row: the weights' bound is the row's. -/
theorem opens_arg {α : Type} {H : Type} {enc : TypeId × Value → H} {P : Program} {w : World} {t : TypeId} {d : Kd α} {G : α → Prop} (h : Opens P t d G) {v : Value} {x : DataW H} {ps : List MemPlace} {ts : List TypeId} {ds : List (DataW H)} {j : Nat}
    (hsz : (DataW.weightsEach P ts ds).all (· ≤ reachBytes) = true) (ht : ts[j]? = some t) (hd : ds[j]? = some x) (hx : DataW.Trod enc P w 0 (fun _ => true) true t v x ps) : ∃ y, d.K w y v.cells.toList ∧ G y := by
  obtain ⟨fuel, hf⟩ := hx
  refine h H enc w fuel _ x ps hf (fun n hn => ?_)
  have := List.all_eq_true.1 hsz n (DataW.weights_mem_each ht hd n hn)
  simpa using this

/-- What a number's kind says of it. -/
theorem wf_i64 {x : Int} (h : (Lit.int .i64 x).wf = true) : -9223372036854775808 ≤ x ∧ x ≤ 9223372036854775807 := by
  simp [Lit.wf, IntKind.min, IntKind.max, IntKind.bits, IntKind.signed] at h
  omega
theorem wf_u64 {x : Int} (h : (Lit.int .u64 x).wf = true) : 0 ≤ x ∧ x ≤ 18446744073709551615 := by
  simp [Lit.wf, IntKind.min, IntKind.max, IntKind.bits, IntKind.signed] at h
  omega
theorem wf_u32 {x : Int} (h : (Lit.int .u32 x).wf = true) : 0 ≤ x ∧ x ≤ 4294967295 := by
  simp [Lit.wf, IntKind.min, IntKind.max, IntKind.bits, IntKind.signed] at h
  omega
theorem wf_u16 {x : Int} (h : (Lit.int .u16 x).wf = true) : 0 ≤ x ∧ x ≤ 65535 := by
  simp [Lit.wf, IntKind.min, IntKind.max, IntKind.bits, IntKind.signed] at h
  omega
theorem wf_u8 {x : Int} (h : (Lit.int .u8 x).wf = true) : 0 ≤ x ∧ x ≤ 255 := by
  simp [Lit.wf, IntKind.min, IntKind.max, IntKind.bits, IntKind.signed] at h
  omega
end Go.Proofs.Ytkbfijkohngjjaa.Kin
