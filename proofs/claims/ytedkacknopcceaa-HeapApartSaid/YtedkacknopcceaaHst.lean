/- A heap of strings: New, Len, Top, Push. Conditions: each theorem's own. -/
import Derived.Test.YtedkacknopcceaaHat
import Derived.Test.YtedkacknopcceaaQHeapx0
import Derived.Test.YtedkacknopcceaaMp
import Derived.Test.YtedkacknopcceaaEf
import Derived.StillTailTactics
import Derived.Outline
import Derived.Says
import Derived.Test.YtedkacknopcceaaQHeapx4
import Derived.Carry
import Derived.Deep.RegionLaw
set_option linter.unusedVariables false
set_option linter.unusedSimpArgs false
namespace Go.Proofs.Ytedkacknopcceaa.QHeap.Str
open Go.RowKit Go.Proofs.Ytedkacknopcceaa.Ef Go.Proofs.Ytedkacknopcceaa.Mp Go.Proofs.Ytedkacknopcceaa.Hp Go.Proofs.YtedkacknopcceaaW.PrintWords Go.Proofs.YtedkacknopcceaaW.PrintLast Go.Proofs.YtedkacknopcceaaW.PrintMore

abbrev NI := Nd ByteArray
theorem infoN : (Try.prog.info? 78).map (fun i => (i.zero, i.size, i.bytes)) = some (some (.agg #[(.int .u64 0), (.int .i64 0), (.string ByteArray.empty)]), 3, 32) := by kernel_rfl
def kN : Kd NI := Kd.iso (Kd.pair (Kd.int .u64) (Kd.pair (Kd.int .i64) Kd.string)) (fun x : NI => (x.when, x.num, x.val))
theorem kN_open {w : World} {x : NI} {cs : List Value} (h : kN.K w x cs) : cs = [.int .u64 x.when, .int .i64 x.num, .string x.val] := by
  obtain ⟨_, _, rfl, rfl, ⟨_, _, rfl, rfl, rfl⟩⟩ := h
  exact rfl
theorem kN_mk (w : World) (x : NI) : kN.K w x [.int .u64 x.when, .int .i64 x.num, .string x.val] := ⟨[.int .u64 x.when], [.int .i64 x.num, .string x.val], rfl, rfl, ⟨[.int .i64 x.num], [.string x.val], rfl, rfl, rfl⟩⟩
theorem kN_mkM (w : World) (base : Nat) (ok : Nat → Prop) (x : NI) : kN.M w base ok x [.int .u64 x.when, .int .i64 x.num, .string x.val] := ⟨[.int .u64 x.when], [.int .i64 x.num, .string x.val], rfl, rfl, ⟨[.int .i64 x.num], [.string x.val], rfl, rfl, rfl⟩⟩
theorem kN_openM {w : World} {base : Nat} {ok : Nat → Prop} {x : NI} {cs : List Value} (h : kN.M w base ok x cs) : cs = [.int .u64 x.when, .int .i64 x.num, .string x.val] := by
  obtain ⟨_, _, rfl, rfl, ⟨_, _, rfl, rfl, rfl⟩⟩ := h
  exact rfl
theorem at_N {w : World} {A : Option Addr} {n : Nat} {xs : List NI} (h : Kd.C kN w A n xs) (i : Int) (h0 : 0 ≤ i) (h1 : i < n) : ∃ ad , A = some ad ∧ w.cell? (ad.add (i.toNat * 3)) = some (.int .u64 (nd xs i.toNat).when) ∧ w.cell? ⟨(ad.add (i.toNat * 3)).block, (ad.add (i.toNat * 3)).off + 1, none⟩ = some (.int .i64 (nd xs i.toNat).num) ∧ w.cell? ⟨(ad.add (i.toNat * 3)).block, (ad.add (i.toNat * 3)).off + 2, none⟩ = some (.string (nd xs i.toNat).val) := by
  obtain ⟨ad, c, e, _, hK, hc0⟩ := Kd.C_get h default i h0 h1
  have hc : ∀ j u, c[j]? = some u → w.cell? (ad.add (i.toNat * 3 + j)) = some u := hc0
  obtain rfl := kN_open hK
  exact ⟨ad, e, hc 0 _ rfl, by rw [← add_field _ _ 1 (by omega)]; exact hc 1 _ rfl, by rw [← add_field _ _ 2 (by omega)]; exact hc 2 _ rfl⟩

/-- The cells of a node in a row of one's own. -/
theorem at_row {w : World} {e base g n cap : Nat} {ok : Nat → Prop} {xs : List NI} (h : kN.R e w base ok (.slice (some ⟨g, 0, none⟩) n cap) xs) (i : Nat) (hi : i < n) :
    w.cell? ⟨g, i * 3, none⟩ = some (.int .u64 (nd xs i).when) ∧ w.cell? ⟨g, i * 3 + 1, none⟩ = some (.int .i64 (nd xs i).num) ∧ w.cell? ⟨g, i * 3 + 2, none⟩ = some (.string (nd xs i).val) := by
  obtain ⟨c, hcl, hM, hc0, _⟩ := Kd.R_elem h default (i : Int) (Int.natCast_nonneg i) (by omega)
  obtain rfl := kN_openM hM
  rw [Int.toNat_natCast] at hc0
  exact ⟨hc0 0 _ rfl, hc0 1 _ rfl, hc0 2 _ rfl⟩

abbrev cN (n : NI) : Array Value := #[.int .u64 n.when, .int .i64 n.num, .string n.val]
def kv (p : Int × Int) : Int × Value := (p.1, .int .i64 p.2)
theorem look_snd (k : Int) : ∀ (l : List (Int × Value)) (i j : Nat), (Mp.look k l i).map (·.2) = (Mp.look k l j).map (·.2) := by
  intro l
  induction l with
  | nil => intro i j; rfl
  | cons p r ih =>
    intro i j
    obtain ⟨a, v⟩ := p
    unfold Mp.look
    by_cases e : a = k
    · rw [if_pos e, if_pos e]; rfl
    · rw [if_neg e, if_neg e]; exact ih _ _
theorem get_cons (k a : Int) (v : Value) (r : List (Int × Value)) : Mp.get k ((a, v) :: r) = if a = k then some v else Mp.get k r := by
  show (Mp.look k ((a, v) :: r) 0).map (·.2) = if a = k then some v else (Mp.look k r 0).map (·.2)
  rw [Mp.look]
  by_cases e : a = k
  · rw [if_pos e, if_pos e]; rfl
  · rw [if_neg e, if_neg e]; exact look_snd k r 1 0
theorem get_kv (k : Int) : ∀ l : List (Int × Int), Mp.get k (l.map kv) = (getI k l).map (Value.int .i64) := by
  intro l
  induction l with
  | nil => rfl
  | cons p r ih =>
    obtain ⟨a, u⟩ := p
    rw [List.map_cons, show kv (a, u) = (a, .int .i64 u) from rfl, get_cons]
    unfold getI
    by_cases e : a = k
    · rw [if_pos e, if_pos e]; rfl
    · rw [if_neg e, if_neg e]; exact ih
theorem ins_kv (k v : Int) : ∀ l : List (Int × Int), ins k (.int .i64 v) (l.map kv) = (insI k v l).map kv := by
  intro l
  induction l with
  | nil => rfl
  | cons p r ih =>
    obtain ⟨a, u⟩ := p
    rw [List.map_cons, show kv (a, u) = (a, .int .i64 u) from rfl]
    unfold ins insI
    by_cases e : a = k
    · rw [if_pos e, if_pos e]; rfl
    · rw [if_neg e, if_neg e, ih]; rfl
theorem del_kv (k : Int) : ∀ l : List (Int × Int), del k (l.map kv) = (delI k l).map kv := by
  intro l
  induction l with
  | nil => rfl
  | cons p r ih =>
    obtain ⟨a, u⟩ := p
    rw [List.map_cons, show kv (a, u) = (a, .int .i64 u) from rfl]
    unfold del delI
    by_cases e : a = k
    · rw [if_pos e, if_pos e]
    · rw [if_neg e, if_neg e, ih]; rfl
theorem keyI : KeyOk Try.prog 3 (Value.int .i64) := int_key Try.underlying3
theorem zero3 (w : World) : (zeroValue 3).run Try.prog w = .ok (.int .i64 0) w := by kernel_rfl
abbrev cH (v : Value) (mb : Nat) (next : Int) : Array Value := #[v, .map (some mb), .int .i64 next]
/-- A heap in memory: at block p its cells, in block mb its map, its row is v; all its blocks are ok ones. -/
structure HeapAt (w : World) (base p mb : Nat) (v : Value) (ok : Nat → Prop) (l : List NI) (m : List (Int × Int)) (next : Int) : Prop where
  blk : w.heap[p]? = some (.cells #[v, .map (some mb), .int .i64 next] 76 (0, 0))
  row : kN.R 78 w base (fun k => ok k ∧ k ≠ p ∧ k ≠ mb) v l
  map : MapOf (Value.int .i64) w mb (m.map kv)
  ne : p ≠ mb
  okp : ok p
  okm : ok mb
  bp : base ≤ p
  bm : base ≤ mb
  bound : ∀ k, ok k → k < w.heap.size
  low : ∀ k, ok k → base ≤ k
theorem HeapAt.kept {w w' : World} {base p mb : Nat} {v : Value} {ok S : Nat → Prop} {l : List NI} {m : List (Int × Int)} {next : Int} (h : HeapAt w base p mb v ok l m next) (hk : Kept w w' S) (hS : ∀ k, ok k → ¬ S k) : HeapAt w' base p mb v ok l m next :=
  ⟨blk_kept h.blk hk (hS _ h.okp), Kd.R_kept h.row hk (fun k hk => hS k hk.1), h.map.kept (hk.2 mb (h.bound _ h.okm) (hS _ h.okm)), h.ne, h.okp, h.okm, h.bp, h.bm, fun k q => Nat.lt_of_lt_of_le (h.bound k q) hk.1, h.low⟩
theorem HeapAt.below {w w' : World} {base p mb : Nat} {v : Value} {ok : Nat → Prop} {l : List NI} {m : List (Int × Int)} {next : Int} (h : HeapAt w base p mb v ok l m next) (hk : Below w.heap.size w w') : HeapAt w' base p mb v ok l m next :=
  h.kept (Kept.of_below hk (fun _ => False)) (fun _ _ => id)
theorem HeapAt.drew {w : World} {base p mb : Nat} {v : Value} {ok : Nat → Prop} {l : List NI} {m : List (Int × Int)} {next : Int} (h : HeapAt w base p mb v ok l m next) : HeapAt w.drew base p mb v ok l m next := h.below (below_drew (Below.refl _ _))
theorem HeapAt.drewN {w : World} {base p mb : Nat} {v : Value} {ok : Nat → Prop} {l : List NI} {m : List (Int × Int)} {next : Int} (h : HeapAt w base p mb v ok l m next) (n : Nat) : HeapAt (w.drewN n) base p mb v ok l m next := h.below (pw_below_drewN (Below.refl _ _) _)
theorem HeapAt.le {w : World} {base p mb : Nat} {v : Value} {ok : Nat → Prop} {l : List NI} {m : List (Int × Int)} {next : Int} (h : HeapAt w base p mb v ok l m next) : base ≤ w.heap.size := Nat.le_of_lt (Nat.lt_of_le_of_lt h.bp (h.bound _ h.okp))
theorem HeapAt.grown {w w' : World} {base p mb g : Nat} {v : Value} {ok : Nat → Prop} {l : List NI} {m : List (Int × Int)} {next : Int} (h : HeapAt w base p mb v ok l m next) (hg : w.grownBy w' (some g)) (hne : ¬ ok g) : HeapAt w' base p mb v ok l m next :=
  h.kept (S := fun k => k = g) ⟨hg.size, fun i hi hn => hg.block i hi (fun e => hn (by cases e; rfl))⟩ (fun k hk e => hne (by rw [← e]; exact hk))
theorem HeapAt.new {w : World} {base p mb : Nat} {v : Value} {ok : Nat → Prop} {l : List NI} {m : List (Int × Int)} {next : Int} (h : HeapAt w base p mb v ok l m next) {k : Nat} (hk : w.heap.size ≤ k) : ¬ ok k := fun q => by have := h.bound k q; omega
/-- Its row has been written. -/
theorem HeapAt.stored {w w' : World} {base p mb g n cap : Nat} {ok : Nat → Prop} {l l' : List NI} {m : List (Int × Int)} {next : Int} (h : HeapAt w base p mb (.slice (some ⟨g, 0, none⟩) n cap) ok l m next)
    (hr : kN.R 78 w' base (fun k => ok k ∧ k ≠ p ∧ k ≠ mb) (.slice (some ⟨g, 0, none⟩) n cap) l') (hg : w.grownBy w' (some g)) (hok : ok g ∧ g ≠ p ∧ g ≠ mb) : HeapAt w' base p mb (.slice (some ⟨g, 0, none⟩) n cap) ok l' m next :=
  ⟨(hg.block p (h.bound _ h.okp) (by intro e; cases e; exact hok.2.1 rfl)).trans h.blk, hr, h.map.grown hg (by intro e; cases e; exact hok.2.2 rfl), h.ne, h.okp, h.okm, h.bp, h.bm, fun k q => Nat.lt_of_lt_of_le (h.bound k q) hg.size, h.low⟩
/-- Its own cells have been written. -/
theorem HeapAt.celled {w w' : World} {base p mb : Nat} {v : Value} {ok : Nat → Prop} {l : List NI} {m : List (Int × Int)} {next next' : Int} (h : HeapAt w base p mb v ok l m next)
    (hb : w'.heap[p]? = some (.cells #[v, .map (some mb), .int .i64 next'] 76 (0, 0))) (hg : w.grownBy w' (some p)) : HeapAt w' base p mb v ok l m next' :=
  ⟨hb, Kd.R_grown h.row hg (fun k hk e => by cases e; exact hk.2.1 rfl), h.map.grown hg (by intro e; cases e; exact h.ne rfl), h.ne, h.okp, h.okm, h.bp, h.bm, fun k q => Nat.lt_of_lt_of_le (h.bound k q) hg.size, h.low⟩
/-- Its row has been cut. -/
theorem HeapAt.cut {w w' : World} {base p mb n n' cap : Nat} {A : Option Addr} {ok : Nat → Prop} {l : List NI} {m : List (Int × Int)} {next : Int} (h : HeapAt w base p mb (.slice A n cap) ok l m next) (hn : n' ≤ l.length)
    (hb : w'.heap[p]? = some (.cells #[.slice A n' cap, .map (some mb), .int .i64 next] 76 (0, 0))) (hg : w.grownBy w' (some p)) : HeapAt w' base p mb (.slice A n' cap) ok (l.take n') m next :=
  ⟨hb, Kd.R_grown (Kd.R_take h.row hn) hg (fun k hk e => by cases e; exact hk.2.1 rfl), h.map.grown hg (by intro e; cases e; exact h.ne rfl), h.ne, h.okp, h.okm, h.bp, h.bm, fun k q => Nat.lt_of_lt_of_le (h.bound k q) hg.size, h.low⟩
/-- Its map has been written. -/
theorem HeapAt.mapped {w w' : World} {base p mb : Nat} {v : Value} {ok : Nat → Prop} {l : List NI} {m m' : List (Int × Int)} {next : Int} (h : HeapAt w base p mb v ok l m next)
    (hm : MapOf (Value.int .i64) w' mb (m'.map kv)) (hg : w.grownBy w' (some mb)) : HeapAt w' base p mb v ok l m' next :=
  ⟨(hg.block p (h.bound _ h.okp) (by intro e; cases e; exact h.ne rfl)).trans h.blk, Kd.R_grown h.row hg (fun k hk e => by cases e; exact hk.2.2 rfl), hm, h.ne, h.okp, h.okm, h.bp, h.bm, fun k q => Nat.lt_of_lt_of_le (h.bound k q) hg.size, h.low⟩
set_option maxHeartbeats 1000000 in
set_option maxRecDepth 100000 in
theorem set_calls (base p mb : Nat) (v : Value) (ok : Nat → Prop) (l : List NI) (m : List (Int × Int)) (next : Int) (i : Int) (n : NI) (w : World) (H : HeapAt w base p mb v ok l m next) (h0 : 0 ≤ i) (h1 : i < l.length) :
    Calls Try.prog 42 #[.pointer (some ⟨p, 0, none⟩), .int .i64 i, .agg #[.int .u64 n.when, .int .i64 n.num, .string n.val]] w fun e w' => e = .returned (.tuple #[]) ∧ HeapAt w' base p mb v ok (l.set i.toNat n) (insI n.num i m) next ∧ Fr base ok w w' := by
  have HH := Aside0.mk H
  have HP := Aside0.mk H.ne
  obtain ⟨g, cap, rfl, hbg, hgl, cells0, hg0⟩ := Kd.R_form H.row (by omega)
  have HG := Aside0.mk hg0
  have hok := H.row.1 g (by simp [Value.ownBlock])
  have HOK := Aside0.mk hok
  clear H hok hg0
  go_enter Try.func42, Try.ntmps42
  go_wp2_with (first
    | ((with_reducible refine gate_dst (N := 5) rfl ?_); refine box_event ?hg (N := 5) ?hd (cs := #[.int .u64 n.when, .int .i64 n.num, .string n.val]) (t := 78) ?hr ?_; (case hd => rfl); (case hg => rfl); (case hr => first | (go_simp; done) | (go_simp; rfl)); intro gp hgp w2 hbox hb; have HB1 := Aside0.mk hb; have BK1 := Aside0.mk hbox; have HNG : Aside0 (g ≠ gp) := ⟨by have := HH.out.bound g HOK.out.1; omega⟩; clear hb hbox hgp))
  have hl := (Kd.R_reads' HH.out.row).2.2.2.1
  have hp0 : w2.cell? ⟨p, 0, none⟩ = some (.slice (some ⟨g, 0, none⟩) l.length cap) := (blk_cell (blk_below HH.out.blk HB1.out) 0).trans rfl
  have hb0 : w2.cell? ⟨gp, 0, none⟩ = some (.int .u64 n.when) := (blk_cell BK1.out 0).trans rfl
  have hb1 : w2.cell? ⟨gp, 1, none⟩ = some (.int .i64 n.num) := (blk_cell BK1.out 1).trans rfl
  have hb2 : w2.cell? ⟨gp, 2, none⟩ = some (.string n.val) := (blk_cell BK1.out 2).trans rfl
  go_still_tail 7, (by kernel_rfl)
  change wpList _ _ _ _ _ w2.drew
  have HF2 := Aside0.mk ((Fr.refl HH.out.le HH.out.low).below (below_drew HB1.out))
  have HB2 := Aside0.mk (below_drew HB1.out)
  have BK2 : Aside0 (w2.drew.heap[gp]? = some (.cells #[.int .u64 n.when, .int .i64 n.num, .string n.val] 78 (0, 0))) := ⟨BK1.out⟩
  have HA2 := Aside0.mk (HH.out.below HB2.out)
  generalize w2.drew = w3 at *
  clear hp0 hb0 hb1 hb2 BK1 HB1
  obtain ⟨c, hcl, hcM, hcc, _⟩ := Kd.R_elem HA2.out.row default i h0 (by omega)
  refine Kd.R_store kN (w0 := w3) base rfl rfl 78 (.tmp 12) (.tmp 11) rfl 78 i 0 l n (.agg #[.int .u64 n.when, .int .i64 n.num, .string n.val]) [.int .u64 n.when, .int .i64 n.num, .string n.val] c _ (fun _ => False) rfl (by show _ = i.toNat * 3 + 0; omega) rfl rfl (by kernel_rfl) (by simp [Value.oneCell']) HA2.out.row h0 (by omega) hcl hcc (by show 0 + 3 ≤ 3; omega) (by have hc3 : c.length = 3 := hcl; rw [show c.take 0 ++ [.int .u64 n.when, .int .i64 n.num, .string n.val] ++ c.drop (0 + [Value.int .u64 n.when, .int .i64 n.num, .string n.val].length) = [.int .u64 n.when, .int .i64 n.num, .string n.val] from by simp [List.drop_of_length_le, hc3]]; exact kN_mkM _ _ _ _) (fun _ h => h.elim) (Below.refl _ _) ?_
  intro w4 hrow hb4 hg4
  have HA4 : Aside0 (HeapAt w4 base p mb (.slice (some ⟨g, 0, none⟩) l.length cap) ok (l.set i.toNat n) m next) := ⟨HA2.out.stored hrow hg4 HOK.out⟩
  have BK4 := Aside0.mk (show w4.heap[gp]? = some _ from (hg4.block gp (blk_lt BK2.out) (by intro e; cases e; exact (HNG.out rfl))).trans BK2.out)
  have HF4 := Aside0.mk (HF2.out.grown hg4 (.inl HOK.out.1))
  clear hrow hb4 hg4 hcM hcc hcl BK2 HA2 HB2 HF2
  have hp0 : w4.cell? ⟨p, 1, none⟩ = some (.map (some mb)) := (blk_cell HA4.out.blk 1).trans rfl
  have hb1 : w4.cell? ⟨gp, 1, none⟩ = some (.int .i64 n.num) := (blk_cell BK4.out 1).trans rfl
  go_wp2
  go_still_tail 7, (by kernel_rfl)
  change wpList _ _ _ _ _ w4.drew
  have HA5 := Aside0.mk (HA4.out.drew)
  have HF5 := Aside0.mk (HF4.out.drew)
  generalize w4.drew = w5 at *
  clear hp0 hb1 BK4 HA4 HF4
  refine step_put keyI Try.underlying58 rfl rfl HA5.out.map n.num (.int .i64 i) rfl rfl (by rfl) ?_
  intro w6 hm6 hg6 hs6
  have HA6 : Aside0 (HeapAt w6 base p mb (.slice (some ⟨g, 0, none⟩) l.length cap) ok (l.set i.toNat n) (insI n.num i m) next) := ⟨HA5.out.mapped (by rw [← ins_kv]; exact hm6) hg6⟩
  have HF6 := Aside0.mk (HF5.out.grown hg6 (.inl HH.out.okm))
  clear hm6 hg6 hs6
  go_wp2
  go_end0
  exact ⟨rfl, HA6.out, HF6.out⟩
end Go.Proofs.Ytedkacknopcceaa.QHeap.Str

set_option linter.unusedVariables false
set_option linter.unusedSimpArgs false
namespace Go.Proofs.Ytedkacknopcceaa.QHeap.Str
open Go.RowKit Go.Proofs.Ytedkacknopcceaa.Ef Go.Proofs.Ytedkacknopcceaa.Mp Go.Proofs.Ytedkacknopcceaa.Hp Go.Proofs.YtedkacknopcceaaW.PrintWords Go.Proofs.YtedkacknopcceaaW.PrintLast Go.Proofs.YtedkacknopcceaaW.PrintMore

theorem ahead_calls (a b : NI) (r : Bool) (w : World) (h : Hp.ahead a b = r) :
    Calls Try.prog 41 #[.agg #[.int .u64 a.when, .int .i64 a.num, .string a.val], .agg #[.int .u64 b.when, .int .i64 b.num, .string b.val]] w fun e w' => e = .returned (.bool r) ∧ Below w.heap.size w w' := by
  refine heap_node_string_ahead.calls a.when a.num a.val b.when b.num b.val r w ?_
  rw [← h]
  unfold heap_node_string_ahead.f Hp.ahead
  by_cases h1 : a.when < b.when
  · rw [if_pos h1]; simp [h1]
  · rw [if_neg h1]
    by_cases h2 : a.when = b.when
    · rw [if_pos h2]; simp [h2]
    · rw [if_neg h2]; simp [h1, h2]

theorem par_cast {i : Nat} (h : 0 < i) : ((i : Int) - 1) / 4 = (par i : Int) := by unfold par; omega

set_option maxHeartbeats 1000000 in
set_option maxRecDepth 100000 in
theorem up_calls (base p mb : Nat) (v : Value) (ok : Nat → Prop) (l : List NI) (m : List (Int × Int)) (next : Int) (i : Nat) (w : World) (H : HeapAt w base p mb v ok l m next) (h1 : i < l.length) :
    Calls Try.prog 31 #[.pointer (some ⟨p, 0, none⟩), .int .i64 (i : Int)] w fun e w' => e = .returned (.tuple #[]) ∧ HeapAt w' base p mb v ok (upA l m i).1 (upA l m i).2 next ∧ Fr base ok w w' := by
  have HH := Aside0.mk H
  obtain ⟨g, cap, rfl, hbg, hgl, cells0, hg0⟩ := Kd.R_form H.row (by omega)
  have hlen := (Kd.R_reads' HH.out.row).2.2.2.1
  have hi1 : (i : Int) < (l.length : Int) := by omega
  obtain ⟨hx0, hx1, hx2⟩ := at_row H.row i h1
  have hp0 : w.cell? ⟨p, 0, none⟩ = some (.slice (some ⟨g, 0, none⟩) l.length cap) := (blk_cell H.blk 0).trans rfl
  have HF := Aside0.mk (Fr.refl H.le H.low)
  clear H hg0
  go_enter Try.func31, Try.ntmps31
  go_wp2_with (first
    | ((with_reducible refine gate_dst (N := 4) rfl ?_); refine box_event ?hg (N := 4) ?hd (cs := #[.int .u64 0, .int .i64 0, .string ByteArray.empty]) (t := 78) ?hr ?_; (case hd => rfl); (case hg => rfl); (case hr => first | (go_simp; done) | (go_simp; rfl)); intro gn hgn w2 hbox hb; have HFa := Aside0.mk (HF.out.below hb); have HAa := Aside0.mk (HH.out.below hb); have BK1 := Aside0.mk hbox; have HN := Aside0.mk (show w.heap.size ≤ gn by omega); clear hb hbox hgn hx0 hx1 hx2 hp0)
    | ((with_reducible refine gate_store (t := 78) (p := 4) (v := .tmp 12) rfl ?_); go_loud (refine step_store rfl rfl rfl BK1.out rfl (u := .agg (cN (nd l i))) (seg := (cN (nd l i)).toList) rfl rfl (by kernel_rfl) (by simp [Value.oneCell']) (Nat.le_refl 3) (cur' := cN (nd l i)) rfl ?_); intro w3 hb3 hg3 hs3; have HF1 := Aside0.mk (HFa.out.grown hg3 (.inr HN.out)); have BK := Aside0.mk hb3; have HA := Aside0.mk (HAa.out.grown hg3 (HH.out.new HN.out)); clear hb3 hg3 hs3 BK1 HFa HAa))
  simp only [Act.put, List.setIfInBounds_toArray, List.set_cons_succ, List.set_cons_zero]
  go_loopw [1] (fun v1 wr => ∃ (j k : Nat) (l1 : List NI) (m1 : List (Int × Int)), v1 = .int .i64 (j : Int) ∧ Aside0 (j ≤ k ∧ j < l1.length ∧ l1.length = l.length) ∧ Aside0 (upF k l1 m1 j (nd l i) = upF i l m i (nd l i)) ∧ Aside0 (HeapAt wr base p mb (.slice (some ⟨g, 0, none⟩) l.length cap) ok l1 m1 next) ∧ Aside0 (Fr base ok w wr) ∧ Aside0 (wr.heap[gn]? = some (.cells (cN (nd l i)) 78 (0, 0)))) (fun v1 _ => (intOf v1).toNat)
  case atStart => exact ⟨i, i, l, m, rfl, ⟨Nat.le_refl _, h1, rfl⟩, ⟨rfl⟩, HA, HF1, BK⟩
  case round =>
    clear HF1 BK HF HA
    obtain ⟨j, k, l1, m1, rfl, HJ, HU, HA, HF, BK⟩ := hrel
    have hj := HJ.out.2.1
    have hl1 := HJ.out.2.2
    have hn0 : wr.cell? ⟨gn, 0, none⟩ = some (.int .u64 (nd l i).when) := (blk_cell BK.out 0).trans rfl
    have hn1 : wr.cell? ⟨gn, 1, none⟩ = some (.int .i64 (nd l i).num) := (blk_cell BK.out 1).trans rfl
    have hn2 : wr.cell? ⟨gn, 2, none⟩ = some (.string (nd l i).val) := (blk_cell BK.out 2).trans rfl
    by_cases h0 : j = 0
    · subst h0
      have HE : Aside0 ((l1, m1, 0) = upF i l m i (nd l i)) := ⟨by rw [← HU.out]; cases k <;> rfl⟩
      go_wp2_with fail
      refine (set_calls base p mb _ ok l1 m1 next (0 : Nat) (nd l i) _ HA.out (by omega) (by omega)).mono ?_
      rintro e w4 ⟨rfl, hA, hF⟩
      go_wp2
      go_end0
      refine ⟨rfl, ?_, HF.out.then_ hF (Nat.le_refl _) (fun k q => .inl q)⟩
      unfold upA put
      rw [← HE.out]
      exact hA
    · have h0' : (0 : Int) < (j : Int) := by omega
      have hpj := par_lt (i := j) (by omega)
      have hp0 : wr.cell? ⟨p, 0, none⟩ = some (.slice (some ⟨g, 0, none⟩) l.length cap) := (blk_cell HA.out.blk 0).trans rfl
      obtain ⟨y0, y1, y2⟩ := at_row HA.out.row (par j) (by omega)
      obtain ⟨x, HX⟩ : ∃ x, Aside0 (nd l1 (par j) = x) := ⟨_, ⟨rfl⟩⟩
      rw [HX.out] at y0 y1 y2
      have HPJ : Aside0 (((j : Int) - 1) / 4 = (par j : Int)) := ⟨par_cast (by omega)⟩
      have q1 : (0 : Int) ≤ ((j : Int) - 1) / 4 := by omega
      have q2 : ((j : Int) - 1) / 4 < (l.length : Int) := by have := HPJ.out; omega
      have HPT : Aside0 ((((j : Int) - 1) / 4).toNat = par j) := ⟨by rw [HPJ.out]; rfl⟩
      rw [← HPT.out] at y0 y1 y2
      by_cases ha : Hp.ahead (nd l i) x = true
      all_goals
        have HAh := Aside0.mk ha
        clear ha
      · go_wp2_with fail
        go_still_tail 8, (by kernel_rfl)
        change wpList _ _ _ _ _ wr.drew
        have HA1 := Aside0.mk HA.out.drew
        have HF1 := Aside0.mk HF.out.drew
        have BK1 : Aside0 (wr.drew.heap[gn]? = some (.cells (cN (nd l i)) 78 (0, 0))) := ⟨BK.out⟩
        generalize wr.drew = w3 at *
        clear hp0 hn0 hn1 hn2 y0 y1 y2 HA HF BK
        go_wp2_with (first
          | (go_at_call 41; (refine (ahead_calls (nd l i) x true _ HAh.out).mono ?_); rintro e w5 ⟨rfl, hb⟩; have HA2 := Aside0.mk (HA1.out.below hb); have HF2 := Aside0.mk (HF1.out.below hb); have BK2 := Aside0.mk (blk_below BK1.out hb); clear hb HA1 HF1 BK1; have hp0 : w5.cell? ⟨p, 0, none⟩ = some (.slice (some ⟨g, 0, none⟩) l.length cap) := (blk_cell HA2.out.blk 0).trans rfl; obtain ⟨y0, y1, y2⟩ := at_row HA2.out.row (par j) (by omega); rw [HX.out] at y0 y1 y2; unfold par at y0 y1 y2)
          | (go_at_call 42; (refine (set_calls base p mb _ ok l1 m1 next (j : Int) x _ HA2.out (by omega) (by omega)).mono ?_); rintro e w6 ⟨rfl, hA, hF⟩; have HA3 := Aside0.mk hA; have HF3 := Aside0.mk (HF2.out.then_ hF (Nat.le_refl _) (fun k q => .inl q)); have BK3 := Aside0.mk (hF.blk BK2.out (HH.out.new HN.out)); clear hA hF hp0 y0 y1 y2 HA2 HF2 BK2))
        go_roundw
        case rel =>
          refine ⟨par j, k - 1, l1.set j x, insI x.num j m1, by rw [HPJ.out], ⟨by have := HJ.out; omega, by rw [List.length_set]; omega, by rw [List.length_set]; exact hl1⟩, ⟨?_⟩, ⟨by have := HA3.out; rw [Int.toNat_natCast] at this; exact this⟩, HF3, BK3⟩
          obtain ⟨k', rfl⟩ : ∃ k', k = k' + 1 := ⟨k - 1, by have := HJ.out; omega⟩
          have hu := HU.out
          rw [upF, if_neg h0, HX.out, if_pos HAh.out] at hu
          exact hu
        case measure => simp [intOf]; omega
      · have HAf : Aside0 (Hp.ahead (nd l i) x = false) := ⟨by simpa using HAh.out⟩
        have HE : Aside0 ((l1, m1, j) = upF i l m i (nd l i)) := ⟨by
          obtain ⟨k', rfl⟩ : ∃ k', k = k' + 1 := ⟨k - 1, by have := HJ.out; omega⟩
          have hu := HU.out
          rw [upF, if_neg h0, HX.out, if_neg HAh.out] at hu
          exact hu⟩
        clear HAh
        go_wp2_with fail
        go_still_tail 8, (by kernel_rfl)
        change wpList _ _ _ _ _ wr.drew
        have HA1 := Aside0.mk HA.out.drew
        have HF1 := Aside0.mk HF.out.drew
        have BK1 : Aside0 (wr.drew.heap[gn]? = some (.cells (cN (nd l i)) 78 (0, 0))) := ⟨BK.out⟩
        generalize wr.drew = w3 at *
        clear hp0 hn0 hn1 hn2 y0 y1 y2 HA HF BK
        go_wp2_with (first
          | (go_at_call 41; (refine (ahead_calls (nd l i) x false _ HAf.out).mono ?_); rintro e w5 ⟨rfl, hb⟩; have HA2 := Aside0.mk (HA1.out.below hb); have HF2 := Aside0.mk (HF1.out.below hb); have BK2 := Aside0.mk (blk_below BK1.out hb); clear hb HA1 HF1 BK1; have hn0 : w5.cell? ⟨gn, 0, none⟩ = some (.int .u64 (nd l i).when) := (blk_cell BK2.out 0).trans rfl; have hn1 : w5.cell? ⟨gn, 1, none⟩ = some (.int .i64 (nd l i).num) := (blk_cell BK2.out 1).trans rfl; have hn2 : w5.cell? ⟨gn, 2, none⟩ = some (.string (nd l i).val) := (blk_cell BK2.out 2).trans rfl)
          | (go_at_call 42; (refine (set_calls base p mb _ ok l1 m1 next (j : Int) (nd l i) _ HA2.out (by omega) (by omega)).mono ?_); rintro e w6 ⟨rfl, hA, hF⟩; have HA3 := Aside0.mk hA; have HF3 := Aside0.mk (HF2.out.then_ hF (Nat.le_refl _) (fun k q => .inl q)); clear hA hF hn0 hn1 hn2 HA2 HF2 BK2))
        go_end0
        refine ⟨rfl, ?_, HF3.out⟩
        unfold upA put
        rw [← HE.out]
        have := HA3.out
        rw [Int.toNat_natCast] at this
        exact this
theorem up_calls' (base p mb : Nat) (v : Value) (ok : Nat → Prop) (l : List NI) (m : List (Int × Int)) (next : Int) (i : Nat) (x : Int) (hx : x = (i : Int)) (w : World) (H : HeapAt w base p mb v ok l m next) (h1 : i < l.length) :
    Calls Try.prog 31 #[.pointer (some ⟨p, 0, none⟩), .int .i64 x] w fun e w' => e = .returned (.tuple #[]) ∧ HeapAt w' base p mb v ok (upA l m i).1 (upA l m i).2 next ∧ Fr base ok w w' := by
  subst hx; exact up_calls base p mb v ok l m next i w H h1
end Go.Proofs.Ytedkacknopcceaa.QHeap.Str

set_option linter.unusedVariables false
set_option linter.unusedSimpArgs false
namespace Go.Proofs.Ytedkacknopcceaa.QHeap.Str
open Go.RowKit Go.Proofs.Ytedkacknopcceaa.Ef Go.Proofs.Ytedkacknopcceaa.Mp Go.Proofs.Ytedkacknopcceaa.Hp Go.Proofs.YtedkacknopcceaaW.PrintWords Go.Proofs.YtedkacknopcceaaW.PrintLast Go.Proofs.YtedkacknopcceaaW.PrintMore

theorem HeapAt.lower {w : World} {base base' p mb : Nat} {v : Value} {ok : Nat → Prop} {l : List NI} {m : List (Int × Int)} {next : Int} (h : HeapAt w base p mb v ok l m next) (hb : base' ≤ base) : HeapAt w base' p mb v ok l m next :=
  ⟨h.blk, Kd.R_lower h.row hb, h.map, h.ne, h.okp, h.okm, Nat.le_trans hb h.bp, Nat.le_trans hb h.bm, h.bound, fun k q => Nat.le_trans hb (h.low k q)⟩
set_option maxHeartbeats 1000000 in
theorem new_calls (w : World) : Calls Try.prog 15 #[] w fun e w' => ∃ p mb, e = .returned (.pointer (some ⟨p, 0, none⟩)) ∧ HeapAt w' w.heap.size p mb (.slice none 0 0) (fun k => w.heap.size ≤ k ∧ k < w'.heap.size) [] [] 0 ∧ Below w.heap.size w w' := by
  have hmm := @run_makeMap Try.prog
  have hu58 := Try.underlying58
  have hu61 := Try.underlying76
  go_enter Try.func15, Try.ntmps15
  go_wp2
  go_ret
  have e1 : (w.alloc (.map #[] 0)).heap.size = w.heap.size + 1 := Array.size_push _
  have e2 : ((w.alloc (.map #[] 0)).alloc (.cells #[.slice none 0 0, .map (some w.heap.size), .int .i64 0] 76 (0, 0))).heap.size = w.heap.size + 1 + 1 := by rw [← e1]; exact Array.size_push _
  refine ⟨w.heap.size + 1, w.heap.size, rfl, ⟨?_, Kd.R_nil _ _ _ _ _, (MapOf.new w).alloc _, by omega, by rw [e2]; omega, by rw [e2]; omega, by omega, Nat.le_refl _, fun k q => q.2, fun k q => q.1⟩, below_alloc (below_alloc (Below.refl _ _) _) _⟩
  have := blk_new (w.alloc (.map #[] 0)) (.cells #[.slice none 0 0, .map (some w.heap.size), .int .i64 0] 76 (0, 0))
  rw [e1] at this
  exact this

set_option maxHeartbeats 1000000 in
theorem len_calls (base p mb : Nat) (v : Value) (ok : Nat → Prop) (l : List NI) (m : List (Int × Int)) (next : Int) (w : World) (H : HeapAt w base p mb v ok l m next) :
    Calls Try.prog 18 #[.pointer (some ⟨p, 0, none⟩)] w fun e w' => e = .returned (.int .i64 (l.length : Int)) ∧ w = w' := by
  have hu59 := Try.underlying74
  obtain ⟨A, c, rfl⟩ := Kd.R_slice H.row
  have hp0 : w.cell? ⟨p, 0, none⟩ = some (.slice A l.length c) := (blk_cell H.blk 0).trans rfl
  clear H
  go_enter Try.func18, Try.ntmps18
  go_wp2
  go_ret
  exact ⟨rfl, rfl⟩
set_option maxHeartbeats 1000000 in
theorem top_some (base p mb : Nat) (v : Value) (ok : Nat → Prop) (l : List NI) (m : List (Int × Int)) (next : Int) (w : World) (H : HeapAt w base p mb v ok l m next) (hl : 0 < l.length) :
    Calls Try.prog 17 #[.pointer (some ⟨p, 0, none⟩)] w fun e w' => e = .returned (.tuple #[.int .u64 (nd l 0).when, .int .i64 (nd l 0).num, .string (nd l 0).val, .int .i64 0]) ∧ Below w.heap.size w w' := by
  have HH := Aside0.mk H
  obtain ⟨g, cap, rfl, hbg, hgl, cells0, hg0⟩ := Kd.R_form H.row hl
  obtain ⟨hx0, hx1, hx2⟩ := at_row H.row 0 hl
  have hp0 : w.cell? ⟨p, 0, none⟩ = some (.slice (some ⟨g, 0, none⟩) l.length cap) := (blk_cell H.blk 0).trans rfl
  have hl0 : ((l.length : Int) == 0) = false := by simp; intro e; rw [e] at hl; exact absurd hl (by decide)
  have hl1 : (0 : Int) < (l.length : Int) := by omega
  simp only [Nat.zero_mul, Nat.zero_add] at hx0 hx1 hx2
  clear H hg0
  go_enter Try.func17, Try.ntmps17
  go_wp2_with (first
    | (go_at_call 18; (refine (len_calls base p mb _ ok _ m next _ HH.out).mono ?_); rintro e w1 ⟨rfl, rfl⟩)
    | ((with_reducible refine gate_dst (N := 6) rfl ?_); refine box_event ?hg (N := 6) ?hd (cs := #[.int .u64 0, .int .i64 0, .string ByteArray.empty]) (t := 78) ?hr ?_; (case hd => rfl); (case hg => rfl); (case hr => first | (go_simp; done) | (go_simp; rfl)); intro gn hgn w2 hbox hb; have HB1 := Aside0.mk hb; have BK1 := Aside0.mk hbox; have HN := Aside0.mk (show w.heap.size ≤ gn by omega); clear hb hbox hgn hx0 hx1 hx2 hp0)
    | ((with_reducible refine gate_store (t := 78) (p := 6) (v := .tmp 16) rfl ?_); refine step_store rfl rfl rfl BK1.out rfl (u := .agg (cN (nd l 0))) (seg := (cN (nd l 0)).toList) rfl rfl (by kernel_rfl) (by simp [Value.oneCell']) (Nat.le_refl 3) (cur' := cN (nd l 0)) rfl ?_; intro w3 hb3 hg3 hs3; have HB := Aside0.mk (below_mput HB1.out hg3 HN.out HB1.out.size); have hn0 : w3.cell? ⟨gn, 0, none⟩ = some (.int .u64 (nd l 0).when) := (blk_cell hb3 0).trans rfl; have hn1 : w3.cell? ⟨gn, 1, none⟩ = some (.int .i64 (nd l 0).num) := (blk_cell hb3 1).trans rfl; have hn2 : w3.cell? ⟨gn, 2, none⟩ = some (.string (nd l 0).val) := (blk_cell hb3 2).trans rfl; clear hb3 hg3 hs3 BK1 HB1))
  go_quiet (fail)
  go_wp2
  refine bodyPost_ret (v := .tuple #[.int .u64 (nd l 0).when, .int .i64 (nd l 0).num, .string (nd l 0).val, .int .i64 0]) (by simp [results, Try.results17, go_sem]) rfl ⟨rfl, pw_below_drewN HB.out _⟩
set_option maxHeartbeats 1000000 in
set_option maxRecDepth 100000 in
theorem push_calls (base p mb : Nat) (v : Value) (ok : Nat → Prop) (l : List NI) (m : List (Int × Int)) (next when_ : Int) (val : ByteArray) (w : World) (H : HeapAt w base p mb v ok l m next) (hsm : (l.length + 1) * 32 ≤ 140737488355328) (hn0 : 0 ≤ next) (hn1 : next ≤ 1000000000000000000) :
    Calls Try.prog 16 #[.pointer (some ⟨p, 0, none⟩), .int .u64 when_, .string val] w fun e w' => ∃ v' ok', e = .returned (.int .i64 next) ∧ HeapAt w' base p mb v' ok' (pushA l m ⟨when_, next, val⟩).1 (pushA l m ⟨when_, next, val⟩).2 (next + 1) ∧ (∀ k, ok' k → ok k ∨ w.heap.size ≤ k) ∧ Fr base ok w w' := by
  have HH := Aside0.mk H
  have HF := Aside0.mk (Fr.refl H.le H.low)
  obtain ⟨A, cap, rfl⟩ := Kd.R_slice H.row
  have hp0 : w.cell? ⟨p, 2, none⟩ = some (.int .i64 next) := (blk_cell H.blk 2).trans rfl
  clear H
  go_enter Try.func16, Try.ntmps16
  go_wp2_with (first
    | ((with_reducible refine gate_dst (N := 7) rfl ?_); refine box_event ?hg (N := 7) ?hd (cs := #[.int .u64 0, .int .i64 0, .string ByteArray.empty]) (t := 78) ?hr ?_; (case hd => rfl); (case hg => rfl); (case hr => first | (go_simp; done) | (go_simp; rfl)); intro gn hgn w2 hbox hb; have HF1 := Aside0.mk (HF.out.below hb); have HA1 := Aside0.mk (HH.out.below hb); have BK1 := Aside0.mk hbox; have HN := Aside0.mk (show w.heap.size ≤ gn by omega); clear hb hbox hgn hp0)
    | ((with_reducible refine gate_store (t := 78) (p := 7) (v := .tmp 14) rfl ?_); refine step_store rfl rfl rfl BK1.out rfl (u := .agg (cN ⟨when_, next, val⟩)) (seg := (cN ⟨when_, next, val⟩).toList) rfl rfl (by kernel_rfl) (by simp [Value.oneCell']) (Nat.le_refl 3) (cur' := cN ⟨when_, next, val⟩) rfl ?_; intro w3 hb3 hg3 hs3; have HF2 := Aside0.mk (HF1.out.grown hg3 (.inr HN.out)); have BK2 := Aside0.mk hb3; have HA2 := Aside0.mk (HA1.out.grown hg3 (HH.out.new HN.out)); clear hb3 hg3 hs3 BK1 HF1 HA1; have hp0 : w3.cell? ⟨p, 2, none⟩ = some (.int .i64 next) := (blk_cell HA2.out.blk 2).trans rfl; have hpz : w3.frozen? ⟨p, 2, none⟩ = false := blk_frozen HA2.out.blk 2))
  obtain ⟨hb4, hg4⟩ := set_step HA2.out.blk 2 (.int .i64 (next + 1)) (cur' := cH (.slice A l.length cap) mb (next + 1)) rfl
  have HF3 := Aside0.mk (HF2.out.grown hg4 (.inl HH.out.okp))
  have BK3 := Aside0.mk (blk_grown BK2.out hg4 (by intro e; cases e; exact HH.out.new HN.out HH.out.okp))
  have HA3 := Aside0.mk (HA2.out.celled hb4 hg4)
  clear hp0 hpz hb4 hg4 BK2 HF2 HA2
  generalize w3.setCell ⟨p, 2, none⟩ (.int .i64 (next + 1)) = w4 at *
  have hp0 : w4.cell? ⟨p, 0, none⟩ = some (.slice A l.length cap) := (blk_cell HA3.out.blk 0).trans rfl
  have hb0 : w4.cell? ⟨gn, 0, none⟩ = some (.int .u64 when_) := (blk_cell BK3.out 0).trans rfl
  have hb1 : w4.cell? ⟨gn, 1, none⟩ = some (.int .i64 next) := (blk_cell BK3.out 1).trans rfl
  have hb2 : w4.cell? ⟨gn, 2, none⟩ = some (.string val) := (blk_cell BK3.out 2).trans rfl
  have hf0 : w4.frozen? ⟨p, 0, none⟩ = false := blk_frozen HA3.out.blk 0
  have HA4 := Aside0.mk HA3.out.drew
  have HF4 := Aside0.mk HF3.out.drew
  have BK4 : Aside0 (w4.drew.heap[gn]? = some (.cells (cN ⟨when_, next, val⟩) 78 (0, 0))) := ⟨BK3.out⟩
  have hpa : (w4.alloc (.cells #[.int .u64 when_, .int .i64 next, .string val] 78 (0, 0))).cell? ⟨p, 0, none⟩ = some (.slice A l.length cap) := ((below_alloc (Below.refl _ _) _).cell (p := ⟨p, 0, none⟩) (blk_lt HA3.out.blk)).trans hp0
  clear HA3 HF3 BK3
  go_region_law ((refine Kd.R_append_step kN (w0 := w4.drew) (W := w4.drew) base rfl (.tmp 26) (.tmp 28) 74 78 (.agg #[(.int .u64 0), (.int .i64 0), (.string ByteArray.empty)]) 32 rfl Try.underlying74 infoN rfl (by decide) (by omega) (Value.slice A l.length cap) l (⟨when_, next, val⟩ : NI) (cN ⟨when_, next, val⟩).toList (fun k => (ok k ∨ w.heap.size ≤ k) ∧ k ≠ p ∧ k ≠ mb ∧ k ≠ gn) (fun _ => False) rfl rfl (kN_mkM _ _ _ _) (fun _ h => h.elim) ?aF ?aO (Below.refl _ _) ?aS hsm ?_); (case aF => exact fun k hk => ⟨.inr (Nat.le_trans HF4.out.size hk), by have := HA4.out.bound _ HA4.out.okp; omega, by have := HA4.out.bound _ HA4.out.okm; omega, by have := blk_lt BK4.out; omega⟩); (case aO => exact Kd.R_mono HA4.out.row (fun k hk => ⟨.inl hk.1, hk.2.1, hk.2.2, fun e => HH.out.new HN.out (e ▸ hk.1)⟩)); (case aS => exact HA4.out.le); intro v1 w5 hrow hb5 hg5 hat; obtain ⟨A1, c1, rfl⟩ := Kd.R_slice hrow; have HP5 := blk_grown HA4.out.blk hg5 (fun e => (HA4.out.row.1 p e.symm).2.1 rfl); have hp5 : w5.cell? ⟨p, 0, none⟩ = some (Value.slice A l.length cap) := (blk_cell HP5 0).trans rfl; have hf5 : w5.frozen? ⟨p, 0, none⟩ = false := blk_frozen HP5 0)
  all_goals
    obtain ⟨hb6, hg6⟩ := set_step HP5 0 (.slice A1 (l.length + 1) c1) (cur' := cH (.slice A1 (l.length + 1) c1) mb (next + 1)) rfl
    have HF6 := Aside0.mk ((HF4.out.grownO hg5 (fun k hk => .inl (HA4.out.row.1 k hk).1)).grown hg6 (.inl HH.out.okp))
    have HS6 : Aside0 (w4.drew.heap.size ≤ (w5.setCell ⟨p, 0, none⟩ (.slice A1 (l.length + 1) c1)).heap.size) := ⟨Nat.le_trans hg5.size hg6.size⟩
    have BK6 := Aside0.mk (blk_grown (blk_grown BK4.out hg5 (fun e => HH.out.new HN.out (HA4.out.row.1 gn e.symm).1)) hg6 (by intro e; cases e; exact HH.out.new HN.out HH.out.okp))
    have HA6 : Aside0 (HeapAt (w5.setCell ⟨p, 0, none⟩ (.slice A1 (l.length + 1) c1)) base p mb (.slice A1 (l.length + 1) c1) (fun k => (ok k ∨ w.heap.size ≤ k) ∧ k ≠ gn ∧ k < (w5.setCell ⟨p, 0, none⟩ (.slice A1 (l.length + 1) c1)).heap.size) (l ++ [⟨when_, next, val⟩]) m (next + 1)) := ⟨by
      refine ⟨hb6, ?_, ?_, HA4.out.ne, ⟨.inl HA4.out.okp, fun e => HH.out.new HN.out (e ▸ HA4.out.okp), blk_lt hb6⟩, ⟨.inl HA4.out.okm, fun e => HH.out.new HN.out (e ▸ HA4.out.okm), Nat.lt_of_lt_of_le (HA4.out.bound _ HA4.out.okm) HS6.out⟩, HA4.out.bp, HA4.out.bm, fun k q => q.2.2, fun k q => q.1.elim (HA4.out.low k) (fun q => Nat.le_trans HH.out.le q)⟩
      · have h1 := Kd.R_grown hrow hg6 (fun k hk e => by cases e; exact hk.2.1 rfl)
        rw [List.length_append] at h1
        exact Kd.R_mono (Kd.R_bound h1) (fun k hk => ⟨⟨hk.1.1, hk.1.2.2.2, hk.2.2.1⟩, hk.1.2.1, hk.1.2.2.1⟩)
      · exact (HA4.out.map.grown hg5 (fun e => (HA4.out.row.1 mb e.symm).2.2 rfl)).grown hg6 (by intro e; cases e; exact HA4.out.ne rfl)⟩
    clear hb6 hg6 hb5 hg5 hrow hat HP5 hp5 hf5 hpa hp0 hb0 hb1 hb2 hf0 HA4 HF4 BK4 HS6
    generalize w5.setCell ⟨p, 0, none⟩ (.slice A1 (l.length + 1) c1) = w6 at *
    have hp0 : w6.cell? ⟨p, 0, none⟩ = some (.slice A1 (l.length + 1) c1) := (blk_cell HA6.out.blk 0).trans rfl
    go_wp2_with (first
      | (go_at_call 31; (refine (up_calls' base p mb _ _ _ m (next + 1) l.length _ (by omega) _ HA6.out (by simp)).mono ?_); rintro e w7 ⟨rfl, hA, hF⟩; have HA7 := Aside0.mk hA; have HF7 := Aside0.mk (HF6.out.then_ hF (Nat.le_refl _) (fun k q => q.1)); have hn1' : w7.cell? ⟨gn, 1, none⟩ = some (.int .i64 next) := (blk_cell (hF.blk BK6.out (fun q => q.2.1 rfl)) 1).trans rfl; have HS7 := Aside0.mk hF.size; clear hA hF hp0 HA6 HF6 BK6))
    go_ret
    exact ⟨_, _, rfl, HA7.out, fun k q => q.1, HF7.out⟩
end Go.Proofs.Ytedkacknopcceaa.QHeap.Str
