/- A heap in memory: its own cells, its row of nodes, its map of places; and what 'set' does to it. Conditions: each theorem's own. -/
import Derived.Test.YtceopcfmhidjlaaPTimerPlaysx0
import Derived.Test.YtceopcfmhidjlaaMp
import Derived.Test.YtceopcfmhidjlaaHm
import Derived.Test.YtceopcfmhidjlaaEf
import Derived.StillTailTactics
import Derived.Outline
set_option linter.unusedVariables false
set_option linter.unusedSimpArgs false
namespace Go.Proofs.Ytceopcfmhidjlaa.PTimerPlays
open Go.RowKit Go.Proofs.Ytceopcfmhidjlaa.Ef Go.Proofs.Ytceopcfmhidjlaa.Mp Go.Proofs.Ytceopcfmhidjlaa.Hp Go.Proofs.YtceopcfmhidjlaaW.PrintWords Go.Proofs.YtceopcfmhidjlaaW.PrintLast Go.Proofs.YtceopcfmhidjlaaW.PrintMore

instance : Inhabited S40 := ⟨z40⟩
abbrev NI := Nd S40
theorem infoN : (Try.prog.info? 105).map (fun i => (i.zero, i.size, i.bytes)) = some (some (.agg #[(.int .u64 0), (.int .i64 0), .int .i64 0, .int .i64 0, .int .i64 0, .int .i64 0, .int .i64 0, .int .u64 0, .bool false, .int .u64 0]), 10, 80) := by kernel_rfl
def kN : Kd NI := Kd.iso (Kd.pair (Kd.int .u64) (Kd.pair (Kd.int .i64) k40)) (fun x : NI => (x.when, x.num, x.val))
theorem kN_open {w : World} {x : NI} {cs : List Value} (h : kN.K w x cs) : cs = [.int .u64 x.when, .int .i64 x.num, .int .i64 x.val.f0, .int .i64 x.val.f1, .int .i64 x.val.f2.f0, .int .i64 x.val.f2.f1, .int .i64 x.val.f3, .int .u64 x.val.f4, .bool x.val.f5, .int .u64 x.val.f6] := by
  obtain ⟨_, _, rfl, rfl, ⟨_, _, rfl, rfl, s⟩⟩ := h
  obtain rfl := k40_open s
  exact rfl
theorem kN_mk (w : World) (x : NI) : kN.K w x [.int .u64 x.when, .int .i64 x.num, .int .i64 x.val.f0, .int .i64 x.val.f1, .int .i64 x.val.f2.f0, .int .i64 x.val.f2.f1, .int .i64 x.val.f3, .int .u64 x.val.f4, .bool x.val.f5, .int .u64 x.val.f6] := ⟨[.int .u64 x.when], _, rfl, rfl, ⟨[.int .i64 x.num], _, rfl, rfl, k40_mk w x.val⟩⟩
theorem kN_mkM (w : World) (base : Nat) (ok : Nat → Prop) (x : NI) : kN.M w base ok x [.int .u64 x.when, .int .i64 x.num, .int .i64 x.val.f0, .int .i64 x.val.f1, .int .i64 x.val.f2.f0, .int .i64 x.val.f2.f1, .int .i64 x.val.f3, .int .u64 x.val.f4, .bool x.val.f5, .int .u64 x.val.f6] := ⟨[.int .u64 x.when], _, rfl, rfl, ⟨[.int .i64 x.num], _, rfl, rfl, k40_mkM w base ok x.val⟩⟩
theorem kN_openM {w : World} {base : Nat} {ok : Nat → Prop} {x : NI} {cs : List Value} (h : kN.M w base ok x cs) : cs = [.int .u64 x.when, .int .i64 x.num, .int .i64 x.val.f0, .int .i64 x.val.f1, .int .i64 x.val.f2.f0, .int .i64 x.val.f2.f1, .int .i64 x.val.f3, .int .u64 x.val.f4, .bool x.val.f5, .int .u64 x.val.f6] := by
  obtain ⟨_, _, rfl, rfl, ⟨_, _, rfl, rfl, s⟩⟩ := h
  obtain rfl := k40_openM s
  exact rfl
theorem at_N {w : World} {A : Option Addr} {n : Nat} {xs : List NI} (h : Kd.C kN w A n xs) (i : Int) (h0 : 0 ≤ i) (h1 : i < n) : ∃ ad , A = some ad ∧ w.cell? (ad.add (i.toNat * 10)) = some (.int .u64 (nd xs i.toNat).when) ∧ w.cell? ⟨(ad.add (i.toNat * 10)).block, (ad.add (i.toNat * 10)).off + 1, none⟩ = some (.int .i64 (nd xs i.toNat).num) ∧ w.cell? ⟨(ad.add (i.toNat * 10)).block, (ad.add (i.toNat * 10)).off + 2, none⟩ = some (.int .i64 (nd xs i.toNat).val.f0) ∧ w.cell? ⟨(ad.add (i.toNat * 10)).block, (ad.add (i.toNat * 10)).off + 3, none⟩ = some (.int .i64 (nd xs i.toNat).val.f1) ∧ w.cell? ⟨(ad.add (i.toNat * 10)).block, (ad.add (i.toNat * 10)).off + 4, none⟩ = some (.int .i64 (nd xs i.toNat).val.f2.f0) ∧ w.cell? ⟨(ad.add (i.toNat * 10)).block, (ad.add (i.toNat * 10)).off + 5, none⟩ = some (.int .i64 (nd xs i.toNat).val.f2.f1) ∧ w.cell? ⟨(ad.add (i.toNat * 10)).block, (ad.add (i.toNat * 10)).off + 6, none⟩ = some (.int .i64 (nd xs i.toNat).val.f3) ∧ w.cell? ⟨(ad.add (i.toNat * 10)).block, (ad.add (i.toNat * 10)).off + 7, none⟩ = some (.int .u64 (nd xs i.toNat).val.f4) ∧ w.cell? ⟨(ad.add (i.toNat * 10)).block, (ad.add (i.toNat * 10)).off + 8, none⟩ = some (.bool (nd xs i.toNat).val.f5) ∧ w.cell? ⟨(ad.add (i.toNat * 10)).block, (ad.add (i.toNat * 10)).off + 9, none⟩ = some (.int .u64 (nd xs i.toNat).val.f6) := by
  obtain ⟨ad, c, e, _, hK, hc0⟩ := Kd.C_get h default i h0 h1
  have hc : ∀ j u, c[j]? = some u → w.cell? (ad.add (i.toNat * 10 + j)) = some u := hc0
  obtain rfl := kN_open hK
  exact ⟨ad, e, hc 0 _ rfl, by rw [← add_field _ _ 1 (by omega)]; exact hc 1 _ rfl, by rw [← add_field _ _ 2 (by omega)]; exact hc 2 _ rfl, by rw [← add_field _ _ 3 (by omega)]; exact hc 3 _ rfl, by rw [← add_field _ _ 4 (by omega)]; exact hc 4 _ rfl, by rw [← add_field _ _ 5 (by omega)]; exact hc 5 _ rfl, by rw [← add_field _ _ 6 (by omega)]; exact hc 6 _ rfl, by rw [← add_field _ _ 7 (by omega)]; exact hc 7 _ rfl, by rw [← add_field _ _ 8 (by omega)]; exact hc 8 _ rfl, by rw [← add_field _ _ 9 (by omega)]; exact hc 9 _ rfl⟩

/-- The cells of a node in a row of one's own. -/
theorem at_row {w : World} {e base g n cap : Nat} {ok : Nat → Prop} {xs : List NI} (h : kN.R e w base ok (.slice (some ⟨g, 0, none⟩) n cap) xs) (i : Nat) (hi : i < n) :
    w.cell? ⟨g, i * 10, none⟩ = some (.int .u64 (nd xs i).when) ∧ w.cell? ⟨g, i * 10 + 1, none⟩ = some (.int .i64 (nd xs i).num) ∧ w.cell? ⟨g, i * 10 + 2, none⟩ = some (.int .i64 (nd xs i).val.f0) ∧ w.cell? ⟨g, i * 10 + 3, none⟩ = some (.int .i64 (nd xs i).val.f1) ∧ w.cell? ⟨g, i * 10 + 4, none⟩ = some (.int .i64 (nd xs i).val.f2.f0) ∧ w.cell? ⟨g, i * 10 + 5, none⟩ = some (.int .i64 (nd xs i).val.f2.f1) ∧ w.cell? ⟨g, i * 10 + 6, none⟩ = some (.int .i64 (nd xs i).val.f3) ∧ w.cell? ⟨g, i * 10 + 7, none⟩ = some (.int .u64 (nd xs i).val.f4) ∧ w.cell? ⟨g, i * 10 + 8, none⟩ = some (.bool (nd xs i).val.f5) ∧ w.cell? ⟨g, i * 10 + 9, none⟩ = some (.int .u64 (nd xs i).val.f6) := by
  obtain ⟨c, hcl, hM, hc0, _⟩ := Kd.R_elem h default (i : Int) (Int.natCast_nonneg i) (by omega)
  obtain rfl := kN_openM hM
  rw [Int.toNat_natCast] at hc0
  exact ⟨hc0 0 _ rfl, hc0 1 _ rfl, hc0 2 _ rfl, hc0 3 _ rfl, hc0 4 _ rfl, hc0 5 _ rfl, hc0 6 _ rfl, hc0 7 _ rfl, hc0 8 _ rfl, hc0 9 _ rfl⟩

abbrev cN (n : NI) : Array Value := #[.int .u64 n.when, .int .i64 n.num, .int .i64 n.val.f0, .int .i64 n.val.f1, .int .i64 n.val.f2.f0, .int .i64 n.val.f2.f1, .int .i64 n.val.f3, .int .u64 n.val.f4, .bool n.val.f5, .int .u64 n.val.f6]
def kv (p : Int × Int) : Int × Value := (p.1, .int .i64 p.2)
theorem look_snd (k : Int) : ∀ (l : List (Int × Value)) (i j : Nat), (Mp.look k l i).map (·.2) = (Mp.look k l j).map (·.2) := by
  intro l
  induction l with
  | nil => intro i j; rfl
  | cons p r ih =>
    intro i j
    obtain ⟨a, v⟩ := p
    unfold Mp.look
    by_cases e : a = k
    · rw [if_pos e, if_pos e]; rfl
    · rw [if_neg e, if_neg e]; exact ih _ _
theorem get_cons (k a : Int) (v : Value) (r : List (Int × Value)) : Mp.get k ((a, v) :: r) = if a = k then some v else Mp.get k r := by
  show (Mp.look k ((a, v) :: r) 0).map (·.2) = if a = k then some v else (Mp.look k r 0).map (·.2)
  rw [Mp.look]
  by_cases e : a = k
  · rw [if_pos e, if_pos e]; rfl
  · rw [if_neg e, if_neg e]; exact look_snd k r 1 0
theorem get_kv (k : Int) : ∀ l : List (Int × Int), Mp.get k (l.map kv) = (getI k l).map (Value.int .i64) := by
  intro l
  induction l with
  | nil => rfl
  | cons p r ih =>
    obtain ⟨a, u⟩ := p
    rw [List.map_cons, show kv (a, u) = (a, .int .i64 u) from rfl, get_cons]
    unfold getI
    by_cases e : a = k
    · rw [if_pos e, if_pos e]; rfl
    · rw [if_neg e, if_neg e]; exact ih
theorem ins_kv (k v : Int) : ∀ l : List (Int × Int), ins k (.int .i64 v) (l.map kv) = (insI k v l).map kv := by
  intro l
  induction l with
  | nil => rfl
  | cons p r ih =>
    obtain ⟨a, u⟩ := p
    rw [List.map_cons, show kv (a, u) = (a, .int .i64 u) from rfl]
    unfold ins insI
    by_cases e : a = k
    · rw [if_pos e, if_pos e]; rfl
    · rw [if_neg e, if_neg e, ih]; rfl
theorem del_kv (k : Int) : ∀ l : List (Int × Int), del k (l.map kv) = (delI k l).map kv := by
  intro l
  induction l with
  | nil => rfl
  | cons p r ih =>
    obtain ⟨a, u⟩ := p
    rw [List.map_cons, show kv (a, u) = (a, .int .i64 u) from rfl]
    unfold del delI
    by_cases e : a = k
    · rw [if_pos e, if_pos e]
    · rw [if_neg e, if_neg e, ih]; rfl
theorem keyI : KeyOk Try.prog 3 (Value.int .i64) := int_key Try.underlying3
theorem zero3 (w : World) : (zeroValue 3).run Try.prog w = .ok (.int .i64 0) w := by kernel_rfl
abbrev cH (v : Value) (mb : Nat) (next : Int) : Array Value := #[v, .map (some mb), .int .i64 next]
/-- A heap in memory: at block p its cells, in block mb its map, its row is v; all its blocks are ok ones. -/
structure HeapAt (w : World) (base p mb : Nat) (v : Value) (ok : Nat → Prop) (l : List NI) (m : List (Int × Int)) (next : Int) : Prop where
  blk : w.heap[p]? = some (.cells #[v, .map (some mb), .int .i64 next] 99 (0, 0))
  row : kN.R 105 w base (fun k => ok k ∧ k ≠ p ∧ k ≠ mb) v l
  map : MapOf (Value.int .i64) w mb (m.map kv)
  ne : p ≠ mb
  okp : ok p
  okm : ok mb
  bp : base ≤ p
  bm : base ≤ mb
  bound : ∀ k, ok k → k < w.heap.size
  low : ∀ k, ok k → base ≤ k
theorem HeapAt.kept {w w' : World} {base p mb : Nat} {v : Value} {ok S : Nat → Prop} {l : List NI} {m : List (Int × Int)} {next : Int} (h : HeapAt w base p mb v ok l m next) (hk : Kept w w' S) (hS : ∀ k, ok k → ¬ S k) : HeapAt w' base p mb v ok l m next :=
  ⟨blk_kept h.blk hk (hS _ h.okp), Kd.R_kept h.row hk (fun k hk => hS k hk.1), h.map.kept (hk.2 mb (h.bound _ h.okm) (hS _ h.okm)), h.ne, h.okp, h.okm, h.bp, h.bm, fun k q => Nat.lt_of_lt_of_le (h.bound k q) hk.1, h.low⟩
theorem HeapAt.below {w w' : World} {base p mb : Nat} {v : Value} {ok : Nat → Prop} {l : List NI} {m : List (Int × Int)} {next : Int} (h : HeapAt w base p mb v ok l m next) (hk : Below w.heap.size w w') : HeapAt w' base p mb v ok l m next :=
  h.kept (Kept.of_below hk (fun _ => False)) (fun _ _ => id)
theorem HeapAt.drew {w : World} {base p mb : Nat} {v : Value} {ok : Nat → Prop} {l : List NI} {m : List (Int × Int)} {next : Int} (h : HeapAt w base p mb v ok l m next) : HeapAt w.drew base p mb v ok l m next := h.below (below_drew (Below.refl _ _))
theorem HeapAt.drewN {w : World} {base p mb : Nat} {v : Value} {ok : Nat → Prop} {l : List NI} {m : List (Int × Int)} {next : Int} (h : HeapAt w base p mb v ok l m next) (n : Nat) : HeapAt (w.drewN n) base p mb v ok l m next := h.below (pw_below_drewN (Below.refl _ _) _)
theorem HeapAt.le {w : World} {base p mb : Nat} {v : Value} {ok : Nat → Prop} {l : List NI} {m : List (Int × Int)} {next : Int} (h : HeapAt w base p mb v ok l m next) : base ≤ w.heap.size := Nat.le_of_lt (Nat.lt_of_le_of_lt h.bp (h.bound _ h.okp))
theorem HeapAt.grown {w w' : World} {base p mb g : Nat} {v : Value} {ok : Nat → Prop} {l : List NI} {m : List (Int × Int)} {next : Int} (h : HeapAt w base p mb v ok l m next) (hg : w.grownBy w' (some g)) (hne : ¬ ok g) : HeapAt w' base p mb v ok l m next :=
  h.kept (S := fun k => k = g) ⟨hg.size, fun i hi hn => hg.block i hi (fun e => hn (by cases e; rfl))⟩ (fun k hk e => hne (by rw [← e]; exact hk))
theorem HeapAt.new {w : World} {base p mb : Nat} {v : Value} {ok : Nat → Prop} {l : List NI} {m : List (Int × Int)} {next : Int} (h : HeapAt w base p mb v ok l m next) {k : Nat} (hk : w.heap.size ≤ k) : ¬ ok k := fun q => by have := h.bound k q; omega
/-- Its row has been written. -/
theorem HeapAt.stored {w w' : World} {base p mb g n cap : Nat} {ok : Nat → Prop} {l l' : List NI} {m : List (Int × Int)} {next : Int} (h : HeapAt w base p mb (.slice (some ⟨g, 0, none⟩) n cap) ok l m next)
    (hr : kN.R 105 w' base (fun k => ok k ∧ k ≠ p ∧ k ≠ mb) (.slice (some ⟨g, 0, none⟩) n cap) l') (hg : w.grownBy w' (some g)) (hok : ok g ∧ g ≠ p ∧ g ≠ mb) : HeapAt w' base p mb (.slice (some ⟨g, 0, none⟩) n cap) ok l' m next :=
  ⟨(hg.block p (h.bound _ h.okp) (by intro e; cases e; exact hok.2.1 rfl)).trans h.blk, hr, h.map.grown hg (by intro e; cases e; exact hok.2.2 rfl), h.ne, h.okp, h.okm, h.bp, h.bm, fun k q => Nat.lt_of_lt_of_le (h.bound k q) hg.size, h.low⟩
/-- Its own cells have been written. -/
theorem HeapAt.celled {w w' : World} {base p mb : Nat} {v : Value} {ok : Nat → Prop} {l : List NI} {m : List (Int × Int)} {next next' : Int} (h : HeapAt w base p mb v ok l m next)
    (hb : w'.heap[p]? = some (.cells #[v, .map (some mb), .int .i64 next'] 99 (0, 0))) (hg : w.grownBy w' (some p)) : HeapAt w' base p mb v ok l m next' :=
  ⟨hb, Kd.R_grown h.row hg (fun k hk e => by cases e; exact hk.2.1 rfl), h.map.grown hg (by intro e; cases e; exact h.ne rfl), h.ne, h.okp, h.okm, h.bp, h.bm, fun k q => Nat.lt_of_lt_of_le (h.bound k q) hg.size, h.low⟩
/-- Its row has been cut. -/
theorem HeapAt.cut {w w' : World} {base p mb n n' cap : Nat} {A : Option Addr} {ok : Nat → Prop} {l : List NI} {m : List (Int × Int)} {next : Int} (h : HeapAt w base p mb (.slice A n cap) ok l m next) (hn : n' ≤ l.length)
    (hb : w'.heap[p]? = some (.cells #[.slice A n' cap, .map (some mb), .int .i64 next] 99 (0, 0))) (hg : w.grownBy w' (some p)) : HeapAt w' base p mb (.slice A n' cap) ok (l.take n') m next :=
  ⟨hb, Kd.R_grown (Kd.R_take h.row hn) hg (fun k hk e => by cases e; exact hk.2.1 rfl), h.map.grown hg (by intro e; cases e; exact h.ne rfl), h.ne, h.okp, h.okm, h.bp, h.bm, fun k q => Nat.lt_of_lt_of_le (h.bound k q) hg.size, h.low⟩
/-- Its map has been written. -/
theorem HeapAt.mapped {w w' : World} {base p mb : Nat} {v : Value} {ok : Nat → Prop} {l : List NI} {m m' : List (Int × Int)} {next : Int} (h : HeapAt w base p mb v ok l m next)
    (hm : MapOf (Value.int .i64) w' mb (m'.map kv)) (hg : w.grownBy w' (some mb)) : HeapAt w' base p mb v ok l m' next :=
  ⟨(hg.block p (h.bound _ h.okp) (by intro e; cases e; exact h.ne rfl)).trans h.blk, Kd.R_grown h.row hg (fun k hk e => by cases e; exact hk.2.2 rfl), hm, h.ne, h.okp, h.okm, h.bp, h.bm, fun k q => Nat.lt_of_lt_of_le (h.bound k q) hg.size, h.low⟩
set_option maxHeartbeats 1000000 in
set_option maxRecDepth 100000 in
theorem set_calls (base p mb : Nat) (v : Value) (ok : Nat → Prop) (l : List NI) (m : List (Int × Int)) (next : Int) (i : Int) (n : NI) (w : World) (H : HeapAt w base p mb v ok l m next) (h0 : 0 ≤ i) (h1 : i < l.length) :
    Calls Try.prog 46 #[.pointer (some ⟨p, 0, none⟩), .int .i64 i, .agg #[.int .u64 n.when, .int .i64 n.num, .int .i64 n.val.f0, .int .i64 n.val.f1, .int .i64 n.val.f2.f0, .int .i64 n.val.f2.f1, .int .i64 n.val.f3, .int .u64 n.val.f4, .bool n.val.f5, .int .u64 n.val.f6]] w fun e w' => e = .returned (.tuple #[]) ∧ HeapAt w' base p mb v ok (l.set i.toNat n) (insI n.num i m) next ∧ Fr base ok w w' := by
  have HH := Aside0.mk H
  have HP := Aside0.mk H.ne
  obtain ⟨g, cap, rfl, hbg, hgl, cells0, hg0⟩ := Kd.R_form H.row (by omega)
  have HG := Aside0.mk hg0
  have hok := H.row.1 g (by simp [Value.ownBlock])
  have HOK := Aside0.mk hok
  clear H hok hg0
  go_enter Try.func46, Try.ntmps46
  go_wp2_with (first
    | ((with_reducible refine gate_dst (N := 5) rfl ?_); refine box_event ?hg (N := 5) ?hd (cs := #[.int .u64 n.when, .int .i64 n.num, .int .i64 n.val.f0, .int .i64 n.val.f1, .int .i64 n.val.f2.f0, .int .i64 n.val.f2.f1, .int .i64 n.val.f3, .int .u64 n.val.f4, .bool n.val.f5, .int .u64 n.val.f6]) (t := 105) ?hr ?_; (case hd => rfl); (case hg => rfl); (case hr => first | (go_simp; done) | (go_simp; rfl)); intro gp hgp w2 hbox hb; have HB1 := Aside0.mk hb; have BK1 := Aside0.mk hbox; have HNG : Aside0 (g ≠ gp) := ⟨by have := HH.out.bound g HOK.out.1; omega⟩; clear hb hbox hgp))
  have hl := (Kd.R_reads' HH.out.row).2.2.2.1
  have hp0 : w2.cell? ⟨p, 0, none⟩ = some (.slice (some ⟨g, 0, none⟩) l.length cap) := (blk_cell (blk_below HH.out.blk HB1.out) 0).trans rfl
  have hb0 : w2.cell? ⟨gp, 0, none⟩ = some (.int .u64 n.when) := (blk_cell BK1.out 0).trans rfl
  have hb1 : w2.cell? ⟨gp, 1, none⟩ = some (.int .i64 n.num) := (blk_cell BK1.out 1).trans rfl
  have hb2 : w2.cell? ⟨gp, 2, none⟩ = some (.int .i64 n.val.f0) := (blk_cell BK1.out 2).trans rfl
  have hb3 : w2.cell? ⟨gp, 3, none⟩ = some (.int .i64 n.val.f1) := (blk_cell BK1.out 3).trans rfl
  have hb4 : w2.cell? ⟨gp, 4, none⟩ = some (.int .i64 n.val.f2.f0) := (blk_cell BK1.out 4).trans rfl
  have hb5 : w2.cell? ⟨gp, 5, none⟩ = some (.int .i64 n.val.f2.f1) := (blk_cell BK1.out 5).trans rfl
  have hb6 : w2.cell? ⟨gp, 6, none⟩ = some (.int .i64 n.val.f3) := (blk_cell BK1.out 6).trans rfl
  have hb7 : w2.cell? ⟨gp, 7, none⟩ = some (.int .u64 n.val.f4) := (blk_cell BK1.out 7).trans rfl
  have hb8 : w2.cell? ⟨gp, 8, none⟩ = some (.bool n.val.f5) := (blk_cell BK1.out 8).trans rfl
  have hb9 : w2.cell? ⟨gp, 9, none⟩ = some (.int .u64 n.val.f6) := (blk_cell BK1.out 9).trans rfl
  go_still_tail 7, (by kernel_rfl)
  change wpList _ _ _ _ _ w2.drew
  have HF2 := Aside0.mk ((Fr.refl HH.out.le HH.out.low).below (below_drew HB1.out))
  have HB2 := Aside0.mk (below_drew HB1.out)
  have BK2 : Aside0 (w2.drew.heap[gp]? = some (.cells #[.int .u64 n.when, .int .i64 n.num, .int .i64 n.val.f0, .int .i64 n.val.f1, .int .i64 n.val.f2.f0, .int .i64 n.val.f2.f1, .int .i64 n.val.f3, .int .u64 n.val.f4, .bool n.val.f5, .int .u64 n.val.f6] 105 (0, 0))) := ⟨BK1.out⟩
  have HA2 := Aside0.mk (HH.out.below HB2.out)
  generalize w2.drew = w3 at *
  clear hp0 hb0 hb1 hb2 hb3 hb4 hb5 hb6 hb7 hb8 hb9 BK1 HB1
  obtain ⟨c, hcl, hcM, hcc, _⟩ := Kd.R_elem HA2.out.row default i h0 (by omega)
  refine Kd.R_store kN (w0 := w3) base rfl rfl 105 (.tmp 12) (.tmp 11) rfl 105 i 0 l n (.agg #[.int .u64 n.when, .int .i64 n.num, .int .i64 n.val.f0, .int .i64 n.val.f1, .int .i64 n.val.f2.f0, .int .i64 n.val.f2.f1, .int .i64 n.val.f3, .int .u64 n.val.f4, .bool n.val.f5, .int .u64 n.val.f6]) [.int .u64 n.when, .int .i64 n.num, .int .i64 n.val.f0, .int .i64 n.val.f1, .int .i64 n.val.f2.f0, .int .i64 n.val.f2.f1, .int .i64 n.val.f3, .int .u64 n.val.f4, .bool n.val.f5, .int .u64 n.val.f6] c _ (fun _ => False) rfl (by show _ = i.toNat * 10 + 0; omega) rfl rfl (by kernel_rfl) (by simp [Value.oneCell']) HA2.out.row h0 (by omega) hcl hcc (by show 0 + 10 ≤ 10; omega) (by have hc3 : c.length = 10 := hcl; rw [show c.take 0 ++ [.int .u64 n.when, .int .i64 n.num, .int .i64 n.val.f0, .int .i64 n.val.f1, .int .i64 n.val.f2.f0, .int .i64 n.val.f2.f1, .int .i64 n.val.f3, .int .u64 n.val.f4, .bool n.val.f5, .int .u64 n.val.f6] ++ c.drop (0 + [Value.int .u64 n.when, .int .i64 n.num, .int .i64 n.val.f0, .int .i64 n.val.f1, .int .i64 n.val.f2.f0, .int .i64 n.val.f2.f1, .int .i64 n.val.f3, .int .u64 n.val.f4, .bool n.val.f5, .int .u64 n.val.f6].length) = [.int .u64 n.when, .int .i64 n.num, .int .i64 n.val.f0, .int .i64 n.val.f1, .int .i64 n.val.f2.f0, .int .i64 n.val.f2.f1, .int .i64 n.val.f3, .int .u64 n.val.f4, .bool n.val.f5, .int .u64 n.val.f6] from by simp [List.drop_of_length_le, hc3]]; exact kN_mkM _ _ _ _) (fun _ h => h.elim) (Below.refl _ _) ?_
  intro w4 hrow hb4 hg4
  have HA4 : Aside0 (HeapAt w4 base p mb (.slice (some ⟨g, 0, none⟩) l.length cap) ok (l.set i.toNat n) m next) := ⟨HA2.out.stored hrow hg4 HOK.out⟩
  have BK4 := Aside0.mk (show w4.heap[gp]? = some _ from (hg4.block gp (blk_lt BK2.out) (by intro e; cases e; exact (HNG.out rfl))).trans BK2.out)
  have HF4 := Aside0.mk (HF2.out.grown hg4 (.inl HOK.out.1))
  clear hrow hb4 hg4 hcM hcc hcl BK2 HA2 HB2 HF2
  have hp0 : w4.cell? ⟨p, 1, none⟩ = some (.map (some mb)) := (blk_cell HA4.out.blk 1).trans rfl
  have hb1 : w4.cell? ⟨gp, 1, none⟩ = some (.int .i64 n.num) := (blk_cell BK4.out 1).trans rfl
  go_wp2
  go_still_tail 7, (by kernel_rfl)
  change wpList _ _ _ _ _ w4.drew
  have HA5 := Aside0.mk (HA4.out.drew)
  have HF5 := Aside0.mk (HF4.out.drew)
  generalize w4.drew = w5 at *
  clear hp0 hb1 BK4 HA4 HF4
  refine step_put keyI Try.underlying96 rfl rfl HA5.out.map n.num (.int .i64 i) rfl rfl (by rfl) ?_
  intro w6 hm6 hg6 hs6
  have HA6 : Aside0 (HeapAt w6 base p mb (.slice (some ⟨g, 0, none⟩) l.length cap) ok (l.set i.toNat n) (insI n.num i m) next) := ⟨HA5.out.mapped (by rw [← ins_kv]; exact hm6) hg6⟩
  have HF6 := Aside0.mk (HF5.out.grown hg6 (.inl HH.out.okm))
  clear hm6 hg6 hs6
  go_wp2
  go_end0
  exact ⟨rfl, HA6.out, HF6.out⟩
end Go.Proofs.Ytceopcfmhidjlaa.PTimerPlays
