/- A heap in memory: its own cells, its row of nodes, its map of places; and what 'set' does to it. Conditions: each theorem's own.
   'up' lets a node rise: upF, then set. Conditions: each theorem's own.
   'down' lets a node sink: downF, then set. Conditions: each theorem's own.
   New, Len, Has, Top, Push of a heap. Conditions: each theorem's own.
   Drop and Pop of a heap. Conditions: each theorem's own.
   Pop; and each call of a heap told by what it holds (HP). Conditions: each theorem's own. -/
import Derived.Test.YtceopcfmhidjlaaPTimerPlaysx0
import Derived.Test.YtceopcfmhidjlaaMp
import Derived.Test.YtceopcfmhidjlaaHm
import Derived.Test.YtceopcfmhidjlaaEf
import Derived.StillTailTactics
import Derived.Outline
import Derived.Says
import Derived.Test.YtceopcfmhidjlaaPTimerPlaysx3
import Derived.Carry
import Derived.Deep.RegionHeld3
import Derived.Deep.RegionLaw
set_option linter.unusedVariables false
set_option linter.unusedSimpArgs false
namespace Go.Proofs.Ytceopcfmhidjlaa.PTimerPlays
open Go.RowKit Go.Proofs.Ytceopcfmhidjlaa.Ef Go.Proofs.Ytceopcfmhidjlaa.Mp Go.Proofs.Ytceopcfmhidjlaa.Hp Go.Proofs.YtceopcfmhidjlaaW.PrintWords Go.Proofs.YtceopcfmhidjlaaW.PrintLast Go.Proofs.YtceopcfmhidjlaaW.PrintMore
instance : Inhabited S40 := ⟨z40⟩
abbrev NI := Nd S40
theorem infoN : (Try.prog.info? 105).map (fun i => (i.zero, i.size, i.bytes)) = some (some (.agg #[(.int .u64 0), (.int .i64 0), .int .i64 0, .int .i64 0, .int .i64 0, .int .i64 0, .int .i64 0, .int .u64 0, .bool false, .int .u64 0]), 10, 80) := by kernel_rfl
def kN : Kd NI := Kd.iso (Kd.pair (Kd.int .u64) (Kd.pair (Kd.int .i64) k40)) (fun x : NI => (x.when, x.num, x.val))
theorem kN_open {w : World} {x : NI} {cs : List Value} (h : kN.K w x cs) : cs = [.int .u64 x.when, .int .i64 x.num, .int .i64 x.val.f0, .int .i64 x.val.f1, .int .i64 x.val.f2.f0, .int .i64 x.val.f2.f1, .int .i64 x.val.f3, .int .u64 x.val.f4, .bool x.val.f5, .int .u64 x.val.f6] := by
  obtain ⟨_, _, rfl, rfl, ⟨_, _, rfl, rfl, s⟩⟩ := h
  obtain rfl := k40_open s
  exact rfl
theorem kN_mk (w : World) (x : NI) : kN.K w x [.int .u64 x.when, .int .i64 x.num, .int .i64 x.val.f0, .int .i64 x.val.f1, .int .i64 x.val.f2.f0, .int .i64 x.val.f2.f1, .int .i64 x.val.f3, .int .u64 x.val.f4, .bool x.val.f5, .int .u64 x.val.f6] := ⟨[.int .u64 x.when], _, rfl, rfl, ⟨[.int .i64 x.num], _, rfl, rfl, k40_mk w x.val⟩⟩
theorem kN_mkM (w : World) (base : Nat) (ok : Nat → Prop) (x : NI) : kN.M w base ok x [.int .u64 x.when, .int .i64 x.num, .int .i64 x.val.f0, .int .i64 x.val.f1, .int .i64 x.val.f2.f0, .int .i64 x.val.f2.f1, .int .i64 x.val.f3, .int .u64 x.val.f4, .bool x.val.f5, .int .u64 x.val.f6] := ⟨[.int .u64 x.when], _, rfl, rfl, ⟨[.int .i64 x.num], _, rfl, rfl, k40_mkM w base ok x.val⟩⟩
theorem kN_openM {w : World} {base : Nat} {ok : Nat → Prop} {x : NI} {cs : List Value} (h : kN.M w base ok x cs) : cs = [.int .u64 x.when, .int .i64 x.num, .int .i64 x.val.f0, .int .i64 x.val.f1, .int .i64 x.val.f2.f0, .int .i64 x.val.f2.f1, .int .i64 x.val.f3, .int .u64 x.val.f4, .bool x.val.f5, .int .u64 x.val.f6] := by
  obtain ⟨_, _, rfl, rfl, ⟨_, _, rfl, rfl, s⟩⟩ := h
  obtain rfl := k40_openM s
  exact rfl
theorem at_N {w : World} {A : Option Addr} {n : Nat} {xs : List NI} (h : Kd.C kN w A n xs) (i : Int) (h0 : 0 ≤ i) (h1 : i < n) : ∃ ad , A = some ad ∧ w.cell? (ad.add (i.toNat * 10)) = some (.int .u64 (nd xs i.toNat).when) ∧ w.cell? ⟨(ad.add (i.toNat * 10)).block, (ad.add (i.toNat * 10)).off + 1, none⟩ = some (.int .i64 (nd xs i.toNat).num) ∧ w.cell? ⟨(ad.add (i.toNat * 10)).block, (ad.add (i.toNat * 10)).off + 2, none⟩ = some (.int .i64 (nd xs i.toNat).val.f0) ∧ w.cell? ⟨(ad.add (i.toNat * 10)).block, (ad.add (i.toNat * 10)).off + 3, none⟩ = some (.int .i64 (nd xs i.toNat).val.f1) ∧ w.cell? ⟨(ad.add (i.toNat * 10)).block, (ad.add (i.toNat * 10)).off + 4, none⟩ = some (.int .i64 (nd xs i.toNat).val.f2.f0) ∧ w.cell? ⟨(ad.add (i.toNat * 10)).block, (ad.add (i.toNat * 10)).off + 5, none⟩ = some (.int .i64 (nd xs i.toNat).val.f2.f1) ∧ w.cell? ⟨(ad.add (i.toNat * 10)).block, (ad.add (i.toNat * 10)).off + 6, none⟩ = some (.int .i64 (nd xs i.toNat).val.f3) ∧ w.cell? ⟨(ad.add (i.toNat * 10)).block, (ad.add (i.toNat * 10)).off + 7, none⟩ = some (.int .u64 (nd xs i.toNat).val.f4) ∧ w.cell? ⟨(ad.add (i.toNat * 10)).block, (ad.add (i.toNat * 10)).off + 8, none⟩ = some (.bool (nd xs i.toNat).val.f5) ∧ w.cell? ⟨(ad.add (i.toNat * 10)).block, (ad.add (i.toNat * 10)).off + 9, none⟩ = some (.int .u64 (nd xs i.toNat).val.f6) := by
  obtain ⟨ad, c, e, _, hK, hc0⟩ := Kd.C_get h default i h0 h1
  have hc : ∀ j u, c[j]? = some u → w.cell? (ad.add (i.toNat * 10 + j)) = some u := hc0
  obtain rfl := kN_open hK
  exact ⟨ad, e, hc 0 _ rfl, by rw [← add_field _ _ 1 (by omega)]; exact hc 1 _ rfl, by rw [← add_field _ _ 2 (by omega)]; exact hc 2 _ rfl, by rw [← add_field _ _ 3 (by omega)]; exact hc 3 _ rfl, by rw [← add_field _ _ 4 (by omega)]; exact hc 4 _ rfl, by rw [← add_field _ _ 5 (by omega)]; exact hc 5 _ rfl, by rw [← add_field _ _ 6 (by omega)]; exact hc 6 _ rfl, by rw [← add_field _ _ 7 (by omega)]; exact hc 7 _ rfl, by rw [← add_field _ _ 8 (by omega)]; exact hc 8 _ rfl, by rw [← add_field _ _ 9 (by omega)]; exact hc 9 _ rfl⟩
/-- The cells of a node in a row of one's own. -/
theorem at_row {w : World} {e base g n cap : Nat} {ok : Nat → Prop} {xs : List NI} (h : kN.R e w base ok (.slice (some ⟨g, 0, none⟩) n cap) xs) (i : Nat) (hi : i < n) :
    w.cell? ⟨g, i * 10, none⟩ = some (.int .u64 (nd xs i).when) ∧ w.cell? ⟨g, i * 10 + 1, none⟩ = some (.int .i64 (nd xs i).num) ∧ w.cell? ⟨g, i * 10 + 2, none⟩ = some (.int .i64 (nd xs i).val.f0) ∧ w.cell? ⟨g, i * 10 + 3, none⟩ = some (.int .i64 (nd xs i).val.f1) ∧ w.cell? ⟨g, i * 10 + 4, none⟩ = some (.int .i64 (nd xs i).val.f2.f0) ∧ w.cell? ⟨g, i * 10 + 5, none⟩ = some (.int .i64 (nd xs i).val.f2.f1) ∧ w.cell? ⟨g, i * 10 + 6, none⟩ = some (.int .i64 (nd xs i).val.f3) ∧ w.cell? ⟨g, i * 10 + 7, none⟩ = some (.int .u64 (nd xs i).val.f4) ∧ w.cell? ⟨g, i * 10 + 8, none⟩ = some (.bool (nd xs i).val.f5) ∧ w.cell? ⟨g, i * 10 + 9, none⟩ = some (.int .u64 (nd xs i).val.f6) := by
  obtain ⟨c, hcl, hM, hc0, _⟩ := Kd.R_elem h default (i : Int) (Int.natCast_nonneg i) (by omega)
  obtain rfl := kN_openM hM
  rw [Int.toNat_natCast] at hc0
  exact ⟨hc0 0 _ rfl, hc0 1 _ rfl, hc0 2 _ rfl, hc0 3 _ rfl, hc0 4 _ rfl, hc0 5 _ rfl, hc0 6 _ rfl, hc0 7 _ rfl, hc0 8 _ rfl, hc0 9 _ rfl⟩
abbrev cN (n : NI) : Array Value := #[.int .u64 n.when, .int .i64 n.num, .int .i64 n.val.f0, .int .i64 n.val.f1, .int .i64 n.val.f2.f0, .int .i64 n.val.f2.f1, .int .i64 n.val.f3, .int .u64 n.val.f4, .bool n.val.f5, .int .u64 n.val.f6]
def kv (p : Int × Int) : Int × Value := (p.1, .int .i64 p.2)
theorem look_snd (k : Int) : ∀ (l : List (Int × Value)) (i j : Nat), (Mp.look k l i).map (·.2) = (Mp.look k l j).map (·.2) := by
  intro l
  induction l with
  | nil => intro i j; rfl
  | cons p r ih =>
    intro i j
    obtain ⟨a, v⟩ := p
    unfold Mp.look
    by_cases e : a = k
    · rw [if_pos e, if_pos e]; rfl
    · rw [if_neg e, if_neg e]; exact ih _ _
theorem get_cons (k a : Int) (v : Value) (r : List (Int × Value)) : Mp.get k ((a, v) :: r) = if a = k then some v else Mp.get k r := by
  show (Mp.look k ((a, v) :: r) 0).map (·.2) = if a = k then some v else (Mp.look k r 0).map (·.2)
  rw [Mp.look]
  by_cases e : a = k
  · rw [if_pos e, if_pos e]; rfl
  · rw [if_neg e, if_neg e]; exact look_snd k r 1 0
theorem get_kv (k : Int) : ∀ l : List (Int × Int), Mp.get k (l.map kv) = (getI k l).map (Value.int .i64) := by
  intro l
  induction l with
  | nil => rfl
  | cons p r ih =>
    obtain ⟨a, u⟩ := p
    rw [List.map_cons, show kv (a, u) = (a, .int .i64 u) from rfl, get_cons]
    unfold getI
    by_cases e : a = k
    · rw [if_pos e, if_pos e]; rfl
    · rw [if_neg e, if_neg e]; exact ih
theorem ins_kv (k v : Int) : ∀ l : List (Int × Int), ins k (.int .i64 v) (l.map kv) = (insI k v l).map kv := by
  intro l
  induction l with
  | nil => rfl
  | cons p r ih =>
    obtain ⟨a, u⟩ := p
    rw [List.map_cons, show kv (a, u) = (a, .int .i64 u) from rfl]
    unfold ins insI
    by_cases e : a = k
    · rw [if_pos e, if_pos e]; rfl
    · rw [if_neg e, if_neg e, ih]; rfl
theorem del_kv (k : Int) : ∀ l : List (Int × Int), del k (l.map kv) = (delI k l).map kv := by
  intro l
  induction l with
  | nil => rfl
  | cons p r ih =>
    obtain ⟨a, u⟩ := p
    rw [List.map_cons, show kv (a, u) = (a, .int .i64 u) from rfl]
    unfold del delI
    by_cases e : a = k
    · rw [if_pos e, if_pos e]
    · rw [if_neg e, if_neg e, ih]; rfl
theorem keyI : KeyOk Try.prog 3 (Value.int .i64) := int_key Try.underlying3
theorem zero3 (w : World) : (zeroValue 3).run Try.prog w = .ok (.int .i64 0) w := by kernel_rfl
abbrev cH (v : Value) (mb : Nat) (next : Int) : Array Value := #[v, .map (some mb), .int .i64 next]
/-- A heap in memory: at block p its cells, in block mb its map, its row is v; all its blocks are ok ones. -/
structure HeapAt (w : World) (base p mb : Nat) (v : Value) (ok : Nat → Prop) (l : List NI) (m : List (Int × Int)) (next : Int) : Prop where
  blk : w.heap[p]? = some (.cells #[v, .map (some mb), .int .i64 next] 99 (0, 0))
  row : kN.R 105 w base (fun k => ok k ∧ k ≠ p ∧ k ≠ mb) v l
  map : MapOf (Value.int .i64) w mb (m.map kv)
  ne : p ≠ mb
  okp : ok p
  okm : ok mb
  bp : base ≤ p
  bm : base ≤ mb
  bound : ∀ k, ok k → k < w.heap.size
  low : ∀ k, ok k → base ≤ k
theorem HeapAt.kept {w w' : World} {base p mb : Nat} {v : Value} {ok S : Nat → Prop} {l : List NI} {m : List (Int × Int)} {next : Int} (h : HeapAt w base p mb v ok l m next) (hk : Kept w w' S) (hS : ∀ k, ok k → ¬ S k) : HeapAt w' base p mb v ok l m next :=
  ⟨blk_kept h.blk hk (hS _ h.okp), Kd.R_kept h.row hk (fun k hk => hS k hk.1), h.map.kept (hk.2 mb (h.bound _ h.okm) (hS _ h.okm)), h.ne, h.okp, h.okm, h.bp, h.bm, fun k q => Nat.lt_of_lt_of_le (h.bound k q) hk.1, h.low⟩
theorem HeapAt.below {w w' : World} {base p mb : Nat} {v : Value} {ok : Nat → Prop} {l : List NI} {m : List (Int × Int)} {next : Int} (h : HeapAt w base p mb v ok l m next) (hk : Below w.heap.size w w') : HeapAt w' base p mb v ok l m next :=
  h.kept (Kept.of_below hk (fun _ => False)) (fun _ _ => id)
theorem HeapAt.drew {w : World} {base p mb : Nat} {v : Value} {ok : Nat → Prop} {l : List NI} {m : List (Int × Int)} {next : Int} (h : HeapAt w base p mb v ok l m next) : HeapAt w.drew base p mb v ok l m next := h.below (below_drew (Below.refl _ _))
theorem HeapAt.drewN {w : World} {base p mb : Nat} {v : Value} {ok : Nat → Prop} {l : List NI} {m : List (Int × Int)} {next : Int} (h : HeapAt w base p mb v ok l m next) (n : Nat) : HeapAt (w.drewN n) base p mb v ok l m next := h.below (pw_below_drewN (Below.refl _ _) _)
theorem HeapAt.le {w : World} {base p mb : Nat} {v : Value} {ok : Nat → Prop} {l : List NI} {m : List (Int × Int)} {next : Int} (h : HeapAt w base p mb v ok l m next) : base ≤ w.heap.size := Nat.le_of_lt (Nat.lt_of_le_of_lt h.bp (h.bound _ h.okp))
theorem HeapAt.grown {w w' : World} {base p mb g : Nat} {v : Value} {ok : Nat → Prop} {l : List NI} {m : List (Int × Int)} {next : Int} (h : HeapAt w base p mb v ok l m next) (hg : w.grownBy w' (some g)) (hne : ¬ ok g) : HeapAt w' base p mb v ok l m next :=
  h.kept (S := fun k => k = g) ⟨hg.size, fun i hi hn => hg.block i hi (fun e => hn (by cases e; rfl))⟩ (fun k hk e => hne (by rw [← e]; exact hk))
theorem HeapAt.new {w : World} {base p mb : Nat} {v : Value} {ok : Nat → Prop} {l : List NI} {m : List (Int × Int)} {next : Int} (h : HeapAt w base p mb v ok l m next) {k : Nat} (hk : w.heap.size ≤ k) : ¬ ok k := fun q => by have := h.bound k q; omega
/-- Its row has been written. -/
theorem HeapAt.stored {w w' : World} {base p mb g n cap : Nat} {ok : Nat → Prop} {l l' : List NI} {m : List (Int × Int)} {next : Int} (h : HeapAt w base p mb (.slice (some ⟨g, 0, none⟩) n cap) ok l m next)
    (hr : kN.R 105 w' base (fun k => ok k ∧ k ≠ p ∧ k ≠ mb) (.slice (some ⟨g, 0, none⟩) n cap) l') (hg : w.grownBy w' (some g)) (hok : ok g ∧ g ≠ p ∧ g ≠ mb) : HeapAt w' base p mb (.slice (some ⟨g, 0, none⟩) n cap) ok l' m next :=
  ⟨(hg.block p (h.bound _ h.okp) (by intro e; cases e; exact hok.2.1 rfl)).trans h.blk, hr, h.map.grown hg (by intro e; cases e; exact hok.2.2 rfl), h.ne, h.okp, h.okm, h.bp, h.bm, fun k q => Nat.lt_of_lt_of_le (h.bound k q) hg.size, h.low⟩
/-- Its own cells have been written. -/
theorem HeapAt.celled {w w' : World} {base p mb : Nat} {v : Value} {ok : Nat → Prop} {l : List NI} {m : List (Int × Int)} {next next' : Int} (h : HeapAt w base p mb v ok l m next)
    (hb : w'.heap[p]? = some (.cells #[v, .map (some mb), .int .i64 next'] 99 (0, 0))) (hg : w.grownBy w' (some p)) : HeapAt w' base p mb v ok l m next' :=
  ⟨hb, Kd.R_grown h.row hg (fun k hk e => by cases e; exact hk.2.1 rfl), h.map.grown hg (by intro e; cases e; exact h.ne rfl), h.ne, h.okp, h.okm, h.bp, h.bm, fun k q => Nat.lt_of_lt_of_le (h.bound k q) hg.size, h.low⟩
/-- Its row has been cut. -/
theorem HeapAt.cut {w w' : World} {base p mb n n' cap : Nat} {A : Option Addr} {ok : Nat → Prop} {l : List NI} {m : List (Int × Int)} {next : Int} (h : HeapAt w base p mb (.slice A n cap) ok l m next) (hn : n' ≤ l.length)
    (hb : w'.heap[p]? = some (.cells #[.slice A n' cap, .map (some mb), .int .i64 next] 99 (0, 0))) (hg : w.grownBy w' (some p)) : HeapAt w' base p mb (.slice A n' cap) ok (l.take n') m next :=
  ⟨hb, Kd.R_grown (Kd.R_take h.row hn) hg (fun k hk e => by cases e; exact hk.2.1 rfl), h.map.grown hg (by intro e; cases e; exact h.ne rfl), h.ne, h.okp, h.okm, h.bp, h.bm, fun k q => Nat.lt_of_lt_of_le (h.bound k q) hg.size, h.low⟩
/-- Its map has been written. -/
theorem HeapAt.mapped {w w' : World} {base p mb : Nat} {v : Value} {ok : Nat → Prop} {l : List NI} {m m' : List (Int × Int)} {next : Int} (h : HeapAt w base p mb v ok l m next)
    (hm : MapOf (Value.int .i64) w' mb (m'.map kv)) (hg : w.grownBy w' (some mb)) : HeapAt w' base p mb v ok l m' next :=
  ⟨(hg.block p (h.bound _ h.okp) (by intro e; cases e; exact h.ne rfl)).trans h.blk, Kd.R_grown h.row hg (fun k hk e => by cases e; exact hk.2.2 rfl), hm, h.ne, h.okp, h.okm, h.bp, h.bm, fun k q => Nat.lt_of_lt_of_le (h.bound k q) hg.size, h.low⟩
set_option maxHeartbeats 1000000 in
set_option maxRecDepth 100000 in
theorem set_calls (base p mb : Nat) (v : Value) (ok : Nat → Prop) (l : List NI) (m : List (Int × Int)) (next : Int) (i : Int) (n : NI) (w : World) (H : HeapAt w base p mb v ok l m next) (h0 : 0 ≤ i) (h1 : i < l.length) :
    Calls Try.prog 46 #[.pointer (some ⟨p, 0, none⟩), .int .i64 i, .agg #[.int .u64 n.when, .int .i64 n.num, .int .i64 n.val.f0, .int .i64 n.val.f1, .int .i64 n.val.f2.f0, .int .i64 n.val.f2.f1, .int .i64 n.val.f3, .int .u64 n.val.f4, .bool n.val.f5, .int .u64 n.val.f6]] w fun e w' => e = .returned (.tuple #[]) ∧ HeapAt w' base p mb v ok (l.set i.toNat n) (insI n.num i m) next ∧ Fr base ok w w' := by
  have HH := Aside0.mk H
  have HP := Aside0.mk H.ne
  obtain ⟨g, cap, rfl, hbg, hgl, cells0, hg0⟩ := Kd.R_form H.row (by omega)
  have HG := Aside0.mk hg0
  have hok := H.row.1 g (by simp [Value.ownBlock])
  have HOK := Aside0.mk hok
  clear H hok hg0
  go_enter Try.func46, Try.ntmps46
  go_wp2_with (first
    | ((with_reducible refine gate_dst (N := 5) rfl ?_); refine box_event ?hg (N := 5) ?hd (cs := #[.int .u64 n.when, .int .i64 n.num, .int .i64 n.val.f0, .int .i64 n.val.f1, .int .i64 n.val.f2.f0, .int .i64 n.val.f2.f1, .int .i64 n.val.f3, .int .u64 n.val.f4, .bool n.val.f5, .int .u64 n.val.f6]) (t := 105) ?hr ?_; (case hd => rfl); (case hg => rfl); (case hr => first | (go_simp; done) | (go_simp; rfl)); intro gp hgp w2 hbox hb; have HB1 := Aside0.mk hb; have BK1 := Aside0.mk hbox; have HNG : Aside0 (g ≠ gp) := ⟨by have := HH.out.bound g HOK.out.1; omega⟩; clear hb hbox hgp))
  have hl := (Kd.R_reads' HH.out.row).2.2.2.1
  have hp0 : w2.cell? ⟨p, 0, none⟩ = some (.slice (some ⟨g, 0, none⟩) l.length cap) := (blk_cell (blk_below HH.out.blk HB1.out) 0).trans rfl
  have hb0 : w2.cell? ⟨gp, 0, none⟩ = some (.int .u64 n.when) := (blk_cell BK1.out 0).trans rfl
  have hb1 : w2.cell? ⟨gp, 1, none⟩ = some (.int .i64 n.num) := (blk_cell BK1.out 1).trans rfl
  have hb2 : w2.cell? ⟨gp, 2, none⟩ = some (.int .i64 n.val.f0) := (blk_cell BK1.out 2).trans rfl
  have hb3 : w2.cell? ⟨gp, 3, none⟩ = some (.int .i64 n.val.f1) := (blk_cell BK1.out 3).trans rfl
  have hb4 : w2.cell? ⟨gp, 4, none⟩ = some (.int .i64 n.val.f2.f0) := (blk_cell BK1.out 4).trans rfl
  have hb5 : w2.cell? ⟨gp, 5, none⟩ = some (.int .i64 n.val.f2.f1) := (blk_cell BK1.out 5).trans rfl
  have hb6 : w2.cell? ⟨gp, 6, none⟩ = some (.int .i64 n.val.f3) := (blk_cell BK1.out 6).trans rfl
  have hb7 : w2.cell? ⟨gp, 7, none⟩ = some (.int .u64 n.val.f4) := (blk_cell BK1.out 7).trans rfl
  have hb8 : w2.cell? ⟨gp, 8, none⟩ = some (.bool n.val.f5) := (blk_cell BK1.out 8).trans rfl
  have hb9 : w2.cell? ⟨gp, 9, none⟩ = some (.int .u64 n.val.f6) := (blk_cell BK1.out 9).trans rfl
  go_still_tail 7, (by kernel_rfl)
  change wpList _ _ _ _ _ w2.drew
  have HF2 := Aside0.mk ((Fr.refl HH.out.le HH.out.low).below (below_drew HB1.out))
  have HB2 := Aside0.mk (below_drew HB1.out)
  have BK2 : Aside0 (w2.drew.heap[gp]? = some (.cells #[.int .u64 n.when, .int .i64 n.num, .int .i64 n.val.f0, .int .i64 n.val.f1, .int .i64 n.val.f2.f0, .int .i64 n.val.f2.f1, .int .i64 n.val.f3, .int .u64 n.val.f4, .bool n.val.f5, .int .u64 n.val.f6] 105 (0, 0))) := ⟨BK1.out⟩
  have HA2 := Aside0.mk (HH.out.below HB2.out)
  generalize w2.drew = w3 at *
  clear hp0 hb0 hb1 hb2 hb3 hb4 hb5 hb6 hb7 hb8 hb9 BK1 HB1
  obtain ⟨c, hcl, hcM, hcc, _⟩ := Kd.R_elem HA2.out.row default i h0 (by omega)
  refine Kd.R_store kN (w0 := w3) base rfl rfl 105 (.tmp 12) (.tmp 11) rfl 105 i 0 l n (.agg #[.int .u64 n.when, .int .i64 n.num, .int .i64 n.val.f0, .int .i64 n.val.f1, .int .i64 n.val.f2.f0, .int .i64 n.val.f2.f1, .int .i64 n.val.f3, .int .u64 n.val.f4, .bool n.val.f5, .int .u64 n.val.f6]) [.int .u64 n.when, .int .i64 n.num, .int .i64 n.val.f0, .int .i64 n.val.f1, .int .i64 n.val.f2.f0, .int .i64 n.val.f2.f1, .int .i64 n.val.f3, .int .u64 n.val.f4, .bool n.val.f5, .int .u64 n.val.f6] c _ (fun _ => False) rfl (by show _ = i.toNat * 10 + 0; omega) rfl rfl (by kernel_rfl) (by simp [Value.oneCell']) HA2.out.row h0 (by omega) hcl hcc (by show 0 + 10 ≤ 10; omega) (by have hc3 : c.length = 10 := hcl; rw [show c.take 0 ++ [.int .u64 n.when, .int .i64 n.num, .int .i64 n.val.f0, .int .i64 n.val.f1, .int .i64 n.val.f2.f0, .int .i64 n.val.f2.f1, .int .i64 n.val.f3, .int .u64 n.val.f4, .bool n.val.f5, .int .u64 n.val.f6] ++ c.drop (0 + [Value.int .u64 n.when, .int .i64 n.num, .int .i64 n.val.f0, .int .i64 n.val.f1, .int .i64 n.val.f2.f0, .int .i64 n.val.f2.f1, .int .i64 n.val.f3, .int .u64 n.val.f4, .bool n.val.f5, .int .u64 n.val.f6].length) = [.int .u64 n.when, .int .i64 n.num, .int .i64 n.val.f0, .int .i64 n.val.f1, .int .i64 n.val.f2.f0, .int .i64 n.val.f2.f1, .int .i64 n.val.f3, .int .u64 n.val.f4, .bool n.val.f5, .int .u64 n.val.f6] from by simp [List.drop_of_length_le, hc3]]; exact kN_mkM _ _ _ _) (fun _ h => h.elim) (Below.refl _ _) ?_
  intro w4 hrow hb4 hg4
  have HA4 : Aside0 (HeapAt w4 base p mb (.slice (some ⟨g, 0, none⟩) l.length cap) ok (l.set i.toNat n) m next) := ⟨HA2.out.stored hrow hg4 HOK.out⟩
  have BK4 := Aside0.mk (show w4.heap[gp]? = some _ from (hg4.block gp (blk_lt BK2.out) (by intro e; cases e; exact (HNG.out rfl))).trans BK2.out)
  have HF4 := Aside0.mk (HF2.out.grown hg4 (.inl HOK.out.1))
  clear hrow hb4 hg4 hcM hcc hcl BK2 HA2 HB2 HF2
  have hp0 : w4.cell? ⟨p, 1, none⟩ = some (.map (some mb)) := (blk_cell HA4.out.blk 1).trans rfl
  have hb1 : w4.cell? ⟨gp, 1, none⟩ = some (.int .i64 n.num) := (blk_cell BK4.out 1).trans rfl
  go_wp2
  go_still_tail 7, (by kernel_rfl)
  change wpList _ _ _ _ _ w4.drew
  have HA5 := Aside0.mk (HA4.out.drew)
  have HF5 := Aside0.mk (HF4.out.drew)
  generalize w4.drew = w5 at *
  clear hp0 hb1 BK4 HA4 HF4
  refine step_put keyI Try.underlying96 rfl rfl HA5.out.map n.num (.int .i64 i) rfl rfl (by rfl) ?_
  intro w6 hm6 hg6 hs6
  have HA6 : Aside0 (HeapAt w6 base p mb (.slice (some ⟨g, 0, none⟩) l.length cap) ok (l.set i.toNat n) (insI n.num i m) next) := ⟨HA5.out.mapped (by rw [← ins_kv]; exact hm6) hg6⟩
  have HF6 := Aside0.mk (HF5.out.grown hg6 (.inl HH.out.okm))
  clear hm6 hg6 hs6
  go_wp2
  go_end0
  exact ⟨rfl, HA6.out, HF6.out⟩
end Go.Proofs.Ytceopcfmhidjlaa.PTimerPlays
set_option linter.unusedVariables false
set_option linter.unusedSimpArgs false
namespace Go.Proofs.Ytceopcfmhidjlaa.PTimerPlays
open Go.RowKit Go.Proofs.Ytceopcfmhidjlaa.Ef Go.Proofs.Ytceopcfmhidjlaa.Mp Go.Proofs.Ytceopcfmhidjlaa.Hp Go.Proofs.YtceopcfmhidjlaaW.PrintWords Go.Proofs.YtceopcfmhidjlaaW.PrintLast Go.Proofs.YtceopcfmhidjlaaW.PrintMore
theorem ahead_calls (a b : NI) (r : Bool) (w : World) (h : Hp.ahead a b = r) :
    Calls Try.prog 61 #[.agg #[.int .u64 a.when, .int .i64 a.num, .int .i64 a.val.f0, .int .i64 a.val.f1, .int .i64 a.val.f2.f0, .int .i64 a.val.f2.f1, .int .i64 a.val.f3, .int .u64 a.val.f4, .bool a.val.f5, .int .u64 a.val.f6], .agg #[.int .u64 b.when, .int .i64 b.num, .int .i64 b.val.f0, .int .i64 b.val.f1, .int .i64 b.val.f2.f0, .int .i64 b.val.f2.f1, .int .i64 b.val.f3, .int .u64 b.val.f4, .bool b.val.f5, .int .u64 b.val.f6]] w fun e w' => e = .returned (.bool r) ∧ Below w.heap.size w w' := by
  refine api_Timer_ahead.calls a.when a.num a.val.f0 a.val.f1 a.val.f2.f0 a.val.f2.f1 a.val.f3 a.val.f4 a.val.f5 a.val.f6 b.when b.num b.val.f0 b.val.f1 b.val.f2.f0 b.val.f2.f1 b.val.f3 b.val.f4 b.val.f5 b.val.f6 r w ?_
  rw [← h]
  unfold api_Timer_ahead.f Hp.ahead
  by_cases h1 : a.when < b.when
  · rw [if_pos h1]; simp [h1]
  · rw [if_neg h1]
    by_cases h2 : a.when = b.when
    · rw [if_pos h2]; simp [h2]
    · rw [if_neg h2]; simp [h1, h2]
theorem par_cast {i : Nat} (h : 0 < i) : ((i : Int) - 1) / 4 = (par i : Int) := by unfold par; omega
set_option maxHeartbeats 1000000 in
set_option maxRecDepth 100000 in
theorem up_calls (base p mb : Nat) (v : Value) (ok : Nat → Prop) (l : List NI) (m : List (Int × Int)) (next : Int) (i : Nat) (w : World) (H : HeapAt w base p mb v ok l m next) (h1 : i < l.length) :
    Calls Try.prog 47 #[.pointer (some ⟨p, 0, none⟩), .int .i64 (i : Int)] w fun e w' => e = .returned (.tuple #[]) ∧ HeapAt w' base p mb v ok (upA l m i).1 (upA l m i).2 next ∧ Fr base ok w w' := by
  have HH := Aside0.mk H
  obtain ⟨g, cap, rfl, hbg, hgl, cells0, hg0⟩ := Kd.R_form H.row (by omega)
  have hlen := (Kd.R_reads' HH.out.row).2.2.2.1
  have hi1 : (i : Int) < (l.length : Int) := by omega
  obtain ⟨hx0, hx1, hx2, hx3, hx4, hx5, hx6, hx7, hx8, hx9⟩ := at_row H.row i h1
  have hp0 : w.cell? ⟨p, 0, none⟩ = some (.slice (some ⟨g, 0, none⟩) l.length cap) := (blk_cell H.blk 0).trans rfl
  have HF := Aside0.mk (Fr.refl H.le H.low)
  clear H hg0
  go_enter Try.func47, Try.ntmps47
  go_wp2_with (first
    | ((with_reducible refine gate_dst (N := 4) rfl ?_); refine box_event ?hg (N := 4) ?hd (cs := #[.int .u64 0, .int .i64 0, .int .i64 0, .int .i64 0, .int .i64 0, .int .i64 0, .int .i64 0, .int .u64 0, .bool false, .int .u64 0]) (t := 105) ?hr ?_; (case hd => rfl); (case hg => rfl); (case hr => first | (go_simp; done) | (go_simp; rfl)); intro gn hgn w2 hbox hb; have HFa := Aside0.mk (HF.out.below hb); have HAa := Aside0.mk (HH.out.below hb); have BK1 := Aside0.mk hbox; have HN := Aside0.mk (show w.heap.size ≤ gn by omega); clear hb hbox hgn hx0 hx1 hx2 hx3 hx4 hx5 hx6 hx7 hx8 hx9 hp0)
    | ((with_reducible refine gate_store (t := 105) (p := 4) (v := .tmp 12) rfl ?_); go_loud (refine step_store rfl rfl rfl BK1.out rfl (u := .agg (cN (nd l i))) (seg := (cN (nd l i)).toList) rfl rfl (by kernel_rfl) (by simp [Value.oneCell']) (Nat.le_refl 10) (cur' := cN (nd l i)) rfl ?_); intro w3 hb3 hg3 hs3; have HF1 := Aside0.mk (HFa.out.grown hg3 (.inr HN.out)); have BK := Aside0.mk hb3; have HA := Aside0.mk (HAa.out.grown hg3 (HH.out.new HN.out)); clear hb3 hg3 hs3 BK1 HFa HAa))
  simp only [Act.put, List.setIfInBounds_toArray, List.set_cons_succ, List.set_cons_zero]
  go_loopw [1] (fun v1 wr => ∃ (j k : Nat) (l1 : List NI) (m1 : List (Int × Int)), v1 = .int .i64 (j : Int) ∧ Aside0 (j ≤ k ∧ j < l1.length ∧ l1.length = l.length) ∧ Aside0 (upF k l1 m1 j (nd l i) = upF i l m i (nd l i)) ∧ Aside0 (HeapAt wr base p mb (.slice (some ⟨g, 0, none⟩) l.length cap) ok l1 m1 next) ∧ Aside0 (Fr base ok w wr) ∧ Aside0 (wr.heap[gn]? = some (.cells (cN (nd l i)) 105 (0, 0)))) (fun v1 _ => (intOf v1).toNat)
  case atStart => exact ⟨i, i, l, m, rfl, ⟨Nat.le_refl _, h1, rfl⟩, ⟨rfl⟩, HA, HF1, BK⟩
  case round =>
    clear HF1 BK HF HA
    obtain ⟨j, k, l1, m1, rfl, HJ, HU, HA, HF, BK⟩ := hrel
    have hj := HJ.out.2.1
    have hl1 := HJ.out.2.2
    have hn0 : wr.cell? ⟨gn, 0, none⟩ = some (.int .u64 (nd l i).when) := (blk_cell BK.out 0).trans rfl
    have hn1 : wr.cell? ⟨gn, 1, none⟩ = some (.int .i64 (nd l i).num) := (blk_cell BK.out 1).trans rfl
    have hn2 : wr.cell? ⟨gn, 2, none⟩ = some (.int .i64 (nd l i).val.f0) := (blk_cell BK.out 2).trans rfl; have hn3 : wr.cell? ⟨gn, 3, none⟩ = some (.int .i64 (nd l i).val.f1) := (blk_cell BK.out 3).trans rfl; have hn4 : wr.cell? ⟨gn, 4, none⟩ = some (.int .i64 (nd l i).val.f2.f0) := (blk_cell BK.out 4).trans rfl; have hn5 : wr.cell? ⟨gn, 5, none⟩ = some (.int .i64 (nd l i).val.f2.f1) := (blk_cell BK.out 5).trans rfl; have hn6 : wr.cell? ⟨gn, 6, none⟩ = some (.int .i64 (nd l i).val.f3) := (blk_cell BK.out 6).trans rfl; have hn7 : wr.cell? ⟨gn, 7, none⟩ = some (.int .u64 (nd l i).val.f4) := (blk_cell BK.out 7).trans rfl; have hn8 : wr.cell? ⟨gn, 8, none⟩ = some (.bool (nd l i).val.f5) := (blk_cell BK.out 8).trans rfl; have hn9 : wr.cell? ⟨gn, 9, none⟩ = some (.int .u64 (nd l i).val.f6) := (blk_cell BK.out 9).trans rfl
    by_cases h0 : j = 0
    · subst h0
      have HE : Aside0 ((l1, m1, 0) = upF i l m i (nd l i)) := ⟨by rw [← HU.out]; cases k <;> rfl⟩
      go_wp2_with fail
      refine (set_calls base p mb _ ok l1 m1 next (0 : Nat) (nd l i) _ HA.out (by omega) (by omega)).mono ?_
      rintro e w4 ⟨rfl, hA, hF⟩
      go_wp2
      go_end0
      refine ⟨rfl, ?_, HF.out.then_ hF (Nat.le_refl _) (fun k q => .inl q)⟩
      unfold upA put
      rw [← HE.out]
      exact hA
    · have h0' : (0 : Int) < (j : Int) := by omega
      have hpj := par_lt (i := j) (by omega)
      have hp0 : wr.cell? ⟨p, 0, none⟩ = some (.slice (some ⟨g, 0, none⟩) l.length cap) := (blk_cell HA.out.blk 0).trans rfl
      obtain ⟨y0, y1, y2, y3, y4, y5, y6, y7, y8, y9⟩ := at_row HA.out.row (par j) (by omega)
      obtain ⟨x, HX⟩ : ∃ x, Aside0 (nd l1 (par j) = x) := ⟨_, ⟨rfl⟩⟩
      rw [HX.out] at y0 y1 y2 y3 y4 y5 y6 y7 y8 y9
      have HPJ : Aside0 (((j : Int) - 1) / 4 = (par j : Int)) := ⟨par_cast (by omega)⟩
      have q1 : (0 : Int) ≤ ((j : Int) - 1) / 4 := by omega
      have q2 : ((j : Int) - 1) / 4 < (l.length : Int) := by have := HPJ.out; omega
      have HPT : Aside0 ((((j : Int) - 1) / 4).toNat = par j) := ⟨by rw [HPJ.out]; rfl⟩
      rw [← HPT.out] at y0 y1 y2 y3 y4 y5 y6 y7 y8 y9
      by_cases ha : Hp.ahead (nd l i) x = true
      all_goals
        have HAh := Aside0.mk ha
        clear ha
      · go_wp2_with fail
        go_still_tail 8, (by kernel_rfl)
        change wpList _ _ _ _ _ wr.drew
        have HA1 := Aside0.mk HA.out.drew
        have HF1 := Aside0.mk HF.out.drew
        have BK1 : Aside0 (wr.drew.heap[gn]? = some (.cells (cN (nd l i)) 105 (0, 0))) := ⟨BK.out⟩
        generalize wr.drew = w3 at *
        clear hp0 hn0 hn1 hn2 hn3 hn4 hn5 hn6 hn7 hn8 hn9 y0 y1 y2 y3 y4 y5 y6 y7 y8 y9 HA HF BK
        go_wp2_with (first
          | (go_at_call 61; (refine (ahead_calls (nd l i) x true _ HAh.out).mono ?_); rintro e w5 ⟨rfl, hb⟩; have HA2 := Aside0.mk (HA1.out.below hb); have HF2 := Aside0.mk (HF1.out.below hb); have BK2 := Aside0.mk (blk_below BK1.out hb); clear hb HA1 HF1 BK1; have hp0 : w5.cell? ⟨p, 0, none⟩ = some (.slice (some ⟨g, 0, none⟩) l.length cap) := (blk_cell HA2.out.blk 0).trans rfl; obtain ⟨y0, y1, y2, y3, y4, y5, y6, y7, y8, y9⟩ := at_row HA2.out.row (par j) (by omega); rw [HX.out] at y0 y1 y2 y3 y4 y5 y6 y7 y8 y9; unfold par at y0 y1 y2 y3 y4 y5 y6 y7 y8 y9)
          | (go_at_call 46; (refine (set_calls base p mb _ ok l1 m1 next (j : Int) x _ HA2.out (by omega) (by omega)).mono ?_); rintro e w6 ⟨rfl, hA, hF⟩; have HA3 := Aside0.mk hA; have HF3 := Aside0.mk (HF2.out.then_ hF (Nat.le_refl _) (fun k q => .inl q)); have BK3 := Aside0.mk (hF.blk BK2.out (HH.out.new HN.out)); clear hA hF hp0 y0 y1 y2 y3 y4 y5 y6 y7 y8 y9 HA2 HF2 BK2))
        go_roundw
        case rel =>
          refine ⟨par j, k - 1, l1.set j x, insI x.num j m1, by rw [HPJ.out], ⟨by have := HJ.out; omega, by rw [List.length_set]; omega, by rw [List.length_set]; exact hl1⟩, ⟨?_⟩, ⟨by have := HA3.out; rw [Int.toNat_natCast] at this; exact this⟩, HF3, BK3⟩
          obtain ⟨k', rfl⟩ : ∃ k', k = k' + 1 := ⟨k - 1, by have := HJ.out; omega⟩
          have hu := HU.out
          rw [upF, if_neg h0, HX.out, if_pos HAh.out] at hu
          exact hu
        case measure => simp [intOf]; omega
      · have HAf : Aside0 (Hp.ahead (nd l i) x = false) := ⟨by simpa using HAh.out⟩
        have HE : Aside0 ((l1, m1, j) = upF i l m i (nd l i)) := ⟨by
          obtain ⟨k', rfl⟩ : ∃ k', k = k' + 1 := ⟨k - 1, by have := HJ.out; omega⟩
          have hu := HU.out
          rw [upF, if_neg h0, HX.out, if_neg HAh.out] at hu
          exact hu⟩
        clear HAh
        go_wp2_with fail
        go_still_tail 8, (by kernel_rfl)
        change wpList _ _ _ _ _ wr.drew
        have HA1 := Aside0.mk HA.out.drew
        have HF1 := Aside0.mk HF.out.drew
        have BK1 : Aside0 (wr.drew.heap[gn]? = some (.cells (cN (nd l i)) 105 (0, 0))) := ⟨BK.out⟩
        generalize wr.drew = w3 at *
        clear hp0 hn0 hn1 hn2 hn3 hn4 hn5 hn6 hn7 hn8 hn9 y0 y1 y2 y3 y4 y5 y6 y7 y8 y9 HA HF BK
        go_wp2_with (first
          | (go_at_call 61; (refine (ahead_calls (nd l i) x false _ HAf.out).mono ?_); rintro e w5 ⟨rfl, hb⟩; have HA2 := Aside0.mk (HA1.out.below hb); have HF2 := Aside0.mk (HF1.out.below hb); have BK2 := Aside0.mk (blk_below BK1.out hb); clear hb HA1 HF1 BK1; have hn0 : w5.cell? ⟨gn, 0, none⟩ = some (.int .u64 (nd l i).when) := (blk_cell BK2.out 0).trans rfl; have hn1 : w5.cell? ⟨gn, 1, none⟩ = some (.int .i64 (nd l i).num) := (blk_cell BK2.out 1).trans rfl; have hn2 : w5.cell? ⟨gn, 2, none⟩ = some (.int .i64 (nd l i).val.f0) := (blk_cell BK2.out 2).trans rfl; have hn3 : w5.cell? ⟨gn, 3, none⟩ = some (.int .i64 (nd l i).val.f1) := (blk_cell BK2.out 3).trans rfl; have hn4 : w5.cell? ⟨gn, 4, none⟩ = some (.int .i64 (nd l i).val.f2.f0) := (blk_cell BK2.out 4).trans rfl; have hn5 : w5.cell? ⟨gn, 5, none⟩ = some (.int .i64 (nd l i).val.f2.f1) := (blk_cell BK2.out 5).trans rfl; have hn6 : w5.cell? ⟨gn, 6, none⟩ = some (.int .i64 (nd l i).val.f3) := (blk_cell BK2.out 6).trans rfl; have hn7 : w5.cell? ⟨gn, 7, none⟩ = some (.int .u64 (nd l i).val.f4) := (blk_cell BK2.out 7).trans rfl; have hn8 : w5.cell? ⟨gn, 8, none⟩ = some (.bool (nd l i).val.f5) := (blk_cell BK2.out 8).trans rfl; have hn9 : w5.cell? ⟨gn, 9, none⟩ = some (.int .u64 (nd l i).val.f6) := (blk_cell BK2.out 9).trans rfl)
          | (go_at_call 46; (refine (set_calls base p mb _ ok l1 m1 next (j : Int) (nd l i) _ HA2.out (by omega) (by omega)).mono ?_); rintro e w6 ⟨rfl, hA, hF⟩; have HA3 := Aside0.mk hA; have HF3 := Aside0.mk (HF2.out.then_ hF (Nat.le_refl _) (fun k q => .inl q)); clear hA hF hn0 hn1 hn2 hn3 hn4 hn5 hn6 hn7 hn8 hn9 HA2 HF2 BK2))
        go_end0
        refine ⟨rfl, ?_, HF3.out⟩
        unfold upA put
        rw [← HE.out]
        have := HA3.out
        rw [Int.toNat_natCast] at this
        exact this
theorem up_calls' (base p mb : Nat) (v : Value) (ok : Nat → Prop) (l : List NI) (m : List (Int × Int)) (next : Int) (i : Nat) (x : Int) (hx : x = (i : Int)) (w : World) (H : HeapAt w base p mb v ok l m next) (h1 : i < l.length) :
    Calls Try.prog 47 #[.pointer (some ⟨p, 0, none⟩), .int .i64 x] w fun e w' => e = .returned (.tuple #[]) ∧ HeapAt w' base p mb v ok (upA l m i).1 (upA l m i).2 next ∧ Fr base ok w w' := by
  subst hx; exact up_calls base p mb v ok l m next i w H h1
end Go.Proofs.Ytceopcfmhidjlaa.PTimerPlays
set_option linter.unusedVariables false
set_option linter.unusedSimpArgs false
namespace Go.Proofs.Ytceopcfmhidjlaa.PTimerPlays
open Go.RowKit Go.Proofs.Ytceopcfmhidjlaa.Ef Go.Proofs.Ytceopcfmhidjlaa.Mp Go.Proofs.Ytceopcfmhidjlaa.Hp Go.Proofs.YtceopcfmhidjlaaW.PrintWords Go.Proofs.YtceopcfmhidjlaaW.PrintLast Go.Proofs.YtceopcfmhidjlaaW.PrintMore
attribute [local go_sem] max2_int min2_int max_two min_two
theorem best_step (l : List NI) (d k j : Nat) (x y : NI) (hx : nd l j = x) (hy : nd l k = y) (b : Bool) (hb : Hp.ahead x y = b) : best l (d + 1) k j = best l d (if b = true then j else k) (j + 1) := by
  subst hx hy hb; rfl
def lim (len j : Nat) : Nat := min (4 * j + 1 + 4) len
theorem kid_eq (l : List NI) (j : Nat) : kid l j = best l (lim l.length j - (4 * j + 1 + 1)) (4 * j + 1) (4 * j + 1 + 1) := rfl
set_option maxHeartbeats 4000000 in
set_option maxRecDepth 100000 in
theorem down_calls (base p mb : Nat) (v : Value) (ok : Nat → Prop) (l : List NI) (m : List (Int × Int)) (next : Int) (i : Nat) (w : World) (H : HeapAt w base p mb v ok l m next) (h1 : i < l.length) (hsm : l.length ≤ 1000000000000000000) :
    Calls Try.prog 48 #[.pointer (some ⟨p, 0, none⟩), .int .i64 (i : Int)] w fun e w' => e = .returned (.tuple #[]) ∧ HeapAt w' base p mb v ok (downA l m i).1 (downA l m i).2 next ∧ Fr base ok w w' := by
  have HH := Aside0.mk H
  obtain ⟨g, cap, rfl, hbg, hgl, cells0, hg0⟩ := Kd.R_form H.row (by omega)
  have hi1 : (i : Int) < (l.length : Int) := by omega
  obtain ⟨hx0, hx1, hx2, hx3, hx4, hx5, hx6, hx7, hx8, hx9⟩ := at_row H.row i h1
  have hp0 : w.cell? ⟨p, 0, none⟩ = some (.slice (some ⟨g, 0, none⟩) l.length cap) := (blk_cell H.blk 0).trans rfl
  have HF := Aside0.mk (Fr.refl H.le H.low)
  clear H hg0
  go_enter Try.func48, Try.ntmps48
  go_wp2_with (first
    | ((with_reducible refine gate_dst (N := 4) rfl ?_); refine box_event ?hg (N := 4) ?hd (cs := #[.int .u64 0, .int .i64 0, .int .i64 0, .int .i64 0, .int .i64 0, .int .i64 0, .int .i64 0, .int .u64 0, .bool false, .int .u64 0]) (t := 105) ?hr ?_; (case hd => rfl); (case hg => rfl); (case hr => first | (go_simp; done) | (go_simp; rfl)); intro gn hgn w2 hbox hb; have HFa := Aside0.mk (HF.out.below hb); have HAa := Aside0.mk (HH.out.below hb); have BK1 := Aside0.mk hbox; have HN := Aside0.mk (show w.heap.size ≤ gn by omega); clear hb hbox hgn hx0 hx1 hx2 hx3 hx4 hx5 hx6 hx7 hx8 hx9 hp0)
    | ((with_reducible refine gate_store (t := 105) (p := 4) (v := .tmp 14) rfl ?_); refine step_store rfl rfl rfl BK1.out rfl (u := .agg (cN (nd l i))) (seg := (cN (nd l i)).toList) rfl rfl (by kernel_rfl) (by simp [Value.oneCell']) (Nat.le_refl 10) (cur' := cN (nd l i)) rfl ?_; intro w3 hb3 hg3 hs3; have HF1 := Aside0.mk (HFa.out.grown hg3 (.inr HN.out)); have BK := Aside0.mk hb3; have HA := Aside0.mk (HAa.out.grown hg3 (HH.out.new HN.out)); clear hb3 hg3 hs3 BK1 HFa HAa))
  simp only [Act.put, List.setIfInBounds_toArray, List.set_cons_succ, List.set_cons_zero]
  go_loopw [1, 5, 6, 7] (fun v1 _ _ _ wr => ∃ (j k : Nat) (l1 : List NI) (m1 : List (Int × Int)), v1 = .int .i64 (j : Int) ∧ Aside0 (l.length ≤ j + k ∧ j < l1.length ∧ l1.length = l.length) ∧ Aside0 (downF k l1 m1 j (nd l i) = downF (l.length - i) l m i (nd l i)) ∧ Aside0 (HeapAt wr base p mb (.slice (some ⟨g, 0, none⟩) l.length cap) ok l1 m1 next) ∧ Aside0 (Fr base ok w wr) ∧ Aside0 (wr.heap[gn]? = some (.cells (cN (nd l i)) 105 (0, 0)))) (fun v1 _ _ _ _ => l.length - (intOf v1).toNat)
  case atStart => exact ⟨i, l.length - i, l, m, rfl, ⟨by omega, h1, rfl⟩, ⟨rfl⟩, HA, HF1, BK⟩
  case round =>
    clear HF1 BK HF HA
    obtain ⟨j, k, l1, m1, rfl, HJ, HU, HA, HF, BK⟩ := hrel
    have hj := HJ.out.2.1
    have hl1 := HJ.out.2.2
    have hjj : (j : Int) < (l.length : Int) := by omega
    have hp0 : wr.cell? ⟨p, 0, none⟩ = some (.slice (some ⟨g, 0, none⟩) l.length cap) := (blk_cell HA.out.blk 0).trans rfl
    have hn0 : wr.cell? ⟨gn, 0, none⟩ = some (.int .u64 (nd l i).when) := (blk_cell BK.out 0).trans rfl
    have hn1 : wr.cell? ⟨gn, 1, none⟩ = some (.int .i64 (nd l i).num) := (blk_cell BK.out 1).trans rfl
    have hn2 : wr.cell? ⟨gn, 2, none⟩ = some (.int .i64 (nd l i).val.f0) := (blk_cell BK.out 2).trans rfl; have hn3 : wr.cell? ⟨gn, 3, none⟩ = some (.int .i64 (nd l i).val.f1) := (blk_cell BK.out 3).trans rfl; have hn4 : wr.cell? ⟨gn, 4, none⟩ = some (.int .i64 (nd l i).val.f2.f0) := (blk_cell BK.out 4).trans rfl; have hn5 : wr.cell? ⟨gn, 5, none⟩ = some (.int .i64 (nd l i).val.f2.f1) := (blk_cell BK.out 5).trans rfl; have hn6 : wr.cell? ⟨gn, 6, none⟩ = some (.int .i64 (nd l i).val.f3) := (blk_cell BK.out 6).trans rfl; have hn7 : wr.cell? ⟨gn, 7, none⟩ = some (.int .u64 (nd l i).val.f4) := (blk_cell BK.out 7).trans rfl; have hn8 : wr.cell? ⟨gn, 8, none⟩ = some (.bool (nd l i).val.f5) := (blk_cell BK.out 8).trans rfl; have hn9 : wr.cell? ⟨gn, 9, none⟩ = some (.int .u64 (nd l i).val.f6) := (blk_cell BK.out 9).trans rfl
    by_cases h0 : l.length ≤ 4 * j + 1
    · have h0' : (l.length : Int) ≤ 4 * (j : Int) + 1 := by omega
      have HE : Aside0 ((l1, m1, j) = downF (l.length - i) l m i (nd l i)) := ⟨by
        rw [← HU.out]
        cases k with
        | zero => rfl
        | succ k => rw [downF, if_pos (by omega)]⟩
      go_wp2_with fail
      refine (set_calls base p mb _ ok l1 m1 next (j : Int) (nd l i) _ HA.out (by omega) (by omega)).mono ?_
      rintro e w4 ⟨rfl, hA, hF⟩
      go_wp2
      go_end0
      refine ⟨rfl, ?_, HF.out.then_ hF (Nat.le_refl _) (fun k q => .inl q)⟩
      unfold downA put
      rw [← HE.out]
      rw [Int.toNat_natCast] at hA
      exact hA
    · have h0' : 4 * (j : Int) + 1 < (l.length : Int) := by omega
      have hsm' : (l.length : Int) ≤ 1000000000000000000 := by omega
      go_wp2_with fail
      obtain ⟨wo, rfl⟩ : ∃ wo : World, wo = wr := ⟨_, rfl⟩
      clear hn0 hn1 hn2 hn3 hn4 hn5 hn6 hn7 hn8 hn9 hp0
      go_loopw [6, 7] (fun v6 v7 wr => ∃ (kk jj d : Nat), v6 = .int .i64 (kk : Int) ∧ v7 = .int .i64 (jj : Int) ∧ Aside0 (kk < l1.length ∧ kk < jj ∧ jj + d = lim l1.length j) ∧ Aside0 (best l1 d kk jj = kid l1 j) ∧ Aside0 (HeapAt wr base p mb (.slice (some ⟨g, 0, none⟩) l.length cap) ok l1 m1 next) ∧ Aside0 (Fr base ok w wr) ∧ Aside0 (wr.heap[gn]? = some (.cells (cN (nd l i)) 105 (0, 0)))) (fun _ v7 _ => lim l1.length j - (intOf v7).toNat)
      case atStart => exact ⟨4 * j + 1, 4 * j + 1 + 1, lim l1.length j - (4 * j + 1 + 1), by go_num, by go_num, ⟨by omega, by omega, by unfold lim; omega⟩, ⟨rfl⟩, HA, HF, BK⟩
      case round =>
        clear HA HF BK
        obtain ⟨kk, jj, d, rfl, rfl, HK, HB, HA, HF, BK⟩ := hrel
        have hp0 : wr.cell? ⟨p, 0, none⟩ = some (.slice (some ⟨g, 0, none⟩) l.length cap) := (blk_cell HA.out.blk 0).trans rfl
        have hkk := HK.out.1
        have hlim : lim l1.length j ≤ l.length := by unfold lim; omega
        have hlim2 : lim l1.length j ≤ 4 * j + 1 + 4 := by unfold lim; omega
        by_cases hd : d = 0
        · have hjl : lim l1.length j ≤ jj := by have := HK.out; omega
          have hkid : Aside0 (kk = kid l1 j) := ⟨by have := HB.out; rw [hd] at this; exact this⟩
          have hkb : Aside0 (kk < l1.length) := ⟨hkk⟩
          obtain ⟨x, HX⟩ : ∃ x, Aside0 (nd l1 kk = x) := ⟨_, ⟨rfl⟩⟩
          obtain ⟨x0, x1, x2, x3, x4, x5, x6, x7, x8, x9⟩ := at_row HA.out.row kk (by omega)
          rw [HX.out] at x0 x1 x2 x3 x4 x5 x6 x7 x8 x9
          have hn0 : wr.cell? ⟨gn, 0, none⟩ = some (.int .u64 (nd l i).when) := (blk_cell BK.out 0).trans rfl
          have hn1 : wr.cell? ⟨gn, 1, none⟩ = some (.int .i64 (nd l i).num) := (blk_cell BK.out 1).trans rfl
          have hn2 : wr.cell? ⟨gn, 2, none⟩ = some (.int .i64 (nd l i).val.f0) := (blk_cell BK.out 2).trans rfl; have hn3 : wr.cell? ⟨gn, 3, none⟩ = some (.int .i64 (nd l i).val.f1) := (blk_cell BK.out 3).trans rfl; have hn4 : wr.cell? ⟨gn, 4, none⟩ = some (.int .i64 (nd l i).val.f2.f0) := (blk_cell BK.out 4).trans rfl; have hn5 : wr.cell? ⟨gn, 5, none⟩ = some (.int .i64 (nd l i).val.f2.f1) := (blk_cell BK.out 5).trans rfl; have hn6 : wr.cell? ⟨gn, 6, none⟩ = some (.int .i64 (nd l i).val.f3) := (blk_cell BK.out 6).trans rfl; have hn7 : wr.cell? ⟨gn, 7, none⟩ = some (.int .u64 (nd l i).val.f4) := (blk_cell BK.out 7).trans rfl; have hn8 : wr.cell? ⟨gn, 8, none⟩ = some (.bool (nd l i).val.f5) := (blk_cell BK.out 8).trans rfl; have hn9 : wr.cell? ⟨gn, 9, none⟩ = some (.int .u64 (nd l i).val.f6) := (blk_cell BK.out 9).trans rfl
          have c3 : (kk : Int) < (l.length : Int) := by omega
          have hcm : ((l.length : Int) < 4 * (j : Int) + 1 + 4 ∧ (l.length : Int) ≤ (jj : Int)) ∨ (4 * (j : Int) + 1 + 4 ≤ (l.length : Int) ∧ 4 * (j : Int) + 1 + 4 ≤ (jj : Int)) := by unfold lim at hjl; omega
          obtain ⟨b, hb⟩ : ∃ b, Hp.ahead x (nd l i) = b := ⟨_, rfl⟩
          have HBb := Aside0.mk hb
          clear hb
          obtain ⟨k', hk'⟩ : ∃ k', k = k' + 1 := ⟨k - 1, by have := HJ.out; omega⟩
          have HKK := Aside0.mk hk'
          clear hk'
          have HJK : Aside0 (j < kk) := ⟨by rw [hkid.out]; obtain ⟨_, q1, q2, _⟩ := kid_spec l1 j (by omega); have := par_lt q1; omega⟩
          rcases hcm with ⟨e1, e2⟩ | ⟨e1, e2⟩ <;> cases b
          all_goals
            go_wp2_with fail
            go_still_tail 8, (by kernel_rfl)
            change wpList _ _ _ _ _ wr.drew
            have HA1 := Aside0.mk HA.out.drew
            have HF1 := Aside0.mk HF.out.drew
            have BK1 : Aside0 (wr.drew.heap[gn]? = some (.cells (cN (nd l i)) 105 (0, 0))) := ⟨BK.out⟩
            generalize wr.drew = w3 at *
            clear hp0 x0 x1 x2 x3 x4 x5 x6 x7 x8 x9 hn0 hn1 hn2 hn3 hn4 hn5 hn6 hn7 hn8 hn9 HA HF BK
            go_wp2_with (first
              | (go_at_call 61; (refine (ahead_calls x (nd l i) _ _ HBb.out).mono ?_); rintro e w5 ⟨rfl, hb⟩; have HA2 := Aside0.mk (HA1.out.below hb); have HF2 := Aside0.mk (HF1.out.below hb); have BK2 := Aside0.mk (blk_below BK1.out hb); clear hb HA1 HF1 BK1; have hp0 : w5.cell? ⟨p, 0, none⟩ = some (.slice (some ⟨g, 0, none⟩) l.length cap) := (blk_cell HA2.out.blk 0).trans rfl; obtain ⟨x0, x1, x2, x3, x4, x5, x6, x7, x8, x9⟩ := at_row HA2.out.row kk (by omega); rw [HX.out] at x0 x1 x2 x3 x4 x5 x6 x7 x8 x9; have hn0 : w5.cell? ⟨gn, 0, none⟩ = some (.int .u64 (nd l i).when) := (blk_cell BK2.out 0).trans rfl; have hn1 : w5.cell? ⟨gn, 1, none⟩ = some (.int .i64 (nd l i).num) := (blk_cell BK2.out 1).trans rfl; have hn2 : w5.cell? ⟨gn, 2, none⟩ = some (.int .i64 (nd l i).val.f0) := (blk_cell BK2.out 2).trans rfl; have hn3 : w5.cell? ⟨gn, 3, none⟩ = some (.int .i64 (nd l i).val.f1) := (blk_cell BK2.out 3).trans rfl; have hn4 : w5.cell? ⟨gn, 4, none⟩ = some (.int .i64 (nd l i).val.f2.f0) := (blk_cell BK2.out 4).trans rfl; have hn5 : w5.cell? ⟨gn, 5, none⟩ = some (.int .i64 (nd l i).val.f2.f1) := (blk_cell BK2.out 5).trans rfl; have hn6 : w5.cell? ⟨gn, 6, none⟩ = some (.int .i64 (nd l i).val.f3) := (blk_cell BK2.out 6).trans rfl; have hn7 : w5.cell? ⟨gn, 7, none⟩ = some (.int .u64 (nd l i).val.f4) := (blk_cell BK2.out 7).trans rfl; have hn8 : w5.cell? ⟨gn, 8, none⟩ = some (.bool (nd l i).val.f5) := (blk_cell BK2.out 8).trans rfl; have hn9 : w5.cell? ⟨gn, 9, none⟩ = some (.int .u64 (nd l i).val.f6) := (blk_cell BK2.out 9).trans rfl)
              | (go_at_call 46; (refine (set_calls base p mb _ ok l1 m1 next (j : Int) _ _ HA2.out (by omega) (by omega)).mono ?_); rintro e w6 ⟨rfl, hA, hF⟩; have HA3 := Aside0.mk hA; have HF3 := Aside0.mk (HF2.out.then_ hF (Nat.le_refl _) (fun k q => .inl q)); have BK3 := Aside0.mk (hF.blk BK2.out (HH.out.new HN.out)); clear hA hF hp0 x0 x1 x2 x3 x4 x5 x6 x7 x8 x9 hn0 hn1 hn2 hn3 hn4 hn5 hn6 hn7 hn8 hn9 HA2 HF2 BK2))
          all_goals first
            | (go_end0
               refine ⟨rfl, ?_, HF3.out⟩
               have hu := HU.out
               rw [HKK.out, downF, if_neg (by omega), ← hkid.out, HX.out, if_neg (by rw [HBb.out]; decide)] at hu
               unfold downA put
               rw [← hu]
               have := HA3.out
               rw [Int.toNat_natCast] at this
               exact this)
            | (go_roundw
               case rel =>
                 refine ⟨kk, k', l1.set j x, insI x.num j m1, rfl, ⟨by have := HJ.out; have := HKK.out; have := HJK.out; omega, by rw [List.length_set]; exact hkk, by rw [List.length_set]; exact hl1⟩, ⟨?_⟩, ⟨by have := HA3.out; rw [Int.toNat_natCast] at this; exact this⟩, HF3, BK3⟩
                 have hu := HU.out
                 rw [HKK.out, downF, if_neg (by omega), ← hkid.out, HX.out, if_pos HBb.out] at hu
                 exact hu
               case measure => simp [intOf]; have := HJK.out; omega)
        · have hjl : jj < lim l1.length j := by have := HK.out; omega
          obtain ⟨x, HX⟩ : ∃ x, Aside0 (nd l1 jj = x) := ⟨_, ⟨rfl⟩⟩
          obtain ⟨y, HY⟩ : ∃ y, Aside0 (nd l1 kk = y) := ⟨_, ⟨rfl⟩⟩
          obtain ⟨x0, x1, x2, x3, x4, x5, x6, x7, x8, x9⟩ := at_row HA.out.row jj (by omega)
          obtain ⟨y0, y1, y2, y3, y4, y5, y6, y7, y8, y9⟩ := at_row HA.out.row kk (by omega)
          rw [HX.out] at x0 x1 x2 x3 x4 x5 x6 x7 x8 x9
          rw [HY.out] at y0 y1 y2 y3 y4 y5 y6 y7 y8 y9
          have c1 : (jj : Int) < (l.length : Int) := by omega
          have c2 : (jj : Int) < 4 * (j : Int) + 1 + 4 := by omega
          have c3 : (kk : Int) < (l.length : Int) := by omega
          obtain ⟨b, hb⟩ : ∃ b, Hp.ahead x y = b := ⟨_, rfl⟩
          have HBb := Aside0.mk hb
          have HST := Aside0.mk (best_step l1 (d - 1) kk jj x y HX.out HY.out b hb)
          clear hb
          by_cases hm : (l.length : Int) < 4 * (j : Int) + 1 + 4 <;> cases b
          all_goals
            go_wp2_with fail
            go_still_tail 14, (by kernel_rfl)
            change wpList _ _ _ _ _ wr.drew
            have HA1 := Aside0.mk HA.out.drew
            have HF1 := Aside0.mk HF.out.drew
            have BK1 : Aside0 (wr.drew.heap[gn]? = some (.cells (cN (nd l i)) 105 (0, 0))) := ⟨BK.out⟩
            generalize wr.drew = w3 at *
            clear hp0 x0 x1 x2 x3 x4 x5 x6 x7 x8 x9 y0 y1 y2 y3 y4 y5 y6 y7 y8 y9 HA HF BK
            go_wp2_with (first
              | (go_at_call 61; (refine (ahead_calls x y _ _ HBb.out).mono ?_); rintro e w5 ⟨rfl, hb⟩; have HA2 := Aside0.mk (HA1.out.below hb); have HF2 := Aside0.mk (HF1.out.below hb); have BK2 := Aside0.mk (blk_below BK1.out hb); clear hb HA1 HF1 BK1))
            go_roundw
            case rel => exact ⟨_, jj + 1, d - 1, rfl, by go_num, ⟨by first | exact hkk | omega, by have := HK.out; omega, by have := HK.out; omega⟩, ⟨by have h1 := HB.out; have h2 := HST.out; rw [show d - 1 + 1 = d by omega] at h2; rw [← h1, h2]; rfl⟩, HA2, HF2, BK2⟩
            case measure => simp [intOf]; omega
end Go.Proofs.Ytceopcfmhidjlaa.PTimerPlays
set_option linter.unusedVariables false
set_option linter.unusedSimpArgs false
namespace Go.Proofs.Ytceopcfmhidjlaa.PTimerPlays
open Go.RowKit Go.Proofs.Ytceopcfmhidjlaa.Ef Go.Proofs.Ytceopcfmhidjlaa.Mp Go.Proofs.Ytceopcfmhidjlaa.Hp Go.Proofs.YtceopcfmhidjlaaW.PrintWords Go.Proofs.YtceopcfmhidjlaaW.PrintLast Go.Proofs.YtceopcfmhidjlaaW.PrintMore
theorem HeapAt.lower {w : World} {base base' p mb : Nat} {v : Value} {ok : Nat → Prop} {l : List NI} {m : List (Int × Int)} {next : Int} (h : HeapAt w base p mb v ok l m next) (hb : base' ≤ base) : HeapAt w base' p mb v ok l m next :=
  ⟨h.blk, Kd.R_lower h.row hb, h.map, h.ne, h.okp, h.okm, Nat.le_trans hb h.bp, Nat.le_trans hb h.bm, h.bound, fun k q => Nat.le_trans hb (h.low k q)⟩
set_option maxHeartbeats 1000000 in
theorem new_calls (w : World) : Calls Try.prog 25 #[] w fun e w' => ∃ p mb, e = .returned (.pointer (some ⟨p, 0, none⟩)) ∧ HeapAt w' w.heap.size p mb (.slice none 0 0) (fun k => w.heap.size ≤ k ∧ k < w'.heap.size) [] [] 0 ∧ Below w.heap.size w w' := by
  have hmm := @run_makeMap Try.prog
  have hu58 := Try.underlying96
  have hu61 := Try.underlying99
  go_enter Try.func25, Try.ntmps25
  go_wp2
  go_ret
  have e1 : (w.alloc (.map #[] 0)).heap.size = w.heap.size + 1 := Array.size_push _
  have e2 : ((w.alloc (.map #[] 0)).alloc (.cells #[.slice none 0 0, .map (some w.heap.size), .int .i64 0] 99 (0, 0))).heap.size = w.heap.size + 1 + 1 := by rw [← e1]; exact Array.size_push _
  refine ⟨w.heap.size + 1, w.heap.size, rfl, ⟨?_, Kd.R_nil _ _ _ _ _, (MapOf.new w).alloc _, by omega, by rw [e2]; omega, by rw [e2]; omega, by omega, Nat.le_refl _, fun k q => q.2, fun k q => q.1⟩, below_alloc (below_alloc (Below.refl _ _) _) _⟩
  have := blk_new (w.alloc (.map #[] 0)) (.cells #[.slice none 0 0, .map (some w.heap.size), .int .i64 0] 99 (0, 0))
  rw [e1] at this
  exact this
set_option maxHeartbeats 1000000 in
theorem len_calls (base p mb : Nat) (v : Value) (ok : Nat → Prop) (l : List NI) (m : List (Int × Int)) (next : Int) (w : World) (H : HeapAt w base p mb v ok l m next) :
    Calls Try.prog 49 #[.pointer (some ⟨p, 0, none⟩)] w fun e w' => e = .returned (.int .i64 (l.length : Int)) ∧ w = w' := by
  have hu59 := Try.underlying97
  obtain ⟨A, c, rfl⟩ := Kd.R_slice H.row
  have hp0 : w.cell? ⟨p, 0, none⟩ = some (.slice A l.length c) := (blk_cell H.blk 0).trans rfl
  clear H
  go_enter Try.func49, Try.ntmps49
  go_wp2
  go_ret
  exact ⟨rfl, rfl⟩
set_option maxHeartbeats 1000000 in
theorem has_calls (base p mb : Nat) (v : Value) (ok : Nat → Prop) (l : List NI) (m : List (Int × Int)) (next k : Int) (b : Bool) (w : World) (H : HeapAt w base p mb v ok l m next) (hb : (getI k m).isSome = b) :
    Calls Try.prog 45 #[.pointer (some ⟨p, 0, none⟩), .int .i64 k] w fun e w' => e = .returned (.bool b) ∧ w = w' := by
  have HM := Aside0.mk H.map
  have hp1 : w.cell? ⟨p, 1, none⟩ = some (.map (some mb)) := (blk_cell H.blk 1).trans rfl
  clear H
  have hg : (Mp.get k (m.map kv)).isSome = b := by rw [get_kv, ← hb]; cases getI k m <;> rfl
  have HG := Aside0.mk hg
  clear hg hb
  go_enter Try.func45, Try.ntmps45
  go_wp2_with ((with_reducible refine gate_dst (N := 15) rfl ?_); refine step_look keyI Try.underlying96 rfl rfl (zero3 _) HM.out k rfl rfl (v := .tuple #[(Mp.get k (m.map kv)).getD (.int .i64 0), .bool (Mp.get k (m.map kv)).isSome]) rfl ?_; generalize (Mp.get k (m.map kv)).getD (.int .i64 0) = z0; rw [HG.out])
  go_ret
  exact ⟨rfl, rfl⟩
set_option maxHeartbeats 1000000 in
set_option maxRecDepth 100000 in
theorem top_none (base p mb : Nat) (v : Value) (ok : Nat → Prop) (m : List (Int × Int)) (next : Int) (w : World) (H : HeapAt w base p mb v ok [] m next) :
    Calls Try.prog 31 #[.pointer (some ⟨p, 0, none⟩)] w fun e w' => e = .returned (.tuple #[.int .u64 0, .int .i64 0, .agg #[.int .i64 0, .int .i64 0, .int .i64 0, .int .i64 0, .int .i64 0, .int .u64 0, .bool false, .int .u64 0], .int .i64 31]) ∧ Below w.heap.size w w' := by
  have HH := Aside0.mk H
  clear H
  go_enter Try.func31, Try.ntmps31
  go_wp2_with (first
    | ((with_reducible refine gate_dst (N := 4) rfl ?_); refine box_event ?hg (N := 4) ?hd (cs := #[.int .i64 0, .int .i64 0, .int .i64 0, .int .i64 0, .int .i64 0, .int .u64 0, .bool false, .int .u64 0]) (t := 40) ?hr ?_; (case hd => rfl); (case hg => rfl); (case hr => first | (go_simp; done) | (go_simp; rfl)); intro g4 hg4 w1 hbox hb; have HB := Aside0.mk hb; have HN := Aside0.mk (show w.heap.size ≤ g4 by omega); have B4 := Aside0.mk hbox; have H1 := Aside0.mk (HH.out.below hb); have v0 : w1.cell? ⟨g4, 0, none⟩ = some (.int .i64 0) := (blk_cell hbox 0).trans rfl; have v1 : w1.cell? ⟨g4, 1, none⟩ = some (.int .i64 0) := (blk_cell hbox 1).trans rfl; have v2 : w1.cell? ⟨g4, 2, none⟩ = some (.int .i64 0) := (blk_cell hbox 2).trans rfl; have v3 : w1.cell? ⟨g4, 3, none⟩ = some (.int .i64 0) := (blk_cell hbox 3).trans rfl; have v4 : w1.cell? ⟨g4, 4, none⟩ = some (.int .i64 0) := (blk_cell hbox 4).trans rfl; have v5 : w1.cell? ⟨g4, 5, none⟩ = some (.int .u64 0) := (blk_cell hbox 5).trans rfl; have v6 : w1.cell? ⟨g4, 6, none⟩ = some (.bool false) := (blk_cell hbox 6).trans rfl; have v7 : w1.cell? ⟨g4, 7, none⟩ = some (.int .u64 0) := (blk_cell hbox 7).trans rfl; clear hb hbox hg4)
    | (go_at_call 49; (refine (len_calls base p mb v ok _ m next _ H1.out).mono ?_); rintro e w1 ⟨rfl, rfl⟩))
  go_still_tail 3, (by kernel_rfl)
  change wpList _ _ _ _ _ w1.drew
  have BK : Aside0 (w1.drew.heap[g4]? = some (.cells #[.int .i64 0, .int .i64 0, .int .i64 0, .int .i64 0, .int .i64 0, .int .u64 0, .bool false, .int .u64 0] 40 (0, 0))) := ⟨B4.out⟩
  have HB2 : Aside0 (Below w.heap.size w w1.drew) := ⟨below_drew HB.out⟩
  clear v0 v1 v2 v3 v4 v5 v6 v7 H1 B4 HB
  generalize w1.drew = w2 at *
  go_wp2_with ((with_reducible refine gate_store (t := 40) (p := 4) (v := .tmp 10) rfl ?_); refine step_store rfl rfl rfl BK.out rfl (u := .agg #[.int .i64 0, .int .i64 0, .int .i64 0, .int .i64 0, .int .i64 0, .int .u64 0, .bool false, .int .u64 0]) (seg := [.int .i64 0, .int .i64 0, .int .i64 0, .int .i64 0, .int .i64 0, .int .u64 0, .bool false, .int .u64 0]) rfl rfl (by kernel_rfl) (by simp [Value.oneCell']) (Nat.le_refl 8) (cur' := #[.int .i64 0, .int .i64 0, .int .i64 0, .int .i64 0, .int .i64 0, .int .u64 0, .bool false, .int .u64 0]) rfl ?_; intro w3 hb3 hg3 hs3)
  refine bodyPost_ret (results_list (rs := [.tmp 2, .tmp 3, .cell 4 40, .tmp 5]) rfl (by simp) (.tmp (.tmp (.cell g4 40 #[.int .i64 0, .int .i64 0, .int .i64 0, .int .i64 0, .int .i64 0, .int .u64 0, .bool false, .int .u64 0] (0, 0) _ rfl hb3 Try.underlying40 rfl (by kernel_rfl) (.tmp .nil))))) rfl ?_
  exact ⟨rfl, below_mput HB2.out hg3 HN.out HB2.out.size⟩
set_option maxHeartbeats 1000000 in
set_option maxRecDepth 100000 in
theorem top_some (base p mb : Nat) (v : Value) (ok : Nat → Prop) (l : List NI) (m : List (Int × Int)) (next : Int) (w : World) (H : HeapAt w base p mb v ok l m next) (hl : 0 < l.length) :
    Calls Try.prog 31 #[.pointer (some ⟨p, 0, none⟩)] w fun e w' => e = .returned (.tuple #[.int .u64 (nd l 0).when, .int .i64 (nd l 0).num, .agg #[.int .i64 (nd l 0).val.f0, .int .i64 (nd l 0).val.f1, .int .i64 (nd l 0).val.f2.f0, .int .i64 (nd l 0).val.f2.f1, .int .i64 (nd l 0).val.f3, .int .u64 (nd l 0).val.f4, .bool (nd l 0).val.f5, .int .u64 (nd l 0).val.f6], .int .i64 0]) ∧ Below w.heap.size w w' := by
  have HH := Aside0.mk H
  obtain ⟨g, cap, rfl, hbg, hgl, cells0, hg0⟩ := Kd.R_form H.row hl
  have hl0 : ((l.length : Int) == 0) = false := by simp; intro e; rw [e] at hl; exact absurd hl (by decide)
  have hl1 : (0 : Int) < (l.length : Int) := by omega
  clear H hg0
  go_enter Try.func31, Try.ntmps31
  go_wp2_with (first
    | ((with_reducible refine gate_dst (N := 4) rfl ?_); refine box_event ?hg (N := 4) ?hd (cs := #[.int .i64 0, .int .i64 0, .int .i64 0, .int .i64 0, .int .i64 0, .int .u64 0, .bool false, .int .u64 0]) (t := 40) ?hr ?_; (case hd => rfl); (case hg => rfl); (case hr => first | (go_simp; done) | (go_simp; rfl)); intro g4 hg4 w1 hbox hb; have HB := Aside0.mk hb; have HN4 := Aside0.mk (show w.heap.size ≤ g4 by omega); have B4 := Aside0.mk hbox; have H1 := Aside0.mk (HH.out.below hb); clear hb hbox hg4)
    | (go_at_call 49; (refine (len_calls base p mb _ ok _ m next _ H1.out).mono ?_); rintro e w1 ⟨rfl, rfl⟩; obtain ⟨hx0, hx1, hx2, hx3, hx4, hx5, hx6, hx7, hx8, hx9⟩ := at_row H1.out.row 0 hl; (have hp0 : w1.cell? ⟨p, 0, none⟩ = some (.slice (some ⟨g, 0, none⟩) l.length cap) := (blk_cell H1.out.blk 0).trans rfl); simp only [Nat.zero_mul, Nat.zero_add] at hx0 hx1 hx2 hx3 hx4 hx5 hx6 hx7 hx8 hx9; clear H1)
    | ((with_reducible refine gate_dst (N := 6) rfl ?_); refine box_event ?hg (N := 6) ?hd (cs := #[.int .u64 0, .int .i64 0, .int .i64 0, .int .i64 0, .int .i64 0, .int .i64 0, .int .i64 0, .int .u64 0, .bool false, .int .u64 0]) (t := 105) ?hr ?_; (case hd => rfl); (case hg => rfl); (case hr => first | (go_simp; done) | (go_simp; rfl)); intro gn hgn w2 hbox hb; have HB1 := Aside0.mk (below_step HB.out hb); have BK1 := Aside0.mk hbox; have B41 := Aside0.mk (blk_below B4.out hb); have HN := Aside0.mk (show w.heap.size ≤ gn from by have := HB.out.size; omega); have HE := Aside0.mk (show g4 ≠ gn from by have := blk_lt B4.out; omega); clear hb hbox hgn hx0 hx1 hx2 hx3 hx4 hx5 hx6 hx7 hx8 hx9 hp0 HB B4)
    | ((with_reducible refine gate_store (t := 105) (p := 6) (v := .tmp 16) rfl ?_); refine step_store rfl rfl rfl BK1.out rfl (u := .agg (cN (nd l 0))) (seg := (cN (nd l 0)).toList) rfl rfl (by kernel_rfl) (by simp [Value.oneCell']) (Nat.le_refl 10) (cur' := cN (nd l 0)) rfl ?_; intro w3 hb3 hg3 hs3; have HB2 := Aside0.mk (below_mput HB1.out hg3 HN.out HB1.out.size); have B42 := Aside0.mk (blk_grown B41.out hg3 (by intro e; cases e; exact HE.out rfl)); have hn0 : w3.cell? ⟨gn, 0, none⟩ = some (.int .u64 (nd l 0).when) := (blk_cell hb3 0).trans rfl; have hn1 : w3.cell? ⟨gn, 1, none⟩ = some (.int .i64 (nd l 0).num) := (blk_cell hb3 1).trans rfl; have hn2 : w3.cell? ⟨gn, 2, none⟩ = some (.int .i64 (nd l 0).val.f0) := (blk_cell hb3 2).trans rfl; have hn3 : w3.cell? ⟨gn, 3, none⟩ = some (.int .i64 (nd l 0).val.f1) := (blk_cell hb3 3).trans rfl; have hn4 : w3.cell? ⟨gn, 4, none⟩ = some (.int .i64 (nd l 0).val.f2.f0) := (blk_cell hb3 4).trans rfl; have hn5 : w3.cell? ⟨gn, 5, none⟩ = some (.int .i64 (nd l 0).val.f2.f1) := (blk_cell hb3 5).trans rfl; have hn6 : w3.cell? ⟨gn, 6, none⟩ = some (.int .i64 (nd l 0).val.f3) := (blk_cell hb3 6).trans rfl; have hn7 : w3.cell? ⟨gn, 7, none⟩ = some (.int .u64 (nd l 0).val.f4) := (blk_cell hb3 7).trans rfl; have hn8 : w3.cell? ⟨gn, 8, none⟩ = some (.bool (nd l 0).val.f5) := (blk_cell hb3 8).trans rfl; have hn9 : w3.cell? ⟨gn, 9, none⟩ = some (.int .u64 (nd l 0).val.f6) := (blk_cell hb3 9).trans rfl; clear hb3 hg3 hs3 BK1 HB1 B41))
  go_still_tail 8, (by kernel_rfl)
  change wpList _ _ _ _ _ w3.drew
  have B43 : Aside0 (w3.drew.heap[g4]? = some (.cells #[.int .i64 0, .int .i64 0, .int .i64 0, .int .i64 0, .int .i64 0, .int .u64 0, .bool false, .int .u64 0] 40 (0, 0))) := ⟨B42.out⟩
  have HB3 : Aside0 (Below w.heap.size w w3.drew) := ⟨below_drew HB2.out⟩
  clear B42 HB2 hn0 hn1 hn2 hn3 hn4 hn5 hn6 hn7 hn8 hn9
  generalize w3.drew = w4 at *
  go_wp2_with ((with_reducible refine gate_store (t := 40) (p := 4) (v := .tmp 22) rfl ?_); refine step_store rfl rfl rfl B43.out rfl (u := .agg #[.int .i64 (nd l 0).val.f0, .int .i64 (nd l 0).val.f1, .int .i64 (nd l 0).val.f2.f0, .int .i64 (nd l 0).val.f2.f1, .int .i64 (nd l 0).val.f3, .int .u64 (nd l 0).val.f4, .bool (nd l 0).val.f5, .int .u64 (nd l 0).val.f6]) (seg := [.int .i64 (nd l 0).val.f0, .int .i64 (nd l 0).val.f1, .int .i64 (nd l 0).val.f2.f0, .int .i64 (nd l 0).val.f2.f1, .int .i64 (nd l 0).val.f3, .int .u64 (nd l 0).val.f4, .bool (nd l 0).val.f5, .int .u64 (nd l 0).val.f6]) rfl rfl (by kernel_rfl) (by simp [Value.oneCell']) (Nat.le_refl 8) (cur' := #[.int .i64 (nd l 0).val.f0, .int .i64 (nd l 0).val.f1, .int .i64 (nd l 0).val.f2.f0, .int .i64 (nd l 0).val.f2.f1, .int .i64 (nd l 0).val.f3, .int .u64 (nd l 0).val.f4, .bool (nd l 0).val.f5, .int .u64 (nd l 0).val.f6]) rfl ?_; intro w5 hb5 hg5 hs5)
  refine bodyPost_ret (results_list (rs := [.tmp 2, .tmp 3, .cell 4 40, .tmp 5]) rfl (by simp) (.tmp (.tmp (.cell g4 40 #[.int .i64 (nd l 0).val.f0, .int .i64 (nd l 0).val.f1, .int .i64 (nd l 0).val.f2.f0, .int .i64 (nd l 0).val.f2.f1, .int .i64 (nd l 0).val.f3, .int .u64 (nd l 0).val.f4, .bool (nd l 0).val.f5, .int .u64 (nd l 0).val.f6] (0, 0) _ rfl hb5 Try.underlying40 rfl (by kernel_rfl) (.tmp .nil))))) rfl ?_
  exact ⟨rfl, below_mput HB3.out hg5 HN4.out HB3.out.size⟩
set_option maxHeartbeats 1000000 in
set_option maxRecDepth 100000 in
theorem push_calls (base p mb : Nat) (v : Value) (ok : Nat → Prop) (l : List NI) (m : List (Int × Int)) (next when_ : Int) (val : S40) (w : World) (H : HeapAt w base p mb v ok l m next) (hsm : (l.length + 1) * 80 ≤ 140737488355328) (hn0 : 0 ≤ next) (hn1 : next ≤ 1000000000000000000) :
    Calls Try.prog 50 #[.pointer (some ⟨p, 0, none⟩), .int .u64 when_, .agg #[.int .i64 val.f0, .int .i64 val.f1, .int .i64 val.f2.f0, .int .i64 val.f2.f1, .int .i64 val.f3, .int .u64 val.f4, .bool val.f5, .int .u64 val.f6]] w fun e w' => ∃ v' ok', e = .returned (.int .i64 next) ∧ HeapAt w' base p mb v' ok' (pushA l m ⟨when_, next, val⟩).1 (pushA l m ⟨when_, next, val⟩).2 (next + 1) ∧ (∀ k, ok' k → ok k ∨ w.heap.size ≤ k) ∧ Fr base ok w w' := by
  have HH := Aside0.mk H
  have HF := Aside0.mk (Fr.refl H.le H.low)
  obtain ⟨A, cap, rfl⟩ := Kd.R_slice H.row
  clear H
  go_enter Try.func50, Try.ntmps50
  go_wp2_with (first
    | ((with_reducible refine gate_dst (N := 5) rfl ?_); refine box_event ?hg (N := 5) ?hd (cs := #[.int .i64 val.f0, .int .i64 val.f1, .int .i64 val.f2.f0, .int .i64 val.f2.f1, .int .i64 val.f3, .int .u64 val.f4, .bool val.f5, .int .u64 val.f6]) (t := 40) ?hr ?_; (case hd => rfl); (case hg => rfl); (case hr => first | (go_simp; done) | (go_simp; rfl)); intro g5 hg5 w1 hbox hb; have HF0 := Aside0.mk (HF.out.below hb); have HA0 := Aside0.mk (HH.out.below hb); have HS0 := Aside0.mk hb.size; have hp0 : w1.cell? ⟨p, 2, none⟩ = some (.int .i64 next) := (blk_cell HA0.out.blk 2).trans rfl; have v0 : w1.cell? ⟨g5, 0, none⟩ = some (.int .i64 val.f0) := (blk_cell hbox 0).trans rfl; have v1 : w1.cell? ⟨g5, 1, none⟩ = some (.int .i64 val.f1) := (blk_cell hbox 1).trans rfl; have v2 : w1.cell? ⟨g5, 2, none⟩ = some (.int .i64 val.f2.f0) := (blk_cell hbox 2).trans rfl; have v3 : w1.cell? ⟨g5, 3, none⟩ = some (.int .i64 val.f2.f1) := (blk_cell hbox 3).trans rfl; have v4 : w1.cell? ⟨g5, 4, none⟩ = some (.int .i64 val.f3) := (blk_cell hbox 4).trans rfl; have v5 : w1.cell? ⟨g5, 5, none⟩ = some (.int .u64 val.f4) := (blk_cell hbox 5).trans rfl; have v6 : w1.cell? ⟨g5, 6, none⟩ = some (.bool val.f5) := (blk_cell hbox 6).trans rfl; have v7 : w1.cell? ⟨g5, 7, none⟩ = some (.int .u64 val.f6) := (blk_cell hbox 7).trans rfl; clear hb hbox hg5))
  have hKEEP : ∀ o, (w1.drew.alloc o).cell? ⟨p, 2, none⟩ = some (.int .i64 next) ∧ (w1.drew.alloc o).cell? ⟨g5, 0, none⟩ = some (.int .i64 val.f0) ∧ (w1.drew.alloc o).cell? ⟨g5, 1, none⟩ = some (.int .i64 val.f1) ∧ (w1.drew.alloc o).cell? ⟨g5, 2, none⟩ = some (.int .i64 val.f2.f0) ∧ (w1.drew.alloc o).cell? ⟨g5, 3, none⟩ = some (.int .i64 val.f2.f1) ∧ (w1.drew.alloc o).cell? ⟨g5, 4, none⟩ = some (.int .i64 val.f3) ∧ (w1.drew.alloc o).cell? ⟨g5, 5, none⟩ = some (.int .u64 val.f4) ∧ (w1.drew.alloc o).cell? ⟨g5, 6, none⟩ = some (.bool val.f5) ∧ (w1.drew.alloc o).cell? ⟨g5, 7, none⟩ = some (.int .u64 val.f6) := fun o => ⟨((below_alloc (Below.refl _ _) _).cell (p := ⟨p, 2, none⟩) (blk_lt HA0.out.blk)).trans hp0, ((below_alloc (Below.refl _ _) _).cell (p := ⟨g5, 0, none⟩) (World.block_lt_of_cell? w1 _ v0)).trans v0, ((below_alloc (Below.refl _ _) _).cell (p := ⟨g5, 1, none⟩) (World.block_lt_of_cell? w1 _ v1)).trans v1, ((below_alloc (Below.refl _ _) _).cell (p := ⟨g5, 2, none⟩) (World.block_lt_of_cell? w1 _ v2)).trans v2, ((below_alloc (Below.refl _ _) _).cell (p := ⟨g5, 3, none⟩) (World.block_lt_of_cell? w1 _ v3)).trans v3, ((below_alloc (Below.refl _ _) _).cell (p := ⟨g5, 4, none⟩) (World.block_lt_of_cell? w1 _ v4)).trans v4, ((below_alloc (Below.refl _ _) _).cell (p := ⟨g5, 5, none⟩) (World.block_lt_of_cell? w1 _ v5)).trans v5, ((below_alloc (Below.refl _ _) _).cell (p := ⟨g5, 6, none⟩) (World.block_lt_of_cell? w1 _ v6)).trans v6, ((below_alloc (Below.refl _ _) _).cell (p := ⟨g5, 7, none⟩) (World.block_lt_of_cell? w1 _ v7)).trans v7⟩
  go_region_held3 (fun w' => w'.cell? ⟨p, 2, none⟩ = some (.int .i64 next) ∧ w'.cell? ⟨g5, 0, none⟩ = some (.int .i64 val.f0) ∧ w'.cell? ⟨g5, 1, none⟩ = some (.int .i64 val.f1) ∧ w'.cell? ⟨g5, 2, none⟩ = some (.int .i64 val.f2.f0) ∧ w'.cell? ⟨g5, 3, none⟩ = some (.int .i64 val.f2.f1) ∧ w'.cell? ⟨g5, 4, none⟩ = some (.int .i64 val.f3) ∧ w'.cell? ⟨g5, 5, none⟩ = some (.int .u64 val.f4) ∧ w'.cell? ⟨g5, 6, none⟩ = some (.bool val.f5) ∧ w'.cell? ⟨g5, 7, none⟩ = some (.int .u64 val.f6)) (first | go_keep | exact hKEEP _) (fail)
  rename_i hHeld
  have hb := below_drew (below_alloc (Below.refl w1.heap.size w1) (.cells #[.int .u64 when_, .int .i64 next, .int .i64 val.f0, .int .i64 val.f1, .int .i64 val.f2.f0, .int .i64 val.f2.f1, .int .i64 val.f3, .int .u64 val.f4, .bool val.f5, .int .u64 val.f6] 105 (0, 0)))
  have HF2 := Aside0.mk (HF0.out.below hb)
  have HA2 := Aside0.mk (HA0.out.below hb)
  have BK2 : Aside0 ((w1.alloc (.cells #[.int .u64 when_, .int .i64 next, .int .i64 val.f0, .int .i64 val.f1, .int .i64 val.f2.f0, .int .i64 val.f2.f1, .int .i64 val.f3, .int .u64 val.f4, .bool val.f5, .int .u64 val.f6] 105 (0, 0))).drew.heap[w1.heap.size]? = some (.cells (cN ⟨when_, next, val⟩) 105 (0, 0))) := ⟨blk_new _ _⟩
  have HN := Aside0.mk HS0.out
  clear hb hHeld hKEEP hp0 v0 v1 v2 v3 v4 v5 v6 v7 HF0 HA0 HS0
  generalize w1.heap.size = gn at *
  generalize (w1.alloc (.cells #[.int .u64 when_, .int .i64 next, .int .i64 val.f0, .int .i64 val.f1, .int .i64 val.f2.f0, .int .i64 val.f2.f1, .int .i64 val.f3, .int .u64 val.f4, .bool val.f5, .int .u64 val.f6] 105 (0, 0))).drew = w3 at *
  have hp0 : w3.cell? ⟨p, 2, none⟩ = some (.int .i64 next) := (blk_cell HA2.out.blk 2).trans rfl
  have hpz : w3.frozen? ⟨p, 2, none⟩ = false := blk_frozen HA2.out.blk 2
  go_wp2
  obtain ⟨hb4, hg4⟩ := set_step HA2.out.blk 2 (.int .i64 (next + 1)) (cur' := cH (.slice A l.length cap) mb (next + 1)) rfl
  have HF3 := Aside0.mk (HF2.out.grown hg4 (.inl HH.out.okp))
  have BK3 := Aside0.mk (blk_grown BK2.out hg4 (by intro e; cases e; exact HH.out.new HN.out HH.out.okp))
  have HA3 := Aside0.mk (HA2.out.celled hb4 hg4)
  clear hp0 hpz hb4 hg4 BK2 HF2 HA2
  generalize w3.setCell ⟨p, 2, none⟩ (.int .i64 (next + 1)) = w4 at *
  have hp0 : w4.cell? ⟨p, 0, none⟩ = some (.slice A l.length cap) := (blk_cell HA3.out.blk 0).trans rfl
  have hv0 : w4.cell? ⟨gn, 0, none⟩ = some (.int .u64 when_) := (blk_cell BK3.out 0).trans rfl
  have hv1 : w4.cell? ⟨gn, 1, none⟩ = some (.int .i64 next) := (blk_cell BK3.out 1).trans rfl
  have hv2 : w4.cell? ⟨gn, 2, none⟩ = some (.int .i64 val.f0) := (blk_cell BK3.out 2).trans rfl
  have hv3 : w4.cell? ⟨gn, 3, none⟩ = some (.int .i64 val.f1) := (blk_cell BK3.out 3).trans rfl
  have hv4 : w4.cell? ⟨gn, 4, none⟩ = some (.int .i64 val.f2.f0) := (blk_cell BK3.out 4).trans rfl
  have hv5 : w4.cell? ⟨gn, 5, none⟩ = some (.int .i64 val.f2.f1) := (blk_cell BK3.out 5).trans rfl
  have hv6 : w4.cell? ⟨gn, 6, none⟩ = some (.int .i64 val.f3) := (blk_cell BK3.out 6).trans rfl
  have hv7 : w4.cell? ⟨gn, 7, none⟩ = some (.int .u64 val.f4) := (blk_cell BK3.out 7).trans rfl
  have hv8 : w4.cell? ⟨gn, 8, none⟩ = some (.bool val.f5) := (blk_cell BK3.out 8).trans rfl
  have hv9 : w4.cell? ⟨gn, 9, none⟩ = some (.int .u64 val.f6) := (blk_cell BK3.out 9).trans rfl
  have hf0 : w4.frozen? ⟨p, 0, none⟩ = false := blk_frozen HA3.out.blk 0
  have HA4 := Aside0.mk HA3.out.drew
  have HF4 := Aside0.mk HF3.out.drew
  have BK4 : Aside0 (w4.drew.heap[gn]? = some (.cells (cN ⟨when_, next, val⟩) 105 (0, 0))) := ⟨BK3.out⟩
  have hpa : (w4.alloc (.cells #[.int .u64 when_, .int .i64 next, .int .i64 val.f0, .int .i64 val.f1, .int .i64 val.f2.f0, .int .i64 val.f2.f1, .int .i64 val.f3, .int .u64 val.f4, .bool val.f5, .int .u64 val.f6] 105 (0, 0))).cell? ⟨p, 0, none⟩ = some (.slice A l.length cap) := ((below_alloc (Below.refl _ _) _).cell (p := ⟨p, 0, none⟩) (blk_lt HA3.out.blk)).trans hp0
  clear HA3 HF3 BK3
  go_region_law ((refine Kd.R_append_step kN (w0 := w4.drew) (W := w4.drew) base rfl (.tmp 26) (.tmp 28) 97 105 (.agg #[(.int .u64 0), (.int .i64 0), .int .i64 0, .int .i64 0, .int .i64 0, .int .i64 0, .int .i64 0, .int .u64 0, .bool false, .int .u64 0]) 80 rfl Try.underlying97 infoN rfl (by decide) (by omega) (Value.slice A l.length cap) l (⟨when_, next, val⟩ : NI) (cN ⟨when_, next, val⟩).toList (fun k => (ok k ∨ w.heap.size ≤ k) ∧ k ≠ p ∧ k ≠ mb ∧ k ≠ gn) (fun _ => False) rfl rfl (kN_mkM _ _ _ _) (fun _ h => h.elim) ?aF ?aO (Below.refl _ _) ?aS hsm ?_); (case aF => exact fun k hk => ⟨.inr (Nat.le_trans HF4.out.size hk), by have := HA4.out.bound _ HA4.out.okp; omega, by have := HA4.out.bound _ HA4.out.okm; omega, by have := blk_lt BK4.out; omega⟩); (case aO => exact Kd.R_mono HA4.out.row (fun k hk => ⟨.inl hk.1, hk.2.1, hk.2.2, fun e => HH.out.new HN.out (e ▸ hk.1)⟩)); (case aS => exact HA4.out.le); intro v1 w5 hrow hb5 hg5 hat; obtain ⟨A1, c1, rfl⟩ := Kd.R_slice hrow; have HP5 := blk_grown HA4.out.blk hg5 (fun e => (HA4.out.row.1 p e.symm).2.1 rfl); have hp5 : w5.cell? ⟨p, 0, none⟩ = some (Value.slice A l.length cap) := (blk_cell HP5 0).trans rfl; have hf5 : w5.frozen? ⟨p, 0, none⟩ = false := blk_frozen HP5 0)
  all_goals
    obtain ⟨hb6, hg6⟩ := set_step HP5 0 (.slice A1 (l.length + 1) c1) (cur' := cH (.slice A1 (l.length + 1) c1) mb (next + 1)) rfl
    have HF6 := Aside0.mk ((HF4.out.grownO hg5 (fun k hk => .inl (HA4.out.row.1 k hk).1)).grown hg6 (.inl HH.out.okp))
    have HS6 : Aside0 (w4.drew.heap.size ≤ (w5.setCell ⟨p, 0, none⟩ (.slice A1 (l.length + 1) c1)).heap.size) := ⟨Nat.le_trans hg5.size hg6.size⟩
    have BK6 := Aside0.mk (blk_grown (blk_grown BK4.out hg5 (fun e => HH.out.new HN.out (HA4.out.row.1 gn e.symm).1)) hg6 (by intro e; cases e; exact HH.out.new HN.out HH.out.okp))
    have HA6 : Aside0 (HeapAt (w5.setCell ⟨p, 0, none⟩ (.slice A1 (l.length + 1) c1)) base p mb (.slice A1 (l.length + 1) c1) (fun k => (ok k ∨ w.heap.size ≤ k) ∧ k ≠ gn ∧ k < (w5.setCell ⟨p, 0, none⟩ (.slice A1 (l.length + 1) c1)).heap.size) (l ++ [⟨when_, next, val⟩]) m (next + 1)) := ⟨by
      refine ⟨hb6, ?_, ?_, HA4.out.ne, ⟨.inl HA4.out.okp, fun e => HH.out.new HN.out (e ▸ HA4.out.okp), blk_lt hb6⟩, ⟨.inl HA4.out.okm, fun e => HH.out.new HN.out (e ▸ HA4.out.okm), Nat.lt_of_lt_of_le (HA4.out.bound _ HA4.out.okm) HS6.out⟩, HA4.out.bp, HA4.out.bm, fun k q => q.2.2, fun k q => q.1.elim (HA4.out.low k) (fun q => Nat.le_trans HH.out.le q)⟩
      · have h1 := Kd.R_grown hrow hg6 (fun k hk e => by cases e; exact hk.2.1 rfl)
        rw [List.length_append] at h1
        exact Kd.R_mono (Kd.R_bound h1) (fun k hk => ⟨⟨hk.1.1, hk.1.2.2.2, hk.2.2.1⟩, hk.1.2.1, hk.1.2.2.1⟩)
      · exact (HA4.out.map.grown hg5 (fun e => (HA4.out.row.1 mb e.symm).2.2 rfl)).grown hg6 (by intro e; cases e; exact HA4.out.ne rfl)⟩
    clear hb6 hg6 hb5 hg5 hrow hat HP5 hp5 hf5 hpa hp0 hv0 hv1 hv2 hv3 hv4 hv5 hv6 hv7 hv8 hv9 hf0 HA4 HF4 BK4 HS6
    generalize w5.setCell ⟨p, 0, none⟩ (.slice A1 (l.length + 1) c1) = w6 at *
    have hp0 : w6.cell? ⟨p, 0, none⟩ = some (.slice A1 (l.length + 1) c1) := (blk_cell HA6.out.blk 0).trans rfl
    go_wp2_with (first
      | (go_at_call 47; (refine (up_calls' base p mb _ _ _ m (next + 1) l.length _ (by omega) _ HA6.out (by simp)).mono ?_); rintro e w7 ⟨rfl, hA, hF⟩; have HA7 := Aside0.mk hA; have HF7 := Aside0.mk (HF6.out.then_ hF (Nat.le_refl _) (fun k q => q.1)); have hn1' : w7.cell? ⟨gn, 1, none⟩ = some (.int .i64 next) := (blk_cell (hF.blk BK6.out (fun q => q.2.1 rfl)) 1).trans rfl; have HS7 := Aside0.mk hF.size; clear hA hF hp0 HA6 HF6 BK6))
    go_ret
    exact ⟨_, _, rfl, HA7.out, fun k q => q.1, HF7.out⟩
end Go.Proofs.Ytceopcfmhidjlaa.PTimerPlays
set_option linter.unusedVariables false
set_option linter.unusedSimpArgs false
namespace Go.Proofs.Ytceopcfmhidjlaa.PTimerPlays
open Go.RowKit Go.Proofs.Ytceopcfmhidjlaa.Ef Go.Proofs.Ytceopcfmhidjlaa.Mp Go.Proofs.Ytceopcfmhidjlaa.Hp Go.Proofs.YtceopcfmhidjlaaW.PrintWords Go.Proofs.YtceopcfmhidjlaaW.PrintLast Go.Proofs.YtceopcfmhidjlaaW.PrintMore
theorem down_calls' (base p mb : Nat) (v : Value) (ok : Nat → Prop) (l : List NI) (m : List (Int × Int)) (next : Int) (i : Nat) (x : Int) (hx : x = (i : Int)) (w : World) (H : HeapAt w base p mb v ok l m next) (h1 : i < l.length) (hsm : l.length ≤ 1000000000000000000) :
    Calls Try.prog 48 #[.pointer (some ⟨p, 0, none⟩), .int .i64 x] w fun e w' => e = .returned (.tuple #[]) ∧ HeapAt w' base p mb v ok (downA l m i).1 (downA l m i).2 next ∧ Fr base ok w w' := by
  subst hx; exact down_calls base p mb v ok l m next i w H h1 hsm
set_option maxHeartbeats 4000000 in
set_option maxRecDepth 100000 in
theorem drop_some (base p mb : Nat) (v : Value) (ok : Nat → Prop) (l : List NI) (m : List (Int × Int)) (next k : Int) (i : Nat) (w : World) (H : HeapAt w base p mb v ok l m next) (hk : getI k m = some (i : Int)) (hi : i < l.length) (hsm : l.length ≤ 1000000000000000000)
    (hup : i < l.length - 1 → ∃ i' : Nat, getI (nd l (l.length - 1)).num (upA ((l.take (l.length - 1)).set i (nd l (l.length - 1))) (insI (nd l (l.length - 1)).num i (delI k m)) i).2 = some (i' : Int) ∧ i' < l.length - 1 ∧ (upA ((l.take (l.length - 1)).set i (nd l (l.length - 1))) (insI (nd l (l.length - 1)).num i (delI k m)) i).1.length = l.length - 1) :
    Calls Try.prog 30 #[.pointer (some ⟨p, 0, none⟩), .int .i64 k] w fun e w' => ∃ v', e = .returned (.tuple #[.int .u64 (nd l i).when, .agg #[.int .i64 (nd l i).val.f0, .int .i64 (nd l i).val.f1, .int .i64 (nd l i).val.f2.f0, .int .i64 (nd l i).val.f2.f1, .int .i64 (nd l i).val.f3, .int .u64 (nd l i).val.f4, .bool (nd l i).val.f5, .int .u64 (nd l i).val.f6], .int .i64 0]) ∧ HeapAt w' base p mb v' ok (dropA l m k i).1 (dropA l m k i).2 next ∧ Fr base ok w w' := by
  have HH := Aside0.mk H
  have HF := Aside0.mk (Fr.refl H.le H.low)
  have HG : Aside0 ((getI k m).isSome = true) := ⟨by rw [hk]; rfl⟩
  have HU := Aside0.mk hup
  have HL : Aside0 ((Mp.get k (m.map kv)).getD (.int .i64 0) = .int .i64 (i : Int)) := ⟨by rw [get_kv, hk]; rfl⟩
  obtain ⟨g, cap, rfl, hbg, hgl, cells0, hg0⟩ := Kd.R_form H.row (by omega)
  have hi1 : (i : Int) < (l.length : Int) := by omega
  obtain ⟨hx0, hx1, hx2, hx3, hx4, hx5, hx6, hx7, hx8, hx9⟩ := at_row H.row i hi
  have hp0 : w.cell? ⟨p, 0, none⟩ = some (.slice (some ⟨g, 0, none⟩) l.length cap) := (blk_cell H.blk 0).trans rfl
  have hp1 : w.cell? ⟨p, 1, none⟩ = some (.map (some mb)) := (blk_cell H.blk 1).trans rfl
  have hcap : (l.length : Int) ≤ (cap : Int) := by have := (Kd.R_reads' H.row).2.1; omega
  have hl1 : (1 : Int) ≤ (l.length : Int) := by omega
  have hl2 : (l.length : Int) - 1 ≤ (cap : Int) := by omega
  clear H hg0 hk hup
  have infoS : (Try.prog.info? 97).map (·.size) = some ([Value.slice none 0 0].length) := by kernel_rfl
  by_cases hlast : (i : Int) < (l.length : Int) - 1
  all_goals
    go_enter Try.func30, Try.ntmps30
    go_wp2_with (first
      | ((with_reducible refine gate_dst (N := 5) rfl ?_); refine box_event ?hg (N := 5) ?hd (cs := #[.int .i64 0, .int .i64 0, .int .i64 0, .int .i64 0, .int .i64 0, .int .u64 0, .bool false, .int .u64 0]) (t := 40) ?hr ?_; (case hd => rfl); (case hg => rfl); (case hr => first | (go_simp; done) | (go_simp; rfl)); intro g5 hg5 w1 hbox hb; have HF0 := Aside0.mk ((Fr.refl HH.out.le HH.out.low).below hb); have B5 := Aside0.mk hbox; have HG5 := Aside0.mk (show w.heap.size ≤ g5 by omega); have HNo := Aside0.mk (show ¬ ok g5 from HH.out.new (by omega)); have HX := HH.out.below hb; clear HH HF hp0 hp1 hx0 hx1 hx2 hx3 hx4 hx5 hx6 hx7 hx8 hx9; have HH := Aside0.mk HX; have HF := Aside0.mk (Fr.refl HX.le HX.low); (obtain ⟨hx0, hx1, hx2, hx3, hx4, hx5, hx6, hx7, hx8, hx9⟩ := at_row HX.row i hi); (have hp0 : w1.cell? ⟨p, 0, none⟩ = some (.slice (some ⟨g, 0, none⟩) l.length cap) := (blk_cell HX.blk 0).trans rfl); (have hp1 : w1.cell? ⟨p, 1, none⟩ = some (.map (some mb)) := (blk_cell HX.blk 1).trans rfl); clear HX hbox hb hg5)
      | (go_at_call 45; (refine (has_calls base p mb _ ok l m next k _ _ HH.out HG.out).mono ?_); rintro e w1' ⟨rfl, rfl⟩)
      | ((with_reducible refine gate_dst (N := 21) rfl ?_); refine step_look keyI Try.underlying96 rfl rfl (zero3 _) HH.out.map k rfl rfl (v := .int .i64 (i : Int)) HL.out ?_)
      | ((with_reducible refine gate_dst (N := 8) rfl ?_); refine box_event ?hg (N := 8) ?hd (cs := #[.int .u64 0, .int .i64 0, .int .i64 0, .int .i64 0, .int .i64 0, .int .i64 0, .int .i64 0, .int .u64 0, .bool false, .int .u64 0]) (t := 105) ?hr ?_; (case hd => rfl); (case hg => rfl); (case hr => first | (go_simp; done) | (go_simp; rfl)); intro gn hgn w2 hbox hb; have HF1 := Aside0.mk (HF.out.below hb); have HA1 := Aside0.mk (HH.out.below hb); have BK1 := Aside0.mk hbox; have HN := Aside0.mk (show w1.heap.size ≤ gn by omega); clear hb hbox hgn hp0 hp1 hx0 hx1 hx2 hx3 hx4 hx5 hx6 hx7 hx8 hx9)
      | ((with_reducible refine gate_store (t := 105) (p := 8) (v := .tmp 28) rfl ?_); refine step_store rfl rfl rfl BK1.out rfl (u := .agg (cN (nd l i))) (seg := (cN (nd l i)).toList) rfl rfl (by kernel_rfl) (by simp [Value.oneCell']) (Nat.le_refl 10) (cur' := cN (nd l i)) rfl ?_; intro w3 hb3 hg3 hs3; have HF2 := Aside0.mk (HF1.out.grown hg3 (.inr HN.out)); have BK2 := Aside0.mk hb3; have HA2 := Aside0.mk (HA1.out.grown hg3 (HH.out.new HN.out)); clear hb3 hg3 hs3 BK1 HF1 HA1; have hp1 : w3.cell? ⟨p, 1, none⟩ = some (.map (some mb)) := (blk_cell HA2.out.blk 1).trans rfl)
      | ((with_reducible refine gate_del (args := #[.tmp 32, .tmp 33]) rfl ?_); refine step_del keyI Try.underlying96 rfl rfl HA2.out.map k rfl rfl ?_; intro w4 hm4 hg4 hs4; have HF3 := Aside0.mk (HF2.out.grown hg4 (.inl HH.out.okm)); have HA3 := Aside0.mk (HA2.out.mapped (m' := delI k m) (by rw [← del_kv]; exact hm4) hg4); have BK3 := Aside0.mk (blk_grown BK2.out hg4 (by intro e; cases e; exact HH.out.new HN.out HH.out.okm)); clear hm4 hg4 hs4 hp1 BK2 HF2 HA2; have hp0 : w4.cell? ⟨p, 0, none⟩ = some (.slice (some ⟨g, 0, none⟩) l.length cap) := (blk_cell HA3.out.blk 0).trans rfl; obtain ⟨hx0, hx1, hx2, hx3, hx4, hx5, hx6, hx7, hx8, hx9⟩ := at_row HA3.out.row (l.length - 1) (by omega))
      | ((with_reducible refine gate_dst (N := 10) rfl ?_); refine box_event ?hg (N := 10) ?hd (cs := #[.int .u64 0, .int .i64 0, .int .i64 0, .int .i64 0, .int .i64 0, .int .i64 0, .int .i64 0, .int .u64 0, .bool false, .int .u64 0]) (t := 105) ?hr ?_; (case hd => rfl); (case hg => rfl); (case hr => first | (go_simp; done) | (go_simp; rfl)); intro gm hgm w5 hbox hb; have HF4 := Aside0.mk (HF3.out.below hb); have HA4 := Aside0.mk (HA3.out.below hb); have BK4 := Aside0.mk (blk_below BK3.out hb); have BM4 := Aside0.mk hbox; have HM := Aside0.mk (show w1.heap.size ≤ gm by have := HF3.out.size; omega); have HNM := Aside0.mk (show gn ≠ gm by have := blk_lt BK3.out; omega); clear hb hbox hgm hp0 hx0 hx1 hx2 hx3 hx4 hx5 hx6 hx7 hx8 hx9 HA3 HF3 BK3)
      | ((with_reducible refine gate_store (t := 105) (p := 10) (v := .tmp 46) rfl ?_); refine step_store rfl rfl rfl BM4.out rfl (u := .agg (cN (nd l (l.length - 1)))) (seg := (cN (nd l (l.length - 1))).toList) rfl rfl (by kernel_rfl) (by simp [Value.oneCell']) (Nat.le_refl 10) (cur' := cN (nd l (l.length - 1))) rfl ?_; intro w6 hb6 hg6 hs6; have HF6 := Aside0.mk (HF4.out.grown hg6 (.inr HM.out)); have BM6 := Aside0.mk hb6; have BK6 := Aside0.mk (blk_grown BK4.out hg6 (by intro e; cases e; exact HNM.out rfl)); have HA6 := Aside0.mk (HA4.out.grown hg6 (HH.out.new HM.out)); clear hb6 hg6 hs6 BM4 BK4 HF4 HA4; have hp0 : w6.cell? ⟨p, 0, none⟩ = some (.slice (some ⟨g, 0, none⟩) l.length cap) := (blk_cell HA6.out.blk 0).trans rfl)
      | ((with_reducible refine gate_store (t := 97) (p := 55) (v := .tmp 53) rfl ?_); refine step_store rfl rfl rfl HA6.out.blk rfl (u := .slice (some ⟨g, 0, none⟩) (l.length - 1) cap) (seg := [.slice (some ⟨g, 0, none⟩) (l.length - 1) cap]) rfl rfl infoS (by simp [Value.oneCell']) (by show 0 + 1 ≤ 3; omega) (cur' := cH (.slice (some ⟨g, 0, none⟩) (l.length - 1) cap) mb next) rfl ?_; intro w7 hb7 hg7 hs7; have HF7 := Aside0.mk (HF6.out.grown hg7 (.inl HH.out.okp)); have BM7 := Aside0.mk (blk_grown BM6.out hg7 (by intro e; cases e; exact HH.out.new HM.out HH.out.okp)); have BK7 := Aside0.mk (blk_grown BK6.out hg7 (by intro e; cases e; exact HH.out.new HN.out HH.out.okp)); have HA7 := Aside0.mk (HA6.out.cut (n' := l.length - 1) (Nat.sub_le _ _) hb7 hg7); clear hb7 hg7 hs7 hp0 BM6 BK6 HF6 HA6; have hm0 : w7.cell? ⟨gm, 0, none⟩ = some (.int .u64 (nd l (l.length - 1)).when) := (blk_cell BM7.out 0).trans rfl; have hm1 : w7.cell? ⟨gm, 1, none⟩ = some (.int .i64 (nd l (l.length - 1)).num) := (blk_cell BM7.out 1).trans rfl; have hm2 : w7.cell? ⟨gm, 2, none⟩ = some (.int .i64 (nd l (l.length - 1)).val.f0) := (blk_cell BM7.out 2).trans rfl; have hm3 : w7.cell? ⟨gm, 3, none⟩ = some (.int .i64 (nd l (l.length - 1)).val.f1) := (blk_cell BM7.out 3).trans rfl; have hm4 : w7.cell? ⟨gm, 4, none⟩ = some (.int .i64 (nd l (l.length - 1)).val.f2.f0) := (blk_cell BM7.out 4).trans rfl; have hm5 : w7.cell? ⟨gm, 5, none⟩ = some (.int .i64 (nd l (l.length - 1)).val.f2.f1) := (blk_cell BM7.out 5).trans rfl; have hm6 : w7.cell? ⟨gm, 6, none⟩ = some (.int .i64 (nd l (l.length - 1)).val.f3) := (blk_cell BM7.out 6).trans rfl; have hm7 : w7.cell? ⟨gm, 7, none⟩ = some (.int .u64 (nd l (l.length - 1)).val.f4) := (blk_cell BM7.out 7).trans rfl; have hm8 : w7.cell? ⟨gm, 8, none⟩ = some (.bool (nd l (l.length - 1)).val.f5) := (blk_cell BM7.out 8).trans rfl; have hm9 : w7.cell? ⟨gm, 9, none⟩ = some (.int .u64 (nd l (l.length - 1)).val.f6) := (blk_cell BM7.out 9).trans rfl; have hn0 : w7.cell? ⟨gn, 0, none⟩ = some (.int .u64 (nd l i).when) := (blk_cell BK7.out 0).trans rfl; have hn2 : w7.cell? ⟨gn, 2, none⟩ = some (.int .i64 (nd l i).val.f0) := (blk_cell BK7.out 2).trans rfl; have hn3 : w7.cell? ⟨gn, 3, none⟩ = some (.int .i64 (nd l i).val.f1) := (blk_cell BK7.out 3).trans rfl; have hn4 : w7.cell? ⟨gn, 4, none⟩ = some (.int .i64 (nd l i).val.f2.f0) := (blk_cell BK7.out 4).trans rfl; have hn5 : w7.cell? ⟨gn, 5, none⟩ = some (.int .i64 (nd l i).val.f2.f1) := (blk_cell BK7.out 5).trans rfl; have hn6 : w7.cell? ⟨gn, 6, none⟩ = some (.int .i64 (nd l i).val.f3) := (blk_cell BK7.out 6).trans rfl; have hn7 : w7.cell? ⟨gn, 7, none⟩ = some (.int .u64 (nd l i).val.f4) := (blk_cell BK7.out 7).trans rfl; have hn8 : w7.cell? ⟨gn, 8, none⟩ = some (.bool (nd l i).val.f5) := (blk_cell BK7.out 8).trans rfl; have hn9 : w7.cell? ⟨gn, 9, none⟩ = some (.int .u64 (nd l i).val.f6) := (blk_cell BK7.out 9).trans rfl)
      | (go_at_call 46; (refine (set_calls base p mb _ ok _ (delI k m) next (i : Int) (nd l (l.length - 1)) _ HA7.out (by omega) (by rw [List.length_take]; omega)).mono ?_); rintro e w8 ⟨rfl, hA, hF⟩; have HA8 := Aside0.mk hA; have HF8 := Aside0.mk (HF7.out.then_ hF (Nat.le_refl _) (fun k q => .inl q)); have BK8 := Aside0.mk (hF.blk BK7.out (HH.out.new HN.out)); have BM8 := Aside0.mk (hF.blk BM7.out (HH.out.new HM.out)); clear hA hF hm0 hm1 hm2 hm3 hm4 hm5 hm6 hm7 hm8 hm9 hn0 hn2 HA7 HF7 BK7 BM7)
      | (go_at_call 47; (refine (up_calls' base p mb _ ok _ _ next i _ rfl _ HA8.out (by rw [List.length_set, List.length_take]; omega)).mono ?_); rintro e w9 ⟨rfl, hA, hF⟩; have HA9 := Aside0.mk hA; have HF9 := Aside0.mk (HF8.out.then_ hF (Nat.le_refl _) (fun k q => .inl q)); have BK9 := Aside0.mk (hF.blk BK8.out (HH.out.new HN.out)); have BM9 := Aside0.mk (hF.blk BM8.out (HH.out.new HM.out)); clear hA hF HA8 HF8 BK8 BM8))
  · obtain ⟨i', hu1, hu2, hu3⟩ := HU.out (by omega)
    have HU3 := Aside0.mk hu3
    have HL2 : Aside0 ((Mp.get (nd l (l.length - 1)).num ((upA ((l.take (l.length - 1)).set i (nd l (l.length - 1))) (insI (nd l (l.length - 1)).num (i : Int) (delI k m)) i).2.map kv)).getD (.int .i64 0) = .int .i64 (i' : Int)) := ⟨by rw [get_kv, hu1]; rfl⟩
    have HD : Aside0 (dropA l m k i = downA (upA ((l.take (l.length - 1)).set i (nd l (l.length - 1))) (insI (nd l (l.length - 1)).num (i : Int) (delI k m)) i).1 (upA ((l.take (l.length - 1)).set i (nd l (l.length - 1))) (insI (nd l (l.length - 1)).num (i : Int) (delI k m)) i).2 i') := ⟨by
      unfold dropA
      dsimp only
      rw [if_pos (by omega), hu1]
      rfl⟩
    clear hu1 hu3
    have HA9' := HA9
    simp only [Int.toNat_natCast] at HA9'
    clear HA9
    generalize (upA ((l.take (l.length - 1)).set i (nd l (l.length - 1))) (insI (nd l (l.length - 1)).num (i : Int) (delI k m)) i) = q at *
    have hm1 : w9.cell? ⟨gm, 1, none⟩ = some (.int .i64 (nd l (l.length - 1)).num) := (blk_cell BM9.out 1).trans rfl
    have hp1 : w9.cell? ⟨p, 1, none⟩ = some (.map (some mb)) := (blk_cell HA9'.out.blk 1).trans rfl
    go_still_tail 8, (by kernel_rfl)
    refine still_value (W := w9.drew) rfl (exec_look (ok := false) (v := .int .i64 (i' : Int)) keyI Try.underlying96 rfl (zero3 _) HA9'.out.drew.map (nd l (l.length - 1)).num rfl rfl HL2.out) ?_
    refine wpStill_nil ?_
    change wpList _ _ _ _ _ w9.drew
    have HA10 := Aside0.mk HA9'.out.drew
    have HF10 := Aside0.mk HF9.out.drew
    have BK10 : Aside0 (w9.drew.heap[gn]? = some (.cells (cN (nd l i)) 105 (0, 0))) := ⟨BK9.out⟩
    generalize w9.drew = w10 at *
    clear hm1 hp1 HA9' HF9 BK9 BM9
    go_wp2_with (first
      | (go_at_call 48; (refine (down_calls' base p mb _ ok _ _ next i' _ rfl _ HA10.out (by have := HU3.out; omega) (by have := HU3.out; omega)).mono ?_); rintro e w11 ⟨rfl, hA, hF⟩; have HA11 := Aside0.mk hA; have HF11 := Aside0.mk (HF10.out.then_ hF (Nat.le_refl _) (fun k q => .inl q)); have BK11 := Aside0.mk (hF.blk BK10.out (HH.out.new HN.out)); clear hA hF HA10 HF10 BK10; have hn0 : w11.cell? ⟨gn, 0, none⟩ = some (.int .u64 (nd l i).when) := (blk_cell BK11.out 0).trans rfl; have hn2 : w11.cell? ⟨gn, 2, none⟩ = some (.int .i64 (nd l i).val.f0) := (blk_cell BK11.out 2).trans rfl; have hn3 : w11.cell? ⟨gn, 3, none⟩ = some (.int .i64 (nd l i).val.f1) := (blk_cell BK11.out 3).trans rfl; have hn4 : w11.cell? ⟨gn, 4, none⟩ = some (.int .i64 (nd l i).val.f2.f0) := (blk_cell BK11.out 4).trans rfl; have hn5 : w11.cell? ⟨gn, 5, none⟩ = some (.int .i64 (nd l i).val.f2.f1) := (blk_cell BK11.out 5).trans rfl; have hn6 : w11.cell? ⟨gn, 6, none⟩ = some (.int .i64 (nd l i).val.f3) := (blk_cell BK11.out 6).trans rfl; have hn7 : w11.cell? ⟨gn, 7, none⟩ = some (.int .u64 (nd l i).val.f4) := (blk_cell BK11.out 7).trans rfl; have hn8 : w11.cell? ⟨gn, 8, none⟩ = some (.bool (nd l i).val.f5) := (blk_cell BK11.out 8).trans rfl; have hn9 : w11.cell? ⟨gn, 9, none⟩ = some (.int .u64 (nd l i).val.f6) := (blk_cell BK11.out 9).trans rfl))
    have B5a := Aside0.mk (HF11.out.blk B5.out HNo.out)
    go_still_tail 5, (by kernel_rfl)
    change wpList _ _ _ _ _ w11.drew
    have HAa := Aside0.mk HA11.out.drew
    have HFa := Aside0.mk (HF0.out.then_ HF11.out.drew (Nat.le_refl _) (fun k q => .inl q))
    have B5b : Aside0 (w11.drew.heap[g5]? = some (.cells #[.int .i64 0, .int .i64 0, .int .i64 0, .int .i64 0, .int .i64 0, .int .u64 0, .bool false, .int .u64 0] 40 (0, 0))) := ⟨B5a.out⟩
    clear hn0 hn2 hn3 hn4 hn5 hn6 hn7 hn8 hn9 HA11 HF11 B5a
    generalize w11.drew = wa at *
    go_wp2_with ((with_reducible refine gate_store (t := 40) (p := 5) (v := .tmp 78) rfl ?_); refine step_store rfl rfl rfl B5b.out rfl (u := .agg #[.int .i64 (nd l i).val.f0, .int .i64 (nd l i).val.f1, .int .i64 (nd l i).val.f2.f0, .int .i64 (nd l i).val.f2.f1, .int .i64 (nd l i).val.f3, .int .u64 (nd l i).val.f4, .bool (nd l i).val.f5, .int .u64 (nd l i).val.f6]) (seg := [.int .i64 (nd l i).val.f0, .int .i64 (nd l i).val.f1, .int .i64 (nd l i).val.f2.f0, .int .i64 (nd l i).val.f2.f1, .int .i64 (nd l i).val.f3, .int .u64 (nd l i).val.f4, .bool (nd l i).val.f5, .int .u64 (nd l i).val.f6]) rfl rfl (by kernel_rfl) (by simp [Value.oneCell']) (Nat.le_refl 8) (cur' := #[.int .i64 (nd l i).val.f0, .int .i64 (nd l i).val.f1, .int .i64 (nd l i).val.f2.f0, .int .i64 (nd l i).val.f2.f1, .int .i64 (nd l i).val.f3, .int .u64 (nd l i).val.f4, .bool (nd l i).val.f5, .int .u64 (nd l i).val.f6]) rfl ?_; intro wb hbb hgb hsb)
    refine bodyPost_ret (results_list (rs := [.tmp 4, .cell 5 40, .tmp 6]) rfl (by simp) (.tmp (.cell g5 40 #[.int .i64 (nd l i).val.f0, .int .i64 (nd l i).val.f1, .int .i64 (nd l i).val.f2.f0, .int .i64 (nd l i).val.f2.f1, .int .i64 (nd l i).val.f3, .int .u64 (nd l i).val.f4, .bool (nd l i).val.f5, .int .u64 (nd l i).val.f6] (0, 0) _ rfl hbb Try.underlying40 rfl (by kernel_rfl) (.tmp .nil)))) rfl ?_
    refine ⟨.slice (some ⟨g, 0, none⟩) (l.length - 1) cap, rfl, ?_, HFa.out.grown hgb (.inr HG5.out)⟩
    rw [HD.out]
    exact HAa.out.grown hgb HNo.out
  · have HD : Aside0 (dropA l m k i = (l.take (l.length - 1), delI k m)) := ⟨by unfold dropA; dsimp only; rw [if_neg (by omega)]⟩
    clear hm0 hm1 hm2 hm3 hm4 hm5 hm6 hm7 hm8 hm9
    have B5a := Aside0.mk (HF7.out.blk B5.out HNo.out)
    go_still_tail 5, (by kernel_rfl)
    change wpList _ _ _ _ _ w7.drew
    have HAa := Aside0.mk HA7.out.drew
    have HFa := Aside0.mk (HF0.out.then_ HF7.out.drew (Nat.le_refl _) (fun k q => .inl q))
    have B5b : Aside0 (w7.drew.heap[g5]? = some (.cells #[.int .i64 0, .int .i64 0, .int .i64 0, .int .i64 0, .int .i64 0, .int .u64 0, .bool false, .int .u64 0] 40 (0, 0))) := ⟨B5a.out⟩
    clear hn0 hn2 hn3 hn4 hn5 hn6 hn7 hn8 hn9 HA7 HF7 B5a
    generalize w7.drew = wa at *
    go_wp2_with ((with_reducible refine gate_store (t := 40) (p := 5) (v := .tmp 78) rfl ?_); refine step_store rfl rfl rfl B5b.out rfl (u := .agg #[.int .i64 (nd l i).val.f0, .int .i64 (nd l i).val.f1, .int .i64 (nd l i).val.f2.f0, .int .i64 (nd l i).val.f2.f1, .int .i64 (nd l i).val.f3, .int .u64 (nd l i).val.f4, .bool (nd l i).val.f5, .int .u64 (nd l i).val.f6]) (seg := [.int .i64 (nd l i).val.f0, .int .i64 (nd l i).val.f1, .int .i64 (nd l i).val.f2.f0, .int .i64 (nd l i).val.f2.f1, .int .i64 (nd l i).val.f3, .int .u64 (nd l i).val.f4, .bool (nd l i).val.f5, .int .u64 (nd l i).val.f6]) rfl rfl (by kernel_rfl) (by simp [Value.oneCell']) (Nat.le_refl 8) (cur' := #[.int .i64 (nd l i).val.f0, .int .i64 (nd l i).val.f1, .int .i64 (nd l i).val.f2.f0, .int .i64 (nd l i).val.f2.f1, .int .i64 (nd l i).val.f3, .int .u64 (nd l i).val.f4, .bool (nd l i).val.f5, .int .u64 (nd l i).val.f6]) rfl ?_; intro wb hbb hgb hsb)
    refine bodyPost_ret (results_list (rs := [.tmp 4, .cell 5 40, .tmp 6]) rfl (by simp) (.tmp (.cell g5 40 #[.int .i64 (nd l i).val.f0, .int .i64 (nd l i).val.f1, .int .i64 (nd l i).val.f2.f0, .int .i64 (nd l i).val.f2.f1, .int .i64 (nd l i).val.f3, .int .u64 (nd l i).val.f4, .bool (nd l i).val.f5, .int .u64 (nd l i).val.f6] (0, 0) _ rfl hbb Try.underlying40 rfl (by kernel_rfl) (.tmp .nil)))) rfl ?_
    refine ⟨.slice (some ⟨g, 0, none⟩) (l.length - 1) cap, rfl, ?_, HFa.out.grown hgb (.inr HG5.out)⟩
    rw [HD.out]
    exact HAa.out.grown hgb HNo.out
/-- A heap that is as it should be: Drop, with what it does to the heap. -/
theorem drop_calls (base p mb : Nat) (v : Value) (ok : Nat → Prop) (l : List NI) (m : List (Int × Int)) (next k : Int) (i : Nat) (w : World) (H : HeapAt w base p mb v ok l m next) (hI : Inv l m) (hk : getI k m = some (i : Int)) (hi : i < l.length) (hsm : l.length ≤ 1000000000000000000) :
    Calls Try.prog 30 #[.pointer (some ⟨p, 0, none⟩), .int .i64 k] w fun e w' => ∃ v', e = .returned (.tuple #[.int .u64 (nd l i).when, .agg #[.int .i64 (nd l i).val.f0, .int .i64 (nd l i).val.f1, .int .i64 (nd l i).val.f2.f0, .int .i64 (nd l i).val.f2.f1, .int .i64 (nd l i).val.f3, .int .u64 (nd l i).val.f4, .bool (nd l i).val.f5, .int .u64 (nd l i).val.f6], .int .i64 0]) ∧ HeapAt w' base p mb v' ok (dropA l m k i).1 (dropA l m k i).2 next ∧ Fr base ok w w' := by
  obtain ⟨j, e, hj, hn⟩ := find_spec hI hk
  have e' : j = i := by omega
  subst e'
  refine drop_some base p mb v ok l m next k j w H hk hi hsm (fun h => ?_)
  rw [← hn]
  exact drop_up hI h
end Go.Proofs.Ytceopcfmhidjlaa.PTimerPlays
set_option linter.unusedVariables false
set_option linter.unusedSimpArgs false
namespace Go.Proofs.Ytceopcfmhidjlaa.PTimerPlays
open Go.RowKit Go.Proofs.Ytceopcfmhidjlaa.Ef Go.Proofs.Ytceopcfmhidjlaa.Mp Go.Proofs.Ytceopcfmhidjlaa.Hp Go.Proofs.YtceopcfmhidjlaaW.PrintWords Go.Proofs.YtceopcfmhidjlaaW.PrintLast Go.Proofs.YtceopcfmhidjlaaW.PrintMore
theorem blk_drew {W : World} {g : Nat} {o : Obj} (h : W.heap[g]? = some o) : W.drew.heap[g]? = some o := h
set_option maxHeartbeats 8000000 in
set_option maxRecDepth 100000 in
theorem pop_some (base p mb : Nat) (v : Value) (ok : Nat → Prop) (l : List NI) (m : List (Int × Int)) (next : Int) (w : World) (H : HeapAt w base p mb v ok l m next) (hI : Inv l m) (hl : 0 < l.length) (hsm : l.length ≤ 1000000000000000000) :
    Calls Try.prog 32 #[.pointer (some ⟨p, 0, none⟩)] w fun e w' => ∃ v', e = .returned (.tuple #[.int .u64 (nd l 0).when, .int .i64 (nd l 0).num, .agg #[.int .i64 (nd l 0).val.f0, .int .i64 (nd l 0).val.f1, .int .i64 (nd l 0).val.f2.f0, .int .i64 (nd l 0).val.f2.f1, .int .i64 (nd l 0).val.f3, .int .u64 (nd l 0).val.f4, .bool (nd l 0).val.f5, .int .u64 (nd l 0).val.f6], .int .i64 0]) ∧ HeapAt w' base p mb v' ok (dropA l m (nd l 0).num 0).1 (dropA l m (nd l 0).num 0).2 next ∧ Fr base ok w w' := by
  have HH := Aside0.mk H
  have HF := Aside0.mk (Fr.refl H.le H.low)
  have HK := Aside0.mk (hI.2.1.1 0 hl)
  have HI := Aside0.mk hI
  clear H hI
  go_enter Try.func32, Try.ntmps32
  go_wp2_with (first
    | ((with_reducible refine gate_dst (N := 4) rfl ?_); refine box_event ?hg (N := 4) ?hd (cs := #[.int .i64 0, .int .i64 0, .int .i64 0, .int .i64 0, .int .i64 0, .int .u64 0, .bool false, .int .u64 0]) (t := 40) ?hr ?_; (case hd => rfl); (case hg => rfl); (case hr => first | (go_simp; done) | (go_simp; rfl)); intro g4 hg4 w1 hbox hb; have HF1 := Aside0.mk (HF.out.below hb); have B4 := Aside0.mk hbox; have HG4 := Aside0.mk (show w.heap.size ≤ g4 by omega); have HNo := Aside0.mk (show ¬ ok g4 from HH.out.new (by omega)); have HA1 := Aside0.mk (HH.out.below hb); clear HF hbox hb hg4)
    | (go_at_call 31; (refine (top_some base p mb v ok l m next _ HA1.out hl).mono ?_); rintro e w2 ⟨rfl, hb⟩; have HF2 := Aside0.mk (HF1.out.below hb); have HA2 := Aside0.mk (HA1.out.below hb); have B42 := Aside0.mk (blk_below B4.out hb); clear hb HF1 HA1 B4)
    | ((with_reducible refine gate_store (t := 40) (p := 4) (v := .tmp 11) rfl ?_); refine step_store rfl rfl rfl B42.out rfl (u := .agg #[.int .i64 (nd l 0).val.f0, .int .i64 (nd l 0).val.f1, .int .i64 (nd l 0).val.f2.f0, .int .i64 (nd l 0).val.f2.f1, .int .i64 (nd l 0).val.f3, .int .u64 (nd l 0).val.f4, .bool (nd l 0).val.f5, .int .u64 (nd l 0).val.f6]) (seg := [.int .i64 (nd l 0).val.f0, .int .i64 (nd l 0).val.f1, .int .i64 (nd l 0).val.f2.f0, .int .i64 (nd l 0).val.f2.f1, .int .i64 (nd l 0).val.f3, .int .u64 (nd l 0).val.f4, .bool (nd l 0).val.f5, .int .u64 (nd l 0).val.f6]) rfl rfl (by kernel_rfl) (by simp [Value.oneCell']) (Nat.le_refl 8) (cur' := #[.int .i64 (nd l 0).val.f0, .int .i64 (nd l 0).val.f1, .int .i64 (nd l 0).val.f2.f0, .int .i64 (nd l 0).val.f2.f1, .int .i64 (nd l 0).val.f3, .int .u64 (nd l 0).val.f4, .bool (nd l 0).val.f5, .int .u64 (nd l 0).val.f6]) rfl ?_; intro w3 hb3 hg3 hs3; have HF3 := Aside0.mk (HF2.out.grown hg3 (.inr HG4.out)); have HA3 := Aside0.mk (HA2.out.grown hg3 HNo.out); have B43 := Aside0.mk hb3; clear hb3 hg3 hs3 HF2 HA2 B42)
    | (go_at_call 30; (refine (drop_calls base p mb v ok l m next (nd l 0).num 0 _ HA3.out HI.out HK.out hl hsm).mono ?_); rintro e w4 ⟨v', rfl, hA, hF⟩; have HA4 := Aside0.mk hA; have HF4 := Aside0.mk (HF3.out.then_ hF (Nat.le_refl _) (fun k q => .inl q)); have B44 := Aside0.mk (hF.blk B43.out HNo.out); have v0 : w4.cell? ⟨g4, 0, none⟩ = some (.int .i64 (nd l 0).val.f0) := (blk_cell B44.out 0).trans rfl; have v1 : w4.cell? ⟨g4, 1, none⟩ = some (.int .i64 (nd l 0).val.f1) := (blk_cell B44.out 1).trans rfl; have v2 : w4.cell? ⟨g4, 2, none⟩ = some (.int .i64 (nd l 0).val.f2.f0) := (blk_cell B44.out 2).trans rfl; have v3 : w4.cell? ⟨g4, 3, none⟩ = some (.int .i64 (nd l 0).val.f2.f1) := (blk_cell B44.out 3).trans rfl; have v4 : w4.cell? ⟨g4, 4, none⟩ = some (.int .i64 (nd l 0).val.f3) := (blk_cell B44.out 4).trans rfl; have v5 : w4.cell? ⟨g4, 5, none⟩ = some (.int .u64 (nd l 0).val.f4) := (blk_cell B44.out 5).trans rfl; have v6 : w4.cell? ⟨g4, 6, none⟩ = some (.bool (nd l 0).val.f5) := (blk_cell B44.out 6).trans rfl; have v7 : w4.cell? ⟨g4, 7, none⟩ = some (.int .u64 (nd l 0).val.f6) := (blk_cell B44.out 7).trans rfl; clear hA hF HA3 HF3 B43))
  have z0 := blk_frozen B44.out 0
  have z1 := blk_frozen B44.out 1
  have z2 := blk_frozen B44.out 2
  have z3 := blk_frozen B44.out 3
  have z4 := blk_frozen B44.out 4
  have z5 := blk_frozen B44.out 5
  have z6 := blk_frozen B44.out 6
  have z7 := blk_frozen B44.out 7
  have q0 := set_step (cur' := #[.int .i64 (nd l 0).val.f0, .int .i64 (nd l 0).val.f1, .int .i64 (nd l 0).val.f2.f0, .int .i64 (nd l 0).val.f2.f1, .int .i64 (nd l 0).val.f3, .int .u64 (nd l 0).val.f4, .bool (nd l 0).val.f5, .int .u64 (nd l 0).val.f6]) B44.out 0 (.int .i64 (nd l 0).val.f0) rfl
  have q1 := set_step (cur' := #[.int .i64 (nd l 0).val.f0, .int .i64 (nd l 0).val.f1, .int .i64 (nd l 0).val.f2.f0, .int .i64 (nd l 0).val.f2.f1, .int .i64 (nd l 0).val.f3, .int .u64 (nd l 0).val.f4, .bool (nd l 0).val.f5, .int .u64 (nd l 0).val.f6]) q0.1 1 (.int .i64 (nd l 0).val.f1) rfl
  have q2 := set_step (cur' := #[.int .i64 (nd l 0).val.f0, .int .i64 (nd l 0).val.f1, .int .i64 (nd l 0).val.f2.f0, .int .i64 (nd l 0).val.f2.f1, .int .i64 (nd l 0).val.f3, .int .u64 (nd l 0).val.f4, .bool (nd l 0).val.f5, .int .u64 (nd l 0).val.f6]) q1.1 2 (.int .i64 (nd l 0).val.f2.f0) rfl
  have q3 := set_step (cur' := #[.int .i64 (nd l 0).val.f0, .int .i64 (nd l 0).val.f1, .int .i64 (nd l 0).val.f2.f0, .int .i64 (nd l 0).val.f2.f1, .int .i64 (nd l 0).val.f3, .int .u64 (nd l 0).val.f4, .bool (nd l 0).val.f5, .int .u64 (nd l 0).val.f6]) q2.1 3 (.int .i64 (nd l 0).val.f2.f1) rfl
  have q4 := set_step (cur' := #[.int .i64 (nd l 0).val.f0, .int .i64 (nd l 0).val.f1, .int .i64 (nd l 0).val.f2.f0, .int .i64 (nd l 0).val.f2.f1, .int .i64 (nd l 0).val.f3, .int .u64 (nd l 0).val.f4, .bool (nd l 0).val.f5, .int .u64 (nd l 0).val.f6]) q3.1 4 (.int .i64 (nd l 0).val.f3) rfl
  have q5 := set_step (cur' := #[.int .i64 (nd l 0).val.f0, .int .i64 (nd l 0).val.f1, .int .i64 (nd l 0).val.f2.f0, .int .i64 (nd l 0).val.f2.f1, .int .i64 (nd l 0).val.f3, .int .u64 (nd l 0).val.f4, .bool (nd l 0).val.f5, .int .u64 (nd l 0).val.f6]) q4.1 5 (.int .u64 (nd l 0).val.f4) rfl
  have q6 := set_step (cur' := #[.int .i64 (nd l 0).val.f0, .int .i64 (nd l 0).val.f1, .int .i64 (nd l 0).val.f2.f0, .int .i64 (nd l 0).val.f2.f1, .int .i64 (nd l 0).val.f3, .int .u64 (nd l 0).val.f4, .bool (nd l 0).val.f5, .int .u64 (nd l 0).val.f6]) q5.1 6 (.bool (nd l 0).val.f5) rfl
  have q7 := set_step (cur' := #[.int .i64 (nd l 0).val.f0, .int .i64 (nd l 0).val.f1, .int .i64 (nd l 0).val.f2.f0, .int .i64 (nd l 0).val.f2.f1, .int .i64 (nd l 0).val.f3, .int .u64 (nd l 0).val.f4, .bool (nd l 0).val.f5, .int .u64 (nd l 0).val.f6]) q6.1 7 (.int .u64 (nd l 0).val.f6) rfl
  have hKEEP := (⟨(show _ = some (.int .i64 (nd l 0).val.f0) from (blk_cell q7.1 0).trans rfl), (show _ = some (.int .i64 (nd l 0).val.f1) from (blk_cell q7.1 1).trans rfl), (show _ = some (.int .i64 (nd l 0).val.f2.f0) from (blk_cell q7.1 2).trans rfl), (show _ = some (.int .i64 (nd l 0).val.f2.f1) from (blk_cell q7.1 3).trans rfl), (show _ = some (.int .i64 (nd l 0).val.f3) from (blk_cell q7.1 4).trans rfl), (show _ = some (.int .u64 (nd l 0).val.f4) from (blk_cell q7.1 5).trans rfl), (show _ = some (.bool (nd l 0).val.f5) from (blk_cell q7.1 6).trans rfl), (show _ = some (.int .u64 (nd l 0).val.f6) from (blk_cell q7.1 7).trans rfl)⟩ : _ ∧ _ ∧ _ ∧ _ ∧ _ ∧ _ ∧ _ ∧ _)
  have HBa := Aside0.mk q7.1
  have HFa := Aside0.mk (((((((((HF4.out).grown q0.2 (.inr HG4.out)).grown q1.2 (.inr HG4.out)).grown q2.2 (.inr HG4.out)).grown q3.2 (.inr HG4.out)).grown q4.2 (.inr HG4.out)).grown q5.2 (.inr HG4.out)).grown q6.2 (.inr HG4.out)).grown q7.2 (.inr HG4.out))
  have HAa := Aside0.mk (((((((((HA4.out).grown q0.2 HNo.out).grown q1.2 HNo.out).grown q2.2 HNo.out).grown q3.2 HNo.out).grown q4.2 HNo.out).grown q5.2 HNo.out).grown q6.2 HNo.out).grown q7.2 HNo.out)
  clear q0 q1 q2 q3 q4 q5 q6 q7
  go_region_held3 (fun w' => w'.cell? ⟨g4, 0, none⟩ = some (.int .i64 (nd l 0).val.f0) ∧ w'.cell? ⟨g4, 1, none⟩ = some (.int .i64 (nd l 0).val.f1) ∧ w'.cell? ⟨g4, 2, none⟩ = some (.int .i64 (nd l 0).val.f2.f0) ∧ w'.cell? ⟨g4, 3, none⟩ = some (.int .i64 (nd l 0).val.f2.f1) ∧ w'.cell? ⟨g4, 4, none⟩ = some (.int .i64 (nd l 0).val.f3) ∧ w'.cell? ⟨g4, 5, none⟩ = some (.int .u64 (nd l 0).val.f4) ∧ w'.cell? ⟨g4, 6, none⟩ = some (.bool (nd l 0).val.f5) ∧ w'.cell? ⟨g4, 7, none⟩ = some (.int .u64 (nd l 0).val.f6)) (first | go_keep | exact hKEEP) (fail)
  clear hKEEP
  go_wp2
  refine bodyPost_ret (results_list (rs := [.tmp 2, .tmp 3, .cell 4 40, .tmp 5]) rfl (by simp) (.tmp (.tmp (.cell g4 40 #[.int .i64 (nd l 0).val.f0, .int .i64 (nd l 0).val.f1, .int .i64 (nd l 0).val.f2.f0, .int .i64 (nd l 0).val.f2.f1, .int .i64 (nd l 0).val.f3, .int .u64 (nd l 0).val.f4, .bool (nd l 0).val.f5, .int .u64 (nd l 0).val.f6] (0, 0) _ rfl (blk_drew HBa.out) Try.underlying40 rfl (by kernel_rfl) (.tmp .nil))))) rfl ?_
  exact ⟨v', rfl, HAa.out.drew, HFa.out.drew⟩
/-! ### what a heap holds -/
/-- At p lies a heap that holds these (in whatever order), its blocks ok ones. -/
def HP (w : World) (base p : Nat) (ok : Nat → Prop) (items : List NI) (next : Int) : Prop := ∃ mb v l m, HeapAt w base p mb v ok l m next ∧ Inv l m ∧ l.Perm items
theorem HP.kept {w w' : World} {base p : Nat} {ok S : Nat → Prop} {items : List NI} {next : Int} (h : HP w base p ok items next) (hk : Kept w w' S) (hS : ∀ k, ok k → ¬ S k) : HP w' base p ok items next := by
  obtain ⟨mb, v, l, m, h1, h2, h3⟩ := h
  exact ⟨mb, v, l, m, h1.kept hk hS, h2, h3⟩
theorem HP.below {w w' : World} {base p : Nat} {ok : Nat → Prop} {items : List NI} {next : Int} (h : HP w base p ok items next) (hk : Below w.heap.size w w') : HP w' base p ok items next :=
  h.kept (Kept.of_below hk (fun _ => False)) (fun _ _ => id)
theorem HP.lower {w : World} {base base' p : Nat} {ok : Nat → Prop} {items : List NI} {next : Int} (h : HP w base p ok items next) (hb : base' ≤ base) : HP w base' p ok items next := by
  obtain ⟨mb, v, l, m, h1, h2, h3⟩ := h
  exact ⟨mb, v, l, m, h1.lower hb, h2, h3⟩
theorem HP.bound {w : World} {base p : Nat} {ok : Nat → Prop} {items : List NI} {next : Int} (h : HP w base p ok items next) : ∀ k, ok k → base ≤ k ∧ k < w.heap.size := by
  obtain ⟨mb, v, l, m, h1, h2, h3⟩ := h
  exact fun k hk => ⟨h1.low k hk, h1.bound k hk⟩
theorem HP.perm {w : World} {base p : Nat} {ok : Nat → Prop} {items items' : List NI} {next : Int} (h : HP w base p ok items next) (hp : items.Perm items') : HP w base p ok items' next := by
  obtain ⟨mb, v, l, m, h1, h2, h3⟩ := h
  exact ⟨mb, v, l, m, h1, h2, h3.trans hp⟩
theorem HP.once {w : World} {base p : Nat} {ok : Nat → Prop} {items : List NI} {next : Int} (h : HP w base p ok items next) : Once items := by
  obtain ⟨mb, v, l, m, h1, h2, h3⟩ := h
  exact once_perm h3.symm (inv_once h2)
theorem once_mem {l : List NI} (h : Once l) {x y : NI} (hx : x ∈ l) (hy : y ∈ l) (e : x.num = y.num) : x = y := by
  obtain ⟨i, hi, rfl⟩ := mem_nd hx
  obtain ⟨j, hj, rfl⟩ := mem_nd hy
  rw [once_inj h hi hj e]
/-- The first one. -/
def Least (items : List NI) (x : NI) : Prop := x ∈ items ∧ ∀ y ∈ items, ¬ lt y x
theorem least_one {l : List NI} (h : Once l) {x y : NI} (hx : Least l x) (hy : Least l y) : x = y := by
  refine once_mem h hx.1 hy.1 ?_
  have h1 := hx.2 y hy.1
  have h2 := hy.2 x hx.1
  unfold lt at h1 h2
  omega
theorem least_top {l : List NI} {m : List (Int × Int)} {items : List NI} (hI : Inv l m) (hp : l.Perm items) {x : NI} (hx : Least items x) : nd l 0 = x := by
  have hl : 0 < l.length := by rw [hp.length_eq]; exact List.length_pos_of_mem hx.1
  exact least_one (inv_once hI) ⟨nd_mem hl, top_spec hI⟩ ⟨hp.mem_iff.2 hx.1, fun y hy => hx.2 y (hp.mem_iff.1 hy)⟩
theorem HP.new (w : World) : Calls Try.prog 25 #[] w fun e w' => ∃ p, e = .returned (.pointer (some ⟨p, 0, none⟩)) ∧ HP w' w.heap.size p (fun k => w.heap.size ≤ k ∧ k < w'.heap.size) [] 0 ∧ Below w.heap.size w w' :=
  (new_calls w).mono fun e w' ⟨p, mb, h1, h2, h3⟩ => ⟨p, h1, ⟨mb, _, [], [], h2, inv_nil, .refl _⟩, h3⟩
theorem HP.len (base p : Nat) (ok : Nat → Prop) (items : List NI) (next : Int) (w : World) (H : HP w base p ok items next) :
    Calls Try.prog 49 #[.pointer (some ⟨p, 0, none⟩)] w fun e w' => e = .returned (.int .i64 (items.length : Int)) ∧ w = w' := by
  obtain ⟨mb, v, l, m, h1, h2, h3⟩ := H
  rw [← h3.length_eq]
  exact len_calls base p mb v ok l m next w h1
theorem HP.has (base p : Nat) (ok : Nat → Prop) (items : List NI) (next k : Int) (b : Bool) (w : World) (H : HP w base p ok items next) (hb : b = true ↔ ∃ x ∈ items, x.num = k) :
    Calls Try.prog 45 #[.pointer (some ⟨p, 0, none⟩), .int .i64 k] w fun e w' => e = .returned (.bool b) ∧ w = w' := by
  obtain ⟨mb, v, l, m, h1, h2, h3⟩ := H
  refine has_calls base p mb v ok l m next k b w h1 ?_
  cases hg : getI k m with
  | none =>
    have := find_none h2 hg
    cases b with
    | false => rfl
    | true => obtain ⟨x, hx, e⟩ := hb.1 rfl; exact absurd e (this x (h3.mem_iff.2 hx))
  | some i =>
    obtain ⟨j, _, hj, hn⟩ := find_spec h2 hg
    rw [hb.2 ⟨nd l j, h3.mem_iff.1 (nd_mem hj), hn⟩]
    rfl
theorem HP.push (base p : Nat) (ok : Nat → Prop) (items : List NI) (next when_ : Int) (val : S40) (w : World) (H : HP w base p ok items next) (hn : ∀ x ∈ items, x.num ≠ next) (hsm : (items.length + 1) * 80 ≤ 140737488355328) (hn0 : 0 ≤ next) (hn1 : next ≤ 1000000000000000000) :
    Calls Try.prog 50 #[.pointer (some ⟨p, 0, none⟩), .int .u64 when_, .agg #[.int .i64 val.f0, .int .i64 val.f1, .int .i64 val.f2.f0, .int .i64 val.f2.f1, .int .i64 val.f3, .int .u64 val.f4, .bool val.f5, .int .u64 val.f6]] w fun e w' => ∃ ok', e = .returned (.int .i64 next) ∧ HP w' base p ok' (items ++ [⟨when_, next, val⟩]) (next + 1) ∧ (∀ k, ok' k → ok k ∨ w.heap.size ≤ k) ∧ Fr base ok w w' := by
  obtain ⟨mb, v, l, m, h1, h2, h3⟩ := H
  refine (push_calls base p mb v ok l m next when_ val w h1 (by rw [h3.length_eq]; exact hsm) hn0 hn1).mono ?_
  rintro e w' ⟨v', ok', he, hA, ho, hF⟩
  obtain ⟨q1, q2⟩ := push_spec (n := ⟨when_, next, val⟩) h2 (fun x hx => hn x (h3.mem_iff.1 hx))
  exact ⟨ok', he, ⟨mb, v', _, _, hA, q1, q2.trans (h3.append_right _)⟩, ho, hF⟩
theorem HP.top_none (base p : Nat) (ok : Nat → Prop) (next : Int) (w : World) (H : HP w base p ok [] next) :
    Calls Try.prog 31 #[.pointer (some ⟨p, 0, none⟩)] w fun e w' => e = .returned (.tuple #[.int .u64 0, .int .i64 0, .agg #[.int .i64 0, .int .i64 0, .int .i64 0, .int .i64 0, .int .i64 0, .int .u64 0, .bool false, .int .u64 0], .int .i64 31]) ∧ Below w.heap.size w w' := by
  obtain ⟨mb, v, l, m, h1, h2, h3⟩ := H
  obtain rfl := h3.eq_nil
  exact PTimerPlays.top_none base p mb v ok m next w h1
theorem HP.top (base p : Nat) (ok : Nat → Prop) (items : List NI) (next : Int) (x : NI) (w : World) (H : HP w base p ok items next) (hx : Least items x) :
    Calls Try.prog 31 #[.pointer (some ⟨p, 0, none⟩)] w fun e w' => e = .returned (.tuple #[.int .u64 x.when, .int .i64 x.num, .agg #[.int .i64 x.val.f0, .int .i64 x.val.f1, .int .i64 x.val.f2.f0, .int .i64 x.val.f2.f1, .int .i64 x.val.f3, .int .u64 x.val.f4, .bool x.val.f5, .int .u64 x.val.f6], .int .i64 0]) ∧ Below w.heap.size w w' := by
  obtain ⟨mb, v, l, m, h1, h2, h3⟩ := H
  have hl : 0 < l.length := by rw [h3.length_eq]; exact List.length_pos_of_mem hx.1
  rw [← least_top h2 h3 hx]
  exact top_some base p mb v ok l m next w h1 hl
theorem HP.pop (base p : Nat) (ok : Nat → Prop) (items rest : List NI) (next : Int) (x : NI) (w : World) (H : HP w base p ok items next) (hx : Least items x) (hr : items.Perm (x :: rest)) (hsm : items.length ≤ 1000000000000000000) :
    Calls Try.prog 32 #[.pointer (some ⟨p, 0, none⟩)] w fun e w' => e = .returned (.tuple #[.int .u64 x.when, .int .i64 x.num, .agg #[.int .i64 x.val.f0, .int .i64 x.val.f1, .int .i64 x.val.f2.f0, .int .i64 x.val.f2.f1, .int .i64 x.val.f3, .int .u64 x.val.f4, .bool x.val.f5, .int .u64 x.val.f6], .int .i64 0]) ∧ HP w' base p ok rest next ∧ Fr base ok w w' := by
  obtain ⟨mb, v, l, m, h1, h2, h3⟩ := H
  have hl : 0 < l.length := by rw [h3.length_eq]; exact List.length_pos_of_mem hx.1
  have ht := least_top h2 h3 hx
  refine (pop_some base p mb v ok l m next w h1 h2 hl (by rw [h3.length_eq]; exact hsm)).mono ?_
  rintro e w' ⟨v', he, hA, hF⟩
  obtain ⟨q1, q2⟩ := drop_spec h2 hl
  rw [ht] at he q2
  refine ⟨he, ⟨mb, v', _, _, hA, q1, ?_⟩, hF⟩
  rw [ht]
  exact List.Perm.cons_inv (q2.symm.trans (h3.trans hr))
theorem HP.drop (base p : Nat) (ok : Nat → Prop) (items rest : List NI) (next : Int) (x : NI) (w : World) (H : HP w base p ok items next) (hr : items.Perm (x :: rest)) (hsm : items.length ≤ 1000000000000000000) :
    Calls Try.prog 30 #[.pointer (some ⟨p, 0, none⟩), .int .i64 x.num] w fun e w' => e = .returned (.tuple #[.int .u64 x.when, .agg #[.int .i64 x.val.f0, .int .i64 x.val.f1, .int .i64 x.val.f2.f0, .int .i64 x.val.f2.f1, .int .i64 x.val.f3, .int .u64 x.val.f4, .bool x.val.f5, .int .u64 x.val.f6], .int .i64 0]) ∧ HP w' base p ok rest next ∧ Fr base ok w w' := by
  obtain ⟨mb, v, l, m, h1, h2, h3⟩ := H
  obtain ⟨i, hi, hx⟩ := mem_nd (h3.mem_iff.2 (hr.mem_iff.2 List.mem_cons_self))
  have hg := h2.2.1.1 i hi
  rw [hx] at hg
  refine (drop_calls base p mb v ok l m next x.num i w h1 h2 hg hi (by rw [h3.length_eq]; exact hsm)).mono ?_
  rintro e w' ⟨v', he, hA, hF⟩
  obtain ⟨q1, q2⟩ := drop_spec h2 hi
  rw [hx] at he q2 q1
  refine ⟨he, ⟨mb, v', _, _, hA, q1, ?_⟩, hF⟩
  exact List.Perm.cons_inv (q2.symm.trans (h3.trans hr))
end Go.Proofs.Ytceopcfmhidjlaa.PTimerPlays
