/- 'slots' calls a function value with every slot of a domain, in their order.
   Conditions: the function value's own contract: it keeps what lies below a block, and an invariant of the caller's. -/
import Derived.Test.YtiacikmignjdoaaQTableAddsx0
set_option linter.unusedVariables false
set_option linter.unusedSimpArgs false
namespace Go.Proofs.Ytiacikmignjdoaa.KTableAdds
open Go.RowKit Go.Proofs.Ytiacikmignjdoaa.QTableAdds Go.Proofs.YtiacikmignjdoaaW.PrintWords Go.Proofs.YtiacikmignjdoaaW.PrintLast Go.Proofs.YtiacikmignjdoaaW.PrintMore

/-- The slots of a domain among some lists. -/
def ofDom (d : Int) (ls : List (List S48)) : List S48 := ls.flatten.filter (fun s => s.f0 == d)
/-- .. up to slot i of list p. -/
def upto (d : Int) (ls : List (List S48)) (p i : Nat) : List S48 := ofDom d (ls.take p) ++ ((ls.getD p []).take i).filter (fun s => s.f0 == d)

theorem upto_zero (d : Int) (ls : List (List S48)) : upto d ls 0 0 = [] := rfl
theorem upto_next (d : Int) (ls : List (List S48)) (p : Nat) (hp : p < ls.length) : upto d ls p (ls.getD p []).length = upto d ls (p + 1) 0 := by
  unfold upto ofDom
  rw [List.take_succ_eq_append_getElem hp, List.take_length, List.getD_eq_getElem?_getD, List.getElem?_eq_getElem hp, List.flatten_append, List.filter_append]
  simp
theorem upto_end (d : Int) (ls : List (List S48)) : upto d ls ls.length 0 = ofDom d ls := by simp [upto]
theorem getD_at (l : List S48) (i : Nat) (hi : i < l.length) : l[i] = l.getD i z48 := by rw [List.getD_eq_getElem?_getD, List.getElem?_eq_getElem hi]; rfl
theorem upto_yes (d : Int) (ls : List (List S48)) (p i : Nat) (s : S48) (hi : i < (ls.getD p []).length) (hs : (ls.getD p []).getD i z48 = s) (h : s.f0 = d) : upto d ls p (i + 1) = upto d ls p i ++ [s] := by
  have e : (ls.getD p [])[i] = s := by rw [← hs]; exact getD_at _ i hi
  simp only [upto]
  rw [List.take_succ_eq_append_getElem hi, List.filter_append, e]
  simp [h]
theorem upto_no (d : Int) (ls : List (List S48)) (p i : Nat) (s : S48) (hi : i < (ls.getD p []).length) (hs : (ls.getD p []).getD i z48 = s) (h : ¬ s.f0 = d) : upto d ls p (i + 1) = upto d ls p i := by
  have e : (ls.getD p [])[i] = s := by rw [← hs]; exact getD_at _ i hi
  simp only [upto]
  rw [List.take_succ_eq_append_getElem hi, List.filter_append, e]
  simp [h]

theorem mem_flat {ls : List (List S48)} {x y : Int} (h0 : 0 ≤ x) (h1 : x < ls.length) (h2 : 0 ≤ y) (h3 : y < (rd_L4 ls x).length) : rd_T48 (rd_L4 ls x) y ∈ ls.flatten := by
  have e1 : rd_L4 ls x ∈ ls := by
    unfold rd_L4
    rw [List.getD_eq_getElem?_getD, List.getElem?_eq_getElem (show x.toNat < ls.length by omega)]
    exact List.getElem_mem _
  refine List.mem_flatten.2 ⟨_, e1, ?_⟩
  unfold rd_T48
  rw [List.getD_eq_getElem?_getD, List.getElem?_eq_getElem (show y.toNat < (rd_L4 ls x).length by omega)]
  exact List.getElem_mem _
theorem toNat1 {x : Int} (h : 0 ≤ x) : (x + 1).toNat = x.toNat + 1 := by omega

/-- What a function value must keep: 'I done wr': so much is done, the world is wr. -/
structure Each (B : Nat) (w0 : World) (d : Int) (ls : List (List S48)) (n : FuncId) (caps : Array Value) (I : List S48 → World → Prop) : Prop where
  alloc : ∀ done wr o, Below B w0 wr → I done wr → I done (wr.alloc o)
  step : ∀ done (s : S48) wr, s ∈ ls.flatten → s.f0 = d → Below B w0 wr → I done wr → Calls Try.prog n (#[.agg #[.int .i64 s.f0, .int .u64 s.f1.f0, .int .u64 s.f1.f1, .int .u64 s.f2]] ++ caps) wr fun e w' => e = .returned (.tuple #[]) ∧ Below B w0 w' ∧ I (done ++ [s]) w'

set_option maxHeartbeats 1000000 in
set_option maxRecDepth 100000 in
theorem slots_any (n : FuncId) (hn : ∀ (args : Array Value) (w : World), (callFunc n args).run Try.prog w = .ok (.enter n args) w) (a0_0 : Int) (A0_1 : Option Addr) (c0_1 : Nat) (l0_1 : List (List (S48))) (a1 : Int) (caps : Array Value) (w0 w : World) (hw : Below w0.heap.size w0 w) (hr0_1 : Kd.C (Kd.slice 48 k48) w0 A0_1 l0_1.length l0_1) (hc0_1 : l0_1.length ≤ c0_1)
    (I : List S48 → World → Prop) (h0 : I [] w) (hE : Each w0.heap.size w0 a1 l0_1 n caps I) :
    Calls Try.prog 44 #[.agg #[.int .u64 a0_0, .slice A0_1 l0_1.length c0_1], .int .i64 a1, .func (.func n) #[] caps] w fun e w' => e = .returned (.tuple #[]) ∧ Below w0.heap.size w0 w' ∧ I (ofDom a1 l0_1) w' := by
  have hu25 := Try.underlying25
  have hu48 := Try.underlying48
  have HB := Aside0.mk hw
  have HR := Aside0.mk hr0_1
  have HE := Aside0.mk hE
  have HI := Aside0.mk h0
  clear hw hr0_1 hE h0
  go_enter Try.func44, Try.ntmps44
  go_wp2
  have hm0 : (l0_1.length : Int) ≤ 9223372036854775807 := by have := HR.out.2.1; omega
  go_loopw [13] (fun v13 wr => ∃ x : Int, v13 = .int .i64 x ∧ Aside0 (0 ≤ x ∧ x ≤ l0_1.length) ∧ Aside0 (I (upto a1 l0_1 x.toNat 0) wr) ∧ Aside0 (Below w0.heap.size w0 wr)) (fun v13 _ => l0_1.length - (intOf v13).toNat)
  case atStart => exact ⟨0, rfl, ⟨by omega⟩, ⟨HE.out.alloc _ _ _ HB.out HI.out⟩, ⟨below_alloc HB.out _⟩⟩
  case round =>
    clear HI HB
    obtain ⟨x, rfl, HX, HI, HB⟩ := hrel
    by_cases hlt : x < (l0_1.length : Int)
    · have p0 : 0 ≤ x := HX.out.1
      obtain ⟨ad, A1, c1, e1, hx1, hl1, hi1⟩ := at_L4 HR.out x p0 hlt
      cases e1
      replace hx1 := (HB.out.cell (World.block_lt_of_cell? w0 _ hx1)).trans hx1
      have HR1 := Aside0.mk hi1
      have hm1 : ((rd_L4 l0_1 x).length : Int) ≤ 9223372036854775807 := by have := hi1.2.1; omega
      clear hi1 hl1
      go_wp2
      obtain ⟨wo, rfl⟩ : ∃ wo : World, wo = wr := ⟨_, rfl⟩
      go_loopw [19] (fun v19 wr => ∃ y : Int, v19 = .int .i64 y ∧ Aside0 (0 ≤ y ∧ y ≤ (rd_L4 l0_1 x).length) ∧ Aside0 (I (upto a1 l0_1 x.toNat y.toNat) wr) ∧ Aside0 (Below w0.heap.size w0 wr)) (fun v19 _ => (rd_L4 l0_1 x).length - (intOf v19).toNat)
      case atStart => exact ⟨0, rfl, ⟨by omega⟩, HI, HB⟩
      case round =>
        clear HI HB hx1
        obtain ⟨y, rfl, HY, HI, HB⟩ := hrel
        by_cases hly : y < ((rd_L4 l0_1 x).length : Int)
        · have q0 : 0 ≤ y := HY.out.1
          obtain ⟨ad2, e2, hx2_0, hx2_1, hx2_2, hx2_3⟩ := at_T48 HR1.out y q0 hly
          cases e2
          replace hx2_0 := (HB.out.cell (World.block_lt_of_cell? w0 _ hx2_0)).trans hx2_0
          replace hx2_1 := (HB.out.cell (World.block_lt_of_cell? w0 _ hx2_1)).trans hx2_1
          replace hx2_2 := (HB.out.cell (World.block_lt_of_cell? w0 _ hx2_2)).trans hx2_2
          replace hx2_3 := (HB.out.cell (World.block_lt_of_cell? w0 _ hx2_3)).trans hx2_3
          by_cases hd : (rd_T48 (rd_L4 l0_1 x) y).f0 = a1
          · have hd0 : ((rd_T48 (rd_L4 l0_1 x) y).f0 == a1) = true := beq_iff_eq.mpr hd
            have HD := Aside0.mk hd
            clear hd
            go_wp2_with fail
            refine (HE.out.step _ _ _ (mem_flat p0 hlt q0 hly) HD.out (below_alloc HB.out _) (HE.out.alloc _ _ _ HB.out HI.out)).mono ?_
            rintro e w1 ⟨rfl, hb1, hi1⟩
            have HB1 := Aside0.mk hb1
            have HI1 := Aside0.mk hi1
            clear hb1 hi1 HI HB hx2_0 hx2_1 hx2_2 hx2_3
            go_wp2
            go_roundw
            case rel => exact ⟨y + 1, rfl, ⟨by omega⟩, ⟨by rw [toNat1 q0, upto_yes _ _ _ _ _ (by have : rd_L4 l0_1 x = l0_1.getD x.toNat [] := rfl; rw [← this]; omega) rfl HD.out]; exact HI1.out⟩, HB1⟩
            case measure => simp [intOf]; omega
          · have hd0 : ((rd_T48 (rd_L4 l0_1 x) y).f0 == a1) = false := beq_eq_false_iff_ne.mpr hd
            have HD := Aside0.mk hd
            clear hd
            go_wp2_with fail
            go_roundw
            case rel => exact ⟨y + 1, rfl, ⟨by omega⟩, ⟨by rw [toNat1 q0, upto_no _ _ _ _ _ (by have : rd_L4 l0_1 x = l0_1.getD x.toNat [] := rfl; rw [← this]; omega) rfl HD.out]; exact HE.out.alloc _ _ _ HB.out HI.out⟩, ⟨below_alloc HB.out _⟩⟩
            case measure => simp [intOf]; omega
        · go_wp2
          go_roundw
          case rel => exact ⟨x + 1, rfl, ⟨by omega⟩, ⟨by rw [toNat1 p0, ← upto_next _ _ _ (by omega)]; have : y.toNat = (l0_1.getD x.toNat []).length := (by have h1 := HY.out; have h2 : rd_L4 l0_1 x = l0_1.getD x.toNat [] := rfl; rw [← h2]; omega); rw [← this]; exact HI.out⟩, HB⟩
          case measure => simp [intOf]; omega
    · go_wp2
      go_end0
      have hx : x.toNat = l0_1.length := by have := HX.out; omega
      exact ⟨rfl, HB.out, by rw [← upto_end, ← hx]; exact HI.out⟩
end Go.Proofs.Ytiacikmignjdoaa.KTableAdds
