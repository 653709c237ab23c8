/- A mutex: goes. Conditions: each theorem's own. -/
import Derived.Test.YtielcanihooagaaDoorSpu
set_option linter.unusedVariables false
set_option linter.unusedSimpArgs false
namespace Go.Proofs.YtielcanihooagaaDoor.PSemaExcludes
open Go.RowKit Go.Proofs.YtielcanihooagaaDoor.Ef Go.Proofs.YtielcanihooagaaDoor.Mp Go.Proofs.YtielcanihooagaaDoorW.PrintWords Go.Proofs.YtielcanihooagaaDoorW.PrintLast Go.Proofs.YtielcanihooagaaDoorW.PrintMore

def goesB (q : List S83) (lo : Bool) (rd : Int) : Bool := match q with
  | [] => false
  | x :: _ => !lo && (x.f1 || rd == 0)
set_option maxHeartbeats 2000000 in
set_option maxRecDepth 100000 in
theorem goes_calls (gb off : Nat) (A : Option Addr) (c : Nat) (q : List S83) (lo : Bool) (rd : Int) (w : World) (hq : w.cell? ⟨gb, off, none⟩ = some (.slice A q.length c)) (hl : w.cell? ⟨gb, off + 1, none⟩ = some (.bool lo)) (hr : w.cell? ⟨gb, off + 2, none⟩ = some (.int .i64 rd)) (hC : Kd.C k83 w A q.length q) :
    Calls Tryd.prog 32 #[.pointer (some ⟨gb, off, none⟩)] w fun e w' => e = .returned (.bool (goesB q lo rd)) ∧ w = w' := by
  have hu79 := Tryd.underlying79
  have hu77 := Tryd.underlying77
  have HL := Aside0.mk (fun n (h : w.cell? ⟨gb, off, none⟩ = some (.slice A n c)) => lenL_calls gb off A n c w h)
  cases q with
  | nil =>
    have HQ := Aside0.mk hq
    go_enter Tryd.func32, Tryd.ntmps32
    go_wp2_with (go_at_call 28; (refine (HL.out 0 HQ.out).mono ?_); rintro e w2 ⟨rfl, rfl⟩)
    go_ret
    exact ⟨rfl, rfl⟩
  | cons x r =>
    obtain ⟨ad, hA, hx0, hx1, hx2⟩ := at_T83 hC 0 (Int.le_refl 0) (by first | (simp; done) | (simp; omega))
    subst hA
    replace hx2 : w.cell? ⟨ad.block, ad.off + 2, none⟩ = some (.bool x.f1) := by simpa [Addr.add, rd_T83] using hx2
    obtain ⟨n, hn⟩ : ∃ n, (x :: r).length = n := ⟨_, rfl⟩
    have hn0 : (0 : Int) < (n : Int) := by rw [← hn]; first | (simp; done) | (simp; omega)
    have hng : decide ((0 : Int) < (n : Int)) = true := decide_eq_true hn0
    rw [hn] at hq
    have HQ := Aside0.mk hq
    have hgo : goesB (x :: r) lo rd = (!lo && (x.f1 || rd == 0)) := rfl
    rw [hgo]
    generalize x.f1 = b at hx2
    clear hx0 hx1 hC hn hgo
    cases lo with
    | true =>
      go_enter Tryd.func32, Tryd.ntmps32
      go_wp2_with (go_at_call 28; (refine (HL.out n HQ.out).mono ?_); rintro e w2 ⟨rfl, rfl⟩)
      go_ret
      exact ⟨rfl, rfl⟩
    | false =>
      cases b with
      | true =>
        go_enter Tryd.func32, Tryd.ntmps32
        go_wp2_with (go_at_call 28; (refine (HL.out n HQ.out).mono ?_); rintro e w2 ⟨rfl, rfl⟩)
        go_ret
        exact ⟨rfl, rfl⟩
      | false =>
        go_enter Tryd.func32, Tryd.ntmps32
        go_wp2_with (go_at_call 28; (refine (HL.out n HQ.out).mono ?_); rintro e w2 ⟨rfl, rfl⟩)
        go_ret
        exact ⟨by simp, rfl⟩
end Go.Proofs.YtielcanihooagaaDoor.PSemaExcludes
