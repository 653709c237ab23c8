/- Printed: a function's machine side. Conditions: none. -/
import Derived.Test.YtdlikjfffdpmiaaQProperx0
import Derived.Test.YtdlikjfffdpmiaaQProperx100
import Derived.Test.YtdlikjfffdpmiaaQProperx24
import Derived.Test.YtdlikjfffdpmiaaQProperx40
import Derived.Test.YtdlikjfffdpmiaaQProperx43
import Derived.Test.YtdlikjfffdpmiaaQProperx49
import Derived.Test.YtdlikjfffdpmiaaQProperx52
namespace Go.Proofs.Ytdlikjfffdpmiaa.QProper
open Go.RowKit Go.Proofs.YtdlikjfffdpmiaaW.PrintWords Go.Proofs.YtdlikjfffdpmiaaW.PrintLast Go.Proofs.YtdlikjfffdpmiaaW.PrintMore
set_option linter.unusedVariables false
set_option linter.unusedSimpArgs false

attribute [local go_sem high] eqA34
/-! ### rotalaw08_ProperOwn: function 9 -/
mutual
def rotalaw08_ProperOwn.l0 : Nat → Int → Int → List Int → List (S34) → List (S58) → List Int → List (S34) → List (S58) → Option (Bool)
 | 0, _, _, _, _, _, _, _, _ => none
 | k + 1, x1, x6, x465000, x465001, x465002, x466000, x466001, x466002 => if x6 < 2 then ((proper_Calls.f k x466000 x466001 x466002 x1 true).bind fun bt473 => ((rotaref08_Calls.f k x465000 x465001 x465002 x1 true).bind fun bt477 => ((proper_Reach.f k x466000 x466001 x466002 x1).bind fun bt481 => ((rotaref08_Reach.f k x465000 x465001 x465002 x1).bind fun bt485 => (if bt473.2 = bt481.2 then ((rotalaw08_sameInts.f k bt473.1 bt477.1).bind fun t489 => (if t489 = true then ((rotalaw08_sameInts.f k bt481.1 bt485.1).bind fun t490 => (if t490 = true then (if (x466000.length : Int) = (x465000.length : Int) then (rotalaw08_ProperOwn.j1 k x1 x6 bt473.1 bt481.1 ((x466001.length : Int) != (x465001.length : Int)) x465000 x465001 x465002 x466000 x466001 x466002) else (rotalaw08_ProperOwn.j1 k x1 x6 bt473.1 bt481.1 true x465000 x465001 x465002 x466000 x466001 x466002)) else (rotalaw08_ProperOwn.j1 k x1 x6 bt473.1 bt481.1 true x465000 x465001 x465002 x466000 x466001 x466002))) else (rotalaw08_ProperOwn.j1 k x1 x6 bt473.1 bt481.1 true x465000 x465001 x465002 x466000 x466001 x466002))) else (rotalaw08_ProperOwn.j1 k x1 x6 bt473.1 bt481.1 true x465000 x465001 x465002 x466000 x466001 x466002)))))) else ((rotalaw08_awake.f k).bind fun t472 => (some t472))
def rotalaw08_ProperOwn.j1 : Nat → Int → Int → List Int → List Int → Bool → List Int → List (S34) → List (S58) → List Int → List (S34) → List (S58) → Option (Bool)
 | 0, _, _, _, _, _, _, _, _, _, _, _ => none
 | k + 1, x1, x6, x7, x11, x94, x465000, x465001, x465002, x466000, x466001, x466002 => if x94 = true then (some false) else (rotalaw08_ProperOwn.l1 k x1 x6 x7 x11 0 x465000 x465001 x465002 x466000 x466001 x466002)
def rotalaw08_ProperOwn.l1 : Nat → Int → Int → List Int → List Int → Int → List Int → List (S34) → List (S58) → List Int → List (S34) → List (S58) → Option (Bool)
 | 0, _, _, _, _, _, _, _, _, _, _, _ => none
 | k + 1, x1, x6, x7, x11, x15, x465000, x465001, x465002, x466000, x466001, x466002 => if x15 < (x7.length : Int) then (if 0 ≤ x15 then (rotalaw08_ProperOwn.l1 k x1 x6 (x7.set (x15 : Int).toNat 99) x11 (wrap64 (x15 + 1)) x465000 x465001 x465002 x466000 x466001 x466002) else (none)) else (rotalaw08_ProperOwn.l2 k x1 x6 x11 0 x465000 x465001 x465002 x466000 x466001 x466002)
def rotalaw08_ProperOwn.l2 : Nat → Int → Int → List Int → Int → List Int → List (S34) → List (S58) → List Int → List (S34) → List (S58) → Option (Bool)
 | 0, _, _, _, _, _, _, _, _, _, _ => none
 | k + 1, x1, x6, x11, x16, x465000, x465001, x465002, x466000, x466001, x466002 => if x16 < (x11.length : Int) then (if 0 ≤ x16 then (rotalaw08_ProperOwn.l2 k x1 x6 (x11.set (x16 : Int).toNat 98) (wrap64 (x16 + 1)) x465000 x465001 x465002 x466000 x466001 x466002) else (none)) else (rotalaw08_ProperOwn.l3 k x1 x6 0 x465000 x465001 x465002 x466000 x466001 x466002)
def rotalaw08_ProperOwn.l3 : Nat → Int → Int → Int → List Int → List (S34) → List (S58) → List Int → List (S34) → List (S58) → Option (Bool)
 | 0, _, _, _, _, _, _, _, _, _ => none
 | k + 1, x1, x6, x17, x465000, x465001, x465002, x466000, x466001, x466002 => if x17 < (x466000.length : Int) then (if 0 ≤ x17 then (if x17 < (x465000.length : Int) then (if (rd x466000 x17) = (rd x465000 x17) then (rotalaw08_ProperOwn.l3 k x1 x6 (wrap64 (x17 + 1)) x465000 x465001 x465002 x466000 x466001 x466002) else (some false)) else (none)) else (none)) else (rotalaw08_ProperOwn.l4 k x1 x6 0 x465000 x465001 x465002 x466000 x466001 x466002)
def rotalaw08_ProperOwn.l4 : Nat → Int → Int → Int → List Int → List (S34) → List (S58) → List Int → List (S34) → List (S58) → Option (Bool)
 | 0, _, _, _, _, _, _, _, _, _ => none
 | k + 1, x1, x6, x18, x465000, x465001, x465002, x466000, x466001, x466002 => if x18 < (x466001.length : Int) then (if 0 ≤ x18 then (if x18 < (x465001.length : Int) then (if (!(((rd_T34 x466001 x18).f0) == ((rd_T34 x465001 x18).f0)) || (!(((rd_T34 x466001 x18).f1) == ((rd_T34 x465001 x18).f1)))) = true then (some false) else (rotalaw08_ProperOwn.l4 k x1 x6 (wrap64 (x18 + 1)) x465000 x465001 x465002 x466000 x466001 x466002)) else (none)) else (none)) else (rotalaw08_ProperOwn.l0 k x1 (wrap64 (x6 + 1)) x465000 x465001 x465002 x466000 x466001 x466002)
end
def rotalaw08_ProperOwn.f (k : Nat) (l0_0 : List Int) (l0_1 : List (S34)) (l0_2 : List (S58)) (a1 : Int) : Option (Bool) := if ([] : List Int).length + l0_0.length < 35184372088832 then (if ([] : List (S34)).length + l0_1.length < 8796093022208 then (rotalaw08_ProperOwn.l0 k a1 0 l0_0 l0_1 l0_2 (([] : List Int) ++ l0_0) (([] : List (S34)) ++ l0_1) l0_2) else (none)) else (none)
theorem rotalaw08_ProperOwn.mono_l : ∀ k, (∀ y0 y1 y2 y3 y4 y5 y6 y7, LeO (rotalaw08_ProperOwn.l0 k y0 y1 y2 y3 y4 y5 y6 y7) (rotalaw08_ProperOwn.l0 (k + 1) y0 y1 y2 y3 y4 y5 y6 y7)) ∧ (∀ y0 y1 y2 y3 y4 y5 y6 y7 y8 y9 y10, LeO (rotalaw08_ProperOwn.j1 k y0 y1 y2 y3 y4 y5 y6 y7 y8 y9 y10) (rotalaw08_ProperOwn.j1 (k + 1) y0 y1 y2 y3 y4 y5 y6 y7 y8 y9 y10)) ∧ (∀ y0 y1 y2 y3 y4 y5 y6 y7 y8 y9 y10, LeO (rotalaw08_ProperOwn.l1 k y0 y1 y2 y3 y4 y5 y6 y7 y8 y9 y10) (rotalaw08_ProperOwn.l1 (k + 1) y0 y1 y2 y3 y4 y5 y6 y7 y8 y9 y10)) ∧ (∀ y0 y1 y2 y3 y4 y5 y6 y7 y8 y9, LeO (rotalaw08_ProperOwn.l2 k y0 y1 y2 y3 y4 y5 y6 y7 y8 y9) (rotalaw08_ProperOwn.l2 (k + 1) y0 y1 y2 y3 y4 y5 y6 y7 y8 y9)) ∧ (∀ y0 y1 y2 y3 y4 y5 y6 y7 y8, LeO (rotalaw08_ProperOwn.l3 k y0 y1 y2 y3 y4 y5 y6 y7 y8) (rotalaw08_ProperOwn.l3 (k + 1) y0 y1 y2 y3 y4 y5 y6 y7 y8)) ∧ (∀ y0 y1 y2 y3 y4 y5 y6 y7 y8, LeO (rotalaw08_ProperOwn.l4 k y0 y1 y2 y3 y4 y5 y6 y7 y8) (rotalaw08_ProperOwn.l4 (k + 1) y0 y1 y2 y3 y4 y5 y6 y7 y8))
 | 0 => ⟨fun _ _ _ _ _ _ _ _ r h => by simp [rotalaw08_ProperOwn.l0] at h, fun _ _ _ _ _ _ _ _ _ _ _ r h => by simp [rotalaw08_ProperOwn.j1] at h, fun _ _ _ _ _ _ _ _ _ _ _ r h => by simp [rotalaw08_ProperOwn.l1] at h, fun _ _ _ _ _ _ _ _ _ _ r h => by simp [rotalaw08_ProperOwn.l2] at h, fun _ _ _ _ _ _ _ _ _ r h => by simp [rotalaw08_ProperOwn.l3] at h, fun _ _ _ _ _ _ _ _ _ r h => by simp [rotalaw08_ProperOwn.l4] at h⟩
 | k + 1 => by
  obtain ⟨ih0, ih1, ih2, ih3, ih4, ih5⟩ := rotalaw08_ProperOwn.mono_l k
  refine ⟨?_, ?_, ?_, ?_, ?_, ?_⟩
  ·intro y0 y1 y2 y3 y4 y5 y6 y7
   unfold rotalaw08_ProperOwn.l0
   repeat' first
   | (with_reducible exact ih0 _ _ _ _ _ _ _ _)
   | (with_reducible exact ih1 _ _ _ _ _ _ _ _ _ _ _)
   | (with_reducible exact ih2 _ _ _ _ _ _ _ _ _ _ _)
   | (with_reducible exact ih3 _ _ _ _ _ _ _ _ _ _)
   | (with_reducible exact ih4 _ _ _ _ _ _ _ _ _)
   | (with_reducible exact ih5 _ _ _ _ _ _ _ _ _)
   | (with_reducible exact proper_Calls.mono _ _ _ _ _ _)
   | (with_reducible exact proper_Reach.mono _ _ _ _ _)
   | (with_reducible exact rotalaw08_awake.mono _)
   | (with_reducible exact rotalaw08_sameInts.mono _ _ _)
   | (with_reducible exact rotaref08_Calls.mono _ _ _ _ _ _)
   | (with_reducible exact rotaref08_Reach.mono _ _ _ _ _)
   | (with_reducible exact LeO.refl _)
   | (with_reducible exact LeO.none _)
   | (with_reducible refine LeO.ite ?_ ?_)
   | (with_reducible refine LeO.bind ?_ (fun _ => ?_))
   | exact ih0 _ _ _ _ _ _ _ _
   | exact ih1 _ _ _ _ _ _ _ _ _ _ _
   | exact ih2 _ _ _ _ _ _ _ _ _ _ _
   | exact ih3 _ _ _ _ _ _ _ _ _ _
   | exact ih4 _ _ _ _ _ _ _ _ _
   | exact ih5 _ _ _ _ _ _ _ _ _
   | exact proper_Calls.mono _ _ _ _ _ _
   | exact proper_Reach.mono _ _ _ _ _
   | exact rotalaw08_awake.mono _
   | exact rotalaw08_sameInts.mono _ _ _
   | exact rotaref08_Calls.mono _ _ _ _ _ _
   | exact rotaref08_Reach.mono _ _ _ _ _
   | exact LeO.none _
   | refine LeO.ite ?_ ?_
   | refine LeO.bind ?_ (fun _ => ?_)
  ·intro y0 y1 y2 y3 y4 y5 y6 y7 y8 y9 y10
   unfold rotalaw08_ProperOwn.j1
   repeat' first
   | (with_reducible exact ih0 _ _ _ _ _ _ _ _)
   | (with_reducible exact ih1 _ _ _ _ _ _ _ _ _ _ _)
   | (with_reducible exact ih2 _ _ _ _ _ _ _ _ _ _ _)
   | (with_reducible exact ih3 _ _ _ _ _ _ _ _ _ _)
   | (with_reducible exact ih4 _ _ _ _ _ _ _ _ _)
   | (with_reducible exact ih5 _ _ _ _ _ _ _ _ _)
   | (with_reducible exact proper_Calls.mono _ _ _ _ _ _)
   | (with_reducible exact proper_Reach.mono _ _ _ _ _)
   | (with_reducible exact rotalaw08_awake.mono _)
   | (with_reducible exact rotalaw08_sameInts.mono _ _ _)
   | (with_reducible exact rotaref08_Calls.mono _ _ _ _ _ _)
   | (with_reducible exact rotaref08_Reach.mono _ _ _ _ _)
   | (with_reducible exact LeO.refl _)
   | (with_reducible exact LeO.none _)
   | (with_reducible refine LeO.ite ?_ ?_)
   | (with_reducible refine LeO.bind ?_ (fun _ => ?_))
   | exact ih0 _ _ _ _ _ _ _ _
   | exact ih1 _ _ _ _ _ _ _ _ _ _ _
   | exact ih2 _ _ _ _ _ _ _ _ _ _ _
   | exact ih3 _ _ _ _ _ _ _ _ _ _
   | exact ih4 _ _ _ _ _ _ _ _ _
   | exact ih5 _ _ _ _ _ _ _ _ _
   | exact proper_Calls.mono _ _ _ _ _ _
   | exact proper_Reach.mono _ _ _ _ _
   | exact rotalaw08_awake.mono _
   | exact rotalaw08_sameInts.mono _ _ _
   | exact rotaref08_Calls.mono _ _ _ _ _ _
   | exact rotaref08_Reach.mono _ _ _ _ _
   | exact LeO.none _
   | refine LeO.ite ?_ ?_
   | refine LeO.bind ?_ (fun _ => ?_)
  ·intro y0 y1 y2 y3 y4 y5 y6 y7 y8 y9 y10
   unfold rotalaw08_ProperOwn.l1
   repeat' first
   | (with_reducible exact ih0 _ _ _ _ _ _ _ _)
   | (with_reducible exact ih1 _ _ _ _ _ _ _ _ _ _ _)
   | (with_reducible exact ih2 _ _ _ _ _ _ _ _ _ _ _)
   | (with_reducible exact ih3 _ _ _ _ _ _ _ _ _ _)
   | (with_reducible exact ih4 _ _ _ _ _ _ _ _ _)
   | (with_reducible exact ih5 _ _ _ _ _ _ _ _ _)
   | (with_reducible exact proper_Calls.mono _ _ _ _ _ _)
   | (with_reducible exact proper_Reach.mono _ _ _ _ _)
   | (with_reducible exact rotalaw08_awake.mono _)
   | (with_reducible exact rotalaw08_sameInts.mono _ _ _)
   | (with_reducible exact rotaref08_Calls.mono _ _ _ _ _ _)
   | (with_reducible exact rotaref08_Reach.mono _ _ _ _ _)
   | (with_reducible exact LeO.refl _)
   | (with_reducible exact LeO.none _)
   | (with_reducible refine LeO.ite ?_ ?_)
   | (with_reducible refine LeO.bind ?_ (fun _ => ?_))
   | exact ih0 _ _ _ _ _ _ _ _
   | exact ih1 _ _ _ _ _ _ _ _ _ _ _
   | exact ih2 _ _ _ _ _ _ _ _ _ _ _
   | exact ih3 _ _ _ _ _ _ _ _ _ _
   | exact ih4 _ _ _ _ _ _ _ _ _
   | exact ih5 _ _ _ _ _ _ _ _ _
   | exact proper_Calls.mono _ _ _ _ _ _
   | exact proper_Reach.mono _ _ _ _ _
   | exact rotalaw08_awake.mono _
   | exact rotalaw08_sameInts.mono _ _ _
   | exact rotaref08_Calls.mono _ _ _ _ _ _
   | exact rotaref08_Reach.mono _ _ _ _ _
   | exact LeO.none _
   | refine LeO.ite ?_ ?_
   | refine LeO.bind ?_ (fun _ => ?_)
  ·intro y0 y1 y2 y3 y4 y5 y6 y7 y8 y9
   unfold rotalaw08_ProperOwn.l2
   repeat' first
   | (with_reducible exact ih0 _ _ _ _ _ _ _ _)
   | (with_reducible exact ih1 _ _ _ _ _ _ _ _ _ _ _)
   | (with_reducible exact ih2 _ _ _ _ _ _ _ _ _ _ _)
   | (with_reducible exact ih3 _ _ _ _ _ _ _ _ _ _)
   | (with_reducible exact ih4 _ _ _ _ _ _ _ _ _)
   | (with_reducible exact ih5 _ _ _ _ _ _ _ _ _)
   | (with_reducible exact proper_Calls.mono _ _ _ _ _ _)
   | (with_reducible exact proper_Reach.mono _ _ _ _ _)
   | (with_reducible exact rotalaw08_awake.mono _)
   | (with_reducible exact rotalaw08_sameInts.mono _ _ _)
   | (with_reducible exact rotaref08_Calls.mono _ _ _ _ _ _)
   | (with_reducible exact rotaref08_Reach.mono _ _ _ _ _)
   | (with_reducible exact LeO.refl _)
   | (with_reducible exact LeO.none _)
   | (with_reducible refine LeO.ite ?_ ?_)
   | (with_reducible refine LeO.bind ?_ (fun _ => ?_))
   | exact ih0 _ _ _ _ _ _ _ _
   | exact ih1 _ _ _ _ _ _ _ _ _ _ _
   | exact ih2 _ _ _ _ _ _ _ _ _ _ _
   | exact ih3 _ _ _ _ _ _ _ _ _ _
   | exact ih4 _ _ _ _ _ _ _ _ _
   | exact ih5 _ _ _ _ _ _ _ _ _
   | exact proper_Calls.mono _ _ _ _ _ _
   | exact proper_Reach.mono _ _ _ _ _
   | exact rotalaw08_awake.mono _
   | exact rotalaw08_sameInts.mono _ _ _
   | exact rotaref08_Calls.mono _ _ _ _ _ _
   | exact rotaref08_Reach.mono _ _ _ _ _
   | exact LeO.none _
   | refine LeO.ite ?_ ?_
   | refine LeO.bind ?_ (fun _ => ?_)
  ·intro y0 y1 y2 y3 y4 y5 y6 y7 y8
   unfold rotalaw08_ProperOwn.l3
   repeat' first
   | (with_reducible exact ih0 _ _ _ _ _ _ _ _)
   | (with_reducible exact ih1 _ _ _ _ _ _ _ _ _ _ _)
   | (with_reducible exact ih2 _ _ _ _ _ _ _ _ _ _ _)
   | (with_reducible exact ih3 _ _ _ _ _ _ _ _ _ _)
   | (with_reducible exact ih4 _ _ _ _ _ _ _ _ _)
   | (with_reducible exact ih5 _ _ _ _ _ _ _ _ _)
   | (with_reducible exact proper_Calls.mono _ _ _ _ _ _)
   | (with_reducible exact proper_Reach.mono _ _ _ _ _)
   | (with_reducible exact rotalaw08_awake.mono _)
   | (with_reducible exact rotalaw08_sameInts.mono _ _ _)
   | (with_reducible exact rotaref08_Calls.mono _ _ _ _ _ _)
   | (with_reducible exact rotaref08_Reach.mono _ _ _ _ _)
   | (with_reducible exact LeO.refl _)
   | (with_reducible exact LeO.none _)
   | (with_reducible refine LeO.ite ?_ ?_)
   | (with_reducible refine LeO.bind ?_ (fun _ => ?_))
   | exact ih0 _ _ _ _ _ _ _ _
   | exact ih1 _ _ _ _ _ _ _ _ _ _ _
   | exact ih2 _ _ _ _ _ _ _ _ _ _ _
   | exact ih3 _ _ _ _ _ _ _ _ _ _
   | exact ih4 _ _ _ _ _ _ _ _ _
   | exact ih5 _ _ _ _ _ _ _ _ _
   | exact proper_Calls.mono _ _ _ _ _ _
   | exact proper_Reach.mono _ _ _ _ _
   | exact rotalaw08_awake.mono _
   | exact rotalaw08_sameInts.mono _ _ _
   | exact rotaref08_Calls.mono _ _ _ _ _ _
   | exact rotaref08_Reach.mono _ _ _ _ _
   | exact LeO.none _
   | refine LeO.ite ?_ ?_
   | refine LeO.bind ?_ (fun _ => ?_)
  ·intro y0 y1 y2 y3 y4 y5 y6 y7 y8
   unfold rotalaw08_ProperOwn.l4
   repeat' first
   | (with_reducible exact ih0 _ _ _ _ _ _ _ _)
   | (with_reducible exact ih1 _ _ _ _ _ _ _ _ _ _ _)
   | (with_reducible exact ih2 _ _ _ _ _ _ _ _ _ _ _)
   | (with_reducible exact ih3 _ _ _ _ _ _ _ _ _ _)
   | (with_reducible exact ih4 _ _ _ _ _ _ _ _ _)
   | (with_reducible exact ih5 _ _ _ _ _ _ _ _ _)
   | (with_reducible exact proper_Calls.mono _ _ _ _ _ _)
   | (with_reducible exact proper_Reach.mono _ _ _ _ _)
   | (with_reducible exact rotalaw08_awake.mono _)
   | (with_reducible exact rotalaw08_sameInts.mono _ _ _)
   | (with_reducible exact rotaref08_Calls.mono _ _ _ _ _ _)
   | (with_reducible exact rotaref08_Reach.mono _ _ _ _ _)
   | (with_reducible exact LeO.refl _)
   | (with_reducible exact LeO.none _)
   | (with_reducible refine LeO.ite ?_ ?_)
   | (with_reducible refine LeO.bind ?_ (fun _ => ?_))
   | exact ih0 _ _ _ _ _ _ _ _
   | exact ih1 _ _ _ _ _ _ _ _ _ _ _
   | exact ih2 _ _ _ _ _ _ _ _ _ _ _
   | exact ih3 _ _ _ _ _ _ _ _ _ _
   | exact ih4 _ _ _ _ _ _ _ _ _
   | exact ih5 _ _ _ _ _ _ _ _ _
   | exact proper_Calls.mono _ _ _ _ _ _
   | exact proper_Reach.mono _ _ _ _ _
   | exact rotalaw08_awake.mono _
   | exact rotalaw08_sameInts.mono _ _ _
   | exact rotaref08_Calls.mono _ _ _ _ _ _
   | exact rotaref08_Reach.mono _ _ _ _ _
   | exact LeO.none _
   | refine LeO.ite ?_ ?_
   | refine LeO.bind ?_ (fun _ => ?_)
theorem rotalaw08_ProperOwn.mono : ∀ a0 a1 a2 a3 k, LeO (rotalaw08_ProperOwn.f k a0 a1 a2 a3) (rotalaw08_ProperOwn.f (k + 1) a0 a1 a2 a3) := by
 intro a0 a1 a2 a3 k
 obtain ⟨ih0, ih1, ih2, ih3, ih4, ih5⟩ := rotalaw08_ProperOwn.mono_l k
 unfold rotalaw08_ProperOwn.f
 repeat' first
   | (with_reducible exact ih0 _ _ _ _ _ _ _ _)
   | (with_reducible exact ih1 _ _ _ _ _ _ _ _ _ _ _)
   | (with_reducible exact ih2 _ _ _ _ _ _ _ _ _ _ _)
   | (with_reducible exact ih3 _ _ _ _ _ _ _ _ _ _)
   | (with_reducible exact ih4 _ _ _ _ _ _ _ _ _)
   | (with_reducible exact ih5 _ _ _ _ _ _ _ _ _)
   | (with_reducible exact proper_Calls.mono _ _ _ _ _ _)
   | (with_reducible exact proper_Reach.mono _ _ _ _ _)
   | (with_reducible exact rotalaw08_awake.mono _)
   | (with_reducible exact rotalaw08_sameInts.mono _ _ _)
   | (with_reducible exact rotaref08_Calls.mono _ _ _ _ _ _)
   | (with_reducible exact rotaref08_Reach.mono _ _ _ _ _)
   | (with_reducible exact LeO.refl _)
   | (with_reducible exact LeO.none _)
   | (with_reducible refine LeO.ite ?_ ?_)
   | (with_reducible refine LeO.bind ?_ (fun _ => ?_))
   | exact ih0 _ _ _ _ _ _ _ _
   | exact ih1 _ _ _ _ _ _ _ _ _ _ _
   | exact ih2 _ _ _ _ _ _ _ _ _ _ _
   | exact ih3 _ _ _ _ _ _ _ _ _ _
   | exact ih4 _ _ _ _ _ _ _ _ _
   | exact ih5 _ _ _ _ _ _ _ _ _
   | exact proper_Calls.mono _ _ _ _ _ _
   | exact proper_Reach.mono _ _ _ _ _
   | exact rotalaw08_awake.mono _
   | exact rotalaw08_sameInts.mono _ _ _
   | exact rotaref08_Calls.mono _ _ _ _ _ _
   | exact rotaref08_Reach.mono _ _ _ _ _
   | exact LeO.none _
   | refine LeO.ite ?_ ?_
   | refine LeO.bind ?_ (fun _ => ?_)
set_option maxHeartbeats 8000000 in
set_option maxRecDepth 100000 in
theorem rotalaw08_ProperOwn.calls (k : Nat) (A0_0 : Option Addr) (c0_0 : Nat) (l0_0 : List Int) (A0_1 : Option Addr) (c0_1 : Nat) (l0_1 : List (S34)) (A0_2 : Option Addr) (c0_2 : Nat) (l0_2 : List (S58)) (a1 : Int) (r : Bool) (w : World) (hr0_0 : Kd.C (Kd.int .u32) w A0_0 l0_0.length l0_0) (hc0_0 : l0_0.length ≤ c0_0) (hr0_1 : Kd.C k34 w A0_1 l0_1.length l0_1) (hc0_1 : l0_1.length ≤ c0_1) (hr0_2 : Kd.C k58 w A0_2 l0_2.length l0_2) (hc0_2 : l0_2.length ≤ c0_2) (h : rotalaw08_ProperOwn.f k l0_0 l0_1 l0_2 a1 = some r) :
  Calls Try.prog 9 #[.agg #[.slice A0_0 l0_0.length c0_0, .slice A0_1 l0_1.length c0_1, .slice A0_2 l0_2.length c0_2], .int .i64 a1] w fun e w' => e = .returned (.bool r) ∧ Below w.heap.size w w' := by
 have hu26 := Try.underlying26
 have hu34 := Try.underlying34
 have HR0_0 := K1 hr0_0
 have HC0_0 := K1 hc0_0
 clear hr0_0 hc0_0
 have HR0_1 := K1 hr0_1
 have HC0_1 := K1 hc0_1
 clear hr0_1 hc0_1
 have HR0_2 := K1 hr0_2
 have HC0_2 := K1 hc0_2
 clear hr0_2 hc0_2
 have HB := K1 (Below.refl w.heap.size w)
 have H : (if ([] : List Int).length + l0_0.length < 35184372088832 then (if ([] : List (S34)).length + l0_1.length < 8796093022208 then (rotalaw08_ProperOwn.l0 k a1 0 l0_0 l0_1 l0_2 (([] : List Int) ++ l0_0) (([] : List (S34)) ++ l0_1) l0_2) else (none)) else (none)) = some r := h
 clear h
 by_cases c3 : ([] : List Int).length + l0_0.length < 35184372088832
 ·rw [if_pos c3] at H
  have LMc3 := K1 c3
  clear c3
  obtain ⟨y466, hy466⟩ : ∃ y_ : List Int, y_ = (([] : List Int) ++ l0_0) := ⟨_, rfl⟩
  replace H : (if ([] : List (S34)).length + l0_1.length < 8796093022208 then (rotalaw08_ProperOwn.l0 k a1 0 l0_0 l0_1 l0_2 y466 (([] : List (S34)) ++ l0_1) l0_2) else (none)) = some r := by first | (rw [hy466]; with_reducible exact H) | (have H2_ := (Option.bind_some _ _).symm.trans H; rw [hy466]; with_reducible exact H2_) | (have H2_ := (Option.bind_some _ _).symm.trans H; with_reducible exact H2_) | with_reducible exact H | (rw [hy466]; exact H) | exact H
  have Ny466 := K1 hy466
  clear hy466
  by_cases c4 : ([] : List (S34)).length + l0_1.length < 8796093022208
  ·rw [if_pos c4] at H
   have LMc4 := K1 c4
   clear c4
   obtain ⟨y469, hy469⟩ : ∃ y_ : List (S34), y_ = (([] : List (S34)) ++ l0_1) := ⟨_, rfl⟩
   replace H : (rotalaw08_ProperOwn.l0 k a1 0 l0_0 l0_1 l0_2 y466 y469 l0_2) = some r := by first | (rw [hy469]; with_reducible exact H) | (have H2_ := (Option.bind_some _ _).symm.trans H; rw [hy469]; with_reducible exact H2_) | (have H2_ := (Option.bind_some _ _).symm.trans H; with_reducible exact H2_) | with_reducible exact H | (rw [hy469]; exact H) | exact H
   have Ny469 := K1 hy469
   clear hy469
   have H' := K1 H
   clear H
   go_enter Try.func9, Try.ntmps9
   go_wp2_with (first | ((with_reducible refine gate_dst (N := 2) rfl ?_); (try (refine gate_guard (by rfl) ?_; dsimp only)); refine box_event ?hg (N := 2) ?hd (cs := #[.slice A0_0 l0_0.length c0_0, .slice A0_1 l0_1.length c0_1, .slice A0_2 l0_2.length c0_2]) (t := 26) ?hr ?_; (case hd => rfl); (case hg => rfl); (case hr => first | (go_simp; done) | (go_simp; rfl)); intro gb464 hg w5 hbox hb; have n0_ := K1 (below_step mB hb); have n1_ := K1 (hbox); have n2_ := K1 (mG : w.heap.size ≤ gb464); have n3_ := K1 (mG : w.heap.size ≤ gb464); clear HB; have HB := n0_; have BK464 := n1_; have GW464 := n2_; have GE464 := n3_; clear n0_ n1_ n2_ n3_; clear hb hbox hg) | ((with_reducible refine gate_dst (N := 5) rfl ?_); (try (refine gate_guard (by rfl) ?_; dsimp only)); refine box_event ?hg (N := 5) ?hd (cs := #[.slice none 0 0, .slice none 0 0, .slice none 0 0]) (t := 26) ?hr ?_; (case hd => rfl); (case hg => rfl); (case hr => first | (go_simp; done) | (go_simp; rfl)); intro gb465 hg w6 hbox hb; have n0_ := K1 (blk_below (mU BK464.out) hb); have n1_ := K1 (below_step mB hb); have n2_ := K1 (hbox); have n3_ := K1 (mG : w.heap.size ≤ gb465); have n4_ := K1 (mG : w.heap.size ≤ gb465); have n5_ := K1 ((by rw [hg]; exact Nat.ne_of_lt (blk_lt (mU BK464.out)) : gb464 ≠ gb465)); have n6_ := K1 ((by rw [hg]; exact Nat.ne_of_gt (blk_lt (mU BK464.out)) : gb465 ≠ gb464)); clear BK464; clear HB; have BK464 := n0_; have HB := n1_; have BK465 := n2_; have GW465 := n3_; have GE465 := n4_; have NB464_465 := n5_; have NB465_464 := n6_; clear n0_ n1_ n2_ n3_ n4_ n5_ n6_; clear hb hbox hg; have hnb7 := NB465_464.out; have hnc7 := NB464_465.out; obtain ⟨hcz8_0, hcz8_1, hcz8_2, hfz8_0, hfz8_1, hfz8_2⟩ := cf3 BK465; obtain ⟨hcz9_0, hcz9_1, hcz9_2, hfz9_0, hfz9_1, hfz9_2⟩ := cf3 BK464) | ((with_reducible refine gate_builtin (b := .append) (xs := #[.tmp 20, .tmp 22]) rfl ?_); (try (refine gate_guard (by rfl) ?_; dsimp only)); at_builtin; refine Kd.R_append_rows (Kd.int .u32) (w0 := w) w.heap.size rfl (.tmp 20) (.tmp 22) 22 32 (.int .u32 0) 4 rfl Try.underlying22 info32 rfl (by decide) (by omega) (.slice none 0 0) ([] : List Int) l0_0 _ _ _ (fun _ => True) (fun _ => False) rfl rfl ?aO ?aR (fun _ _ h => h) (fun _ h => h.elim) ?aF ?aB ?aS ?aL ?_; (case aR => exact mC); (case aB => exact mB); (case aF => exact (fun _ _ => trivial)); (case aO => exact ((Kd.R_nil _ _ _ _ (fun _ => True)))); (case aS => exact (below_size mB)); (case aL => have := LMc3.out; omega); intro v467 w10 ho hb hg hat; rw [← Ny466.out] at ho; have n0_ := K1 (blk_grown (mU BK464.out) hg (by simp [Value.ownBlock])); have n1_ := K1 (blk_grown (mU BK465.out) hg (by simp [Value.ownBlock])); have n2_ := K1 (hb); have n3_ := K1 (ho); clear BK464; clear BK465; clear HB; have BK464 := n0_; have BK465 := n1_; have HB := n2_; have HO468 := n3_; clear n0_ n1_ n2_ n3_; clear ho hb hg hat; obtain ⟨Ao11, co11, eo11⟩ := Kd.R_slice HO468.out; subst eo11; obtain ⟨hcz12_0, hcz12_1, hcz12_2, hfz12_0, hfz12_1, hfz12_2⟩ := cf3 BK465; obtain ⟨hcz13_0, hcz13_1, hcz13_2, hfz13_0, hfz13_1, hfz13_2⟩ := cf3 BK464) | ((with_reducible refine gate_builtin (b := .append) (xs := #[.tmp 26, .tmp 28]) rfl ?_); (try (refine gate_guard (by rfl) ?_; dsimp only)); at_builtin; refine Kd.R_append_rows k34 (w0 := w) w.heap.size rfl (.tmp 26) (.tmp 28) 23 34 (.agg #[(.int .i64 0), (.int .i64 0)]) 16 rfl Try.underlying23 info34 rfl (by decide) (by omega) (.slice none 0 0) ([] : List (S34)) l0_1 _ _ _ (fun _ => True) (fun _ => False) rfl rfl ?aO ?aR (fun _ _ h => h) (fun _ h => h.elim) ?aF ?aB ?aS ?aL ?_; (case aR => exact Kd.C_below HR0_1.out mB); (case aB => exact mB); (case aF => exact (fun _ _ => trivial)); (case aO => exact ((Kd.R_nil _ _ _ _ (fun _ => True)))); (case aS => exact (below_size mB)); (case aL => have := LMc4.out; omega); intro v470 w14 ho hb hg hat; rw [← Ny469.out] at ho; have n0_ := K1 (blk_grown (g := gb464) (o := .cells #[.slice A0_0 l0_0.length c0_0, .slice A0_1 l0_1.length c0_1, .slice A0_2 l0_2.length c0_2] 26 (0, 0)) (by refine mU ?_; refine blk_far ?_ NB464_465.out _; refine mU ?_; exact BK464.out) hg (by simp [Value.ownBlock])); have n1_ := K1 (blk_grown (g := gb465) (o := .cells #[.slice Ao11 y466.length co11, .slice none 0 0, .slice none 0 0] 26 (0, 0)) (by refine mU ?_; refine blk_put (cs := #[.slice none 0 0, .slice none 0 0, .slice none 0 0]) ?_ 0 _ rfl; refine mU ?_; exact BK465.out) hg (by simp [Value.ownBlock])); have n2_ := K1 (Kd.R_grown (by (with_reducible repeat (first | apply Kd.R_alloc | apply Kd.R_drewN | apply Kd.R_drew)); exact (Kd.R_mono (Kd.R_far (p := ⟨gb465, 0, none⟩) (Kd.R_types HO468.out BK465.out (by decide)) (fun _ hk => hk.2) (.slice Ao11 y466.length co11)) (fun _ h_ => h_.1))) hg (fun _ _ => by simp [Value.ownBlock])); have n3_ := K1 (hb); have n4_ := K1 (ho); clear BK464; clear BK465; clear HO468; clear HB; have BK464 := n0_; have BK465 := n1_; have HO468 := n2_; have HB := n3_; have HO471 := n4_; clear n0_ n1_ n2_ n3_ n4_; clear ho hb hg hat; obtain ⟨Ao15, co15, eo15⟩ := Kd.R_slice HO471.out; subst eo15; obtain ⟨hcz16_0, hcz16_1, hcz16_2, hfz16_0, hfz16_1, hfz16_2⟩ := cf3 BK465; obtain ⟨hcz17_0, hcz17_1, hcz17_2, hfz17_0, hfz17_1, hfz17_2⟩ := cf3 BK464))
   go_loopg [6] k (fun kq v6 w' => ∃ (x6_1 : Int), v6 = .int .i64 x6_1 ∧ Aside0 (rotalaw08_ProperOwn.l0 kq a1 x6_1 l0_0 l0_1 l0_2 y466 y469 l0_2 = some r) ∧ Aside0 (kq ≤ k) ∧ Aside0 (Kd.R (Kd.int .u32) 32 w' w.heap.size (fun _ => True) (.slice Ao11 y466.length co11) y466) ∧ Aside0 (Kd.R k34 34 w' w.heap.size (fun _ => True) (.slice Ao15 y469.length co15) y469) ∧ Aside0 (w'.heap[gb464]? = some (.cells #[(.slice A0_0 l0_0.length c0_0), (.slice A0_1 l0_1.length c0_1), (.slice A0_2 l0_2.length c0_2)] 26 (0, 0))) ∧ Aside0 (w'.heap[gb465]? = some (.cells #[(.slice Ao11 y466.length co11), (.slice Ao15 y469.length co15), (.slice A0_2 l0_2.length c0_2)] 26 (0, 0))) ∧ Aside0 (Below w.heap.size w w'))
   case atStart => exact ⟨(0), (mF), H', ⟨Nat.le_refl _⟩, ⟨by (with_reducible repeat (first | apply Kd.R_alloc | apply Kd.R_drewN | apply Kd.R_drew)); exact Kd.R_mono (Kd.R_far (p := ⟨gb465, 2, none⟩) (Kd.R_far (p := ⟨gb465, 1, none⟩) (Kd.R_types HO468.out BK465.out (by decide)) (fun _ hk => hk.2) (.slice Ao15 y469.length co15)) (fun _ hk => hk.2) (.slice A0_2 l0_2.length c0_2)) (fun _ hk => trivial)⟩, ⟨by (with_reducible repeat (first | apply Kd.R_alloc | apply Kd.R_drewN | apply Kd.R_drew)); exact Kd.R_mono (Kd.R_far (p := ⟨gb465, 2, none⟩) (Kd.R_far (p := ⟨gb465, 1, none⟩) (Kd.R_types HO471.out BK465.out (by decide)) (fun _ hk => hk.2) (.slice Ao15 y469.length co15)) (fun _ hk => hk.2) (.slice A0_2 l0_2.length c0_2)) (fun _ hk => trivial)⟩, ⟨by refine mU ?_; refine blk_far ?_ NB464_465.out _; refine mU ?_; refine blk_far ?_ NB464_465.out _; refine mU ?_; exact BK464.out⟩, ⟨by refine mU ?_; refine blk_put (cs := #[.slice Ao11 y466.length co11, .slice Ao15 y469.length co15, .slice none 0 0]) ?_ 2 _ rfl; refine mU ?_; refine blk_put (cs := #[.slice Ao11 y466.length co11, .slice none 0 0, .slice none 0 0]) ?_ 1 _ rfl; refine mU ?_; exact BK465.out⟩, ⟨mB⟩⟩
   case round =>
    clear H' hcz12_0 hcz12_1 hcz12_2 hcz13_0 hcz13_1 hcz13_2 hcz16_0 hcz16_1 hcz16_2 hcz17_0 hcz17_1 hcz17_2 hcz8_0 hcz8_1 hcz8_2 hcz9_0 hcz9_1 hcz9_2 hfz12_0 hfz12_1 hfz12_2 hfz13_0 hfz13_1 hfz13_2 hfz16_0 hfz16_1 hfz16_2 hfz17_0 hfz17_1 hfz17_2 hfz8_0 hfz8_1 hfz8_2 hfz9_0 hfz9_1 hfz9_2
    obtain ⟨x6_1, rfl, HA, HK1, HO_466000, HO_466001, BK464, BK465, HB⟩ := hrel
    cases gk with
    | zero => exact absurd HA.out (by simp [rotalaw08_ProperOwn.l0])
    | succ k1 =>
     have H := HA.out
     clear HA
     simp only [rotalaw08_ProperOwn.l0] at H
     by_cases c18 : x6_1 < 2
     ·rw [if_pos c18] at H
      have c18b0 : decide (x6_1 < 2) = true := decide_eq_true c18
      clear c18
      replace H := Option.bind_eq_some_iff.mp H
      obtain ⟨⟨t473, t476⟩, A190, H⟩ := H
      replace H : ((rotaref08_Calls.f k1 l0_0 l0_1 l0_2 a1 true).bind fun bt477 => ((proper_Reach.f k1 y466 y469 l0_2 a1).bind fun bt481 => ((rotaref08_Reach.f k1 l0_0 l0_1 l0_2 a1).bind fun bt485 => (if t476 = bt481.2 then ((rotalaw08_sameInts.f k1 t473 bt477.1).bind fun t489 => (if t489 = true then ((rotalaw08_sameInts.f k1 bt481.1 bt485.1).bind fun t490 => (if t490 = true then (if (y466.length : Int) = (l0_0.length : Int) then (rotalaw08_ProperOwn.j1 k1 a1 x6_1 t473 bt481.1 ((y469.length : Int) != (l0_1.length : Int)) l0_0 l0_1 l0_2 y466 y469 l0_2) else (rotalaw08_ProperOwn.j1 k1 a1 x6_1 t473 bt481.1 true l0_0 l0_1 l0_2 y466 y469 l0_2)) else (rotalaw08_ProperOwn.j1 k1 a1 x6_1 t473 bt481.1 true l0_0 l0_1 l0_2 y466 y469 l0_2))) else (rotalaw08_ProperOwn.j1 k1 a1 x6_1 t473 bt481.1 true l0_0 l0_1 l0_2 y466 y469 l0_2))) else (rotalaw08_ProperOwn.j1 k1 a1 x6_1 t473 bt481.1 true l0_0 l0_1 l0_2 y466 y469 l0_2))))) = some r := H
      have A19 := K1 A190
      clear A190
      replace H := Option.bind_eq_some_iff.mp H
      obtain ⟨⟨t477, t480⟩, A200, H⟩ := H
      replace H : ((proper_Reach.f k1 y466 y469 l0_2 a1).bind fun bt481 => ((rotaref08_Reach.f k1 l0_0 l0_1 l0_2 a1).bind fun bt485 => (if t476 = bt481.2 then ((rotalaw08_sameInts.f k1 t473 t477).bind fun t489 => (if t489 = true then ((rotalaw08_sameInts.f k1 bt481.1 bt485.1).bind fun t490 => (if t490 = true then (if (y466.length : Int) = (l0_0.length : Int) then (rotalaw08_ProperOwn.j1 k1 a1 x6_1 t473 bt481.1 ((y469.length : Int) != (l0_1.length : Int)) l0_0 l0_1 l0_2 y466 y469 l0_2) else (rotalaw08_ProperOwn.j1 k1 a1 x6_1 t473 bt481.1 true l0_0 l0_1 l0_2 y466 y469 l0_2)) else (rotalaw08_ProperOwn.j1 k1 a1 x6_1 t473 bt481.1 true l0_0 l0_1 l0_2 y466 y469 l0_2))) else (rotalaw08_ProperOwn.j1 k1 a1 x6_1 t473 bt481.1 true l0_0 l0_1 l0_2 y466 y469 l0_2))) else (rotalaw08_ProperOwn.j1 k1 a1 x6_1 t473 bt481.1 true l0_0 l0_1 l0_2 y466 y469 l0_2)))) = some r := H
      have A20 := K1 A200
      clear A200
      replace H := Option.bind_eq_some_iff.mp H
      obtain ⟨⟨t481, t484⟩, A210, H⟩ := H
      replace H : ((rotaref08_Reach.f k1 l0_0 l0_1 l0_2 a1).bind fun bt485 => (if t476 = t484 then ((rotalaw08_sameInts.f k1 t473 t477).bind fun t489 => (if t489 = true then ((rotalaw08_sameInts.f k1 t481 bt485.1).bind fun t490 => (if t490 = true then (if (y466.length : Int) = (l0_0.length : Int) then (rotalaw08_ProperOwn.j1 k1 a1 x6_1 t473 t481 ((y469.length : Int) != (l0_1.length : Int)) l0_0 l0_1 l0_2 y466 y469 l0_2) else (rotalaw08_ProperOwn.j1 k1 a1 x6_1 t473 t481 true l0_0 l0_1 l0_2 y466 y469 l0_2)) else (rotalaw08_ProperOwn.j1 k1 a1 x6_1 t473 t481 true l0_0 l0_1 l0_2 y466 y469 l0_2))) else (rotalaw08_ProperOwn.j1 k1 a1 x6_1 t473 t481 true l0_0 l0_1 l0_2 y466 y469 l0_2))) else (rotalaw08_ProperOwn.j1 k1 a1 x6_1 t473 t481 true l0_0 l0_1 l0_2 y466 y469 l0_2))) = some r := H
      have A21 := K1 A210
      clear A210
      replace H := Option.bind_eq_some_iff.mp H
      obtain ⟨⟨t485, t488⟩, A220, H⟩ := H
      replace H : (if t476 = t484 then ((rotalaw08_sameInts.f k1 t473 t477).bind fun t489 => (if t489 = true then ((rotalaw08_sameInts.f k1 t481 t485).bind fun t490 => (if t490 = true then (if (y466.length : Int) = (l0_0.length : Int) then (rotalaw08_ProperOwn.j1 k1 a1 x6_1 t473 t481 ((y469.length : Int) != (l0_1.length : Int)) l0_0 l0_1 l0_2 y466 y469 l0_2) else (rotalaw08_ProperOwn.j1 k1 a1 x6_1 t473 t481 true l0_0 l0_1 l0_2 y466 y469 l0_2)) else (rotalaw08_ProperOwn.j1 k1 a1 x6_1 t473 t481 true l0_0 l0_1 l0_2 y466 y469 l0_2))) else (rotalaw08_ProperOwn.j1 k1 a1 x6_1 t473 t481 true l0_0 l0_1 l0_2 y466 y469 l0_2))) else (rotalaw08_ProperOwn.j1 k1 a1 x6_1 t473 t481 true l0_0 l0_1 l0_2 y466 y469 l0_2)) = some r := H
      have A22 := K1 A220
      clear A220
      have HC23 := K1 H
      clear H
      have hnb24 := NB465_464.out
      have hnc24 := NB464_465.out
      obtain ⟨hcz25_0, hcz25_1, hcz25_2, hfz25_0, hfz25_1, hfz25_2⟩ := cf3 BK465
      go_upto_region 12 with (first | (go_at_call 23; (with_reducible refine (proper_Calls.calls k1 _ _ y466 _ _ y469 _ _ l0_2 a1 true t473 t476 _ ?side1 ?side2 ?side3 ?side4 ?side5 ?side6 A19.out).mono ?_); (case side1 => exact mW (Kd.R_reads' HO_466000.out).2.2); (case side2 => exact (Kd.R_reads' HO_466000.out).2.1); (case side3 => exact mW (Kd.R_reads' HO_466001.out).2.2); (case side4 => exact (Kd.R_reads' HO_466001.out).2.1); (case side5 => exact mC); (case side6 => exact HC0_2.out); rintro e w26 ⟨v474, rfl, ho0, hb⟩; have n0_ := K1 (Kd.R_below (mV HO_466000.out) hb); have n1_ := K1 (Kd.R_below (mV HO_466001.out) hb); have n2_ := K1 (Kd.R_lower ho0 (below_size mB)); have n3_ := K1 (blk_below (mU BK464.out) hb); have n4_ := K1 (blk_below (mU BK465.out) hb); have n5_ := K1 (below_step mB hb); clear HO_466000; clear HO_466001; clear BK464; clear BK465; clear HB; have HO_466000 := n0_; have HO_466001 := n1_; have HO475 := n2_; have BK464 := n3_; have BK465 := n4_; have HB := n5_; clear n0_ n1_ n2_ n3_ n4_ n5_; (try clear hb); (try clear ho0); obtain ⟨hcz27_0, hcz27_1, hcz27_2, hfz27_0, hfz27_1, hfz27_2⟩ := cf3 BK464) | (go_at_call 24; (with_reducible refine (rotaref08_Calls.calls k1 _ _ l0_0 _ _ l0_1 _ _ l0_2 a1 true t477 t480 _ ?side1 ?side2 ?side3 ?side4 ?side5 ?side6 A20.out).mono ?_); (case side1 => exact mC); (case side2 => exact HC0_0.out); (case side3 => exact mC); (case side4 => exact HC0_1.out); (case side5 => exact mC); (case side6 => exact HC0_2.out); rintro e w28 ⟨v478, rfl, ho0, hb⟩; have n0_ := K1 (Kd.R_below (mV HO_466000.out) hb); have n1_ := K1 (Kd.R_below (mV HO_466001.out) hb); have n2_ := K1 (Kd.R_elder' (mV HO475.out) (Kd.R_base ho0) hb); have n3_ := K1 (Kd.R_lower (Kd.R_new' ho0 (Kd.R_lt (mV HO475.out))) (below_size mB)); have n4_ := K1 (blk_below (mU BK464.out) hb); have n5_ := K1 (blk_below (mU BK465.out) hb); have n6_ := K1 (below_step mB hb); clear HO_466000; clear HO_466001; clear HO475; clear BK464; clear BK465; clear HB; have HO_466000 := n0_; have HO_466001 := n1_; have HO475 := n2_; have HO479 := n3_; have BK464 := n4_; have BK465 := n5_; have HB := n6_; clear n0_ n1_ n2_ n3_ n4_ n5_ n6_; (try clear hb); (try clear ho0); obtain ⟨hcz29_0, hcz29_1, hcz29_2, hfz29_0, hfz29_1, hfz29_2⟩ := cf3 BK465) | (go_at_call 20; (with_reducible refine (proper_Reach.calls k1 _ _ y466 _ _ y469 _ _ l0_2 a1 t481 t484 _ ?side1 ?side2 ?side3 ?side4 ?side5 ?side6 A21.out).mono ?_); (case side1 => exact mW (Kd.R_reads' HO_466000.out).2.2); (case side2 => exact (Kd.R_reads' HO_466000.out).2.1); (case side3 => exact mW (Kd.R_reads' HO_466001.out).2.2); (case side4 => exact (Kd.R_reads' HO_466001.out).2.1); (case side5 => exact mC); (case side6 => exact HC0_2.out); rintro e w30 ⟨v482, rfl, ho0, hb⟩; have n0_ := K1 (Kd.R_below (mV HO_466000.out) hb); have n1_ := K1 (Kd.R_below (mV HO_466001.out) hb); have n2_ := K1 (Kd.R_elder' (mV HO475.out) (Kd.R_base ho0) hb); have n3_ := K1 (Kd.R_elder' (mV HO479.out) (Kd.R_base ho0) hb); have n4_ := K1 (Kd.R_lower (Kd.R_new' (Kd.R_new' ho0 (Kd.R_lt (mV HO475.out))) (Kd.R_lt (mV HO479.out))) (below_size mB)); have n5_ := K1 (blk_below (mU BK464.out) hb); have n6_ := K1 (blk_below (mU BK465.out) hb); have n7_ := K1 (below_step mB hb); clear HO_466000; clear HO_466001; clear HO475; clear HO479; clear BK464; clear BK465; clear HB; have HO_466000 := n0_; have HO_466001 := n1_; have HO475 := n2_; have HO479 := n3_; have HO483 := n4_; have BK464 := n5_; have BK465 := n6_; have HB := n7_; clear n0_ n1_ n2_ n3_ n4_ n5_ n6_ n7_; (try clear hb); (try clear ho0); obtain ⟨hcz31_0, hcz31_1, hcz31_2, hfz31_0, hfz31_1, hfz31_2⟩ := cf3 BK464) | (go_at_call 21; (with_reducible refine (rotaref08_Reach.calls k1 _ _ l0_0 _ _ l0_1 _ _ l0_2 a1 t485 t488 _ ?side1 ?side2 ?side3 ?side4 ?side5 ?side6 A22.out).mono ?_); (case side1 => exact mC); (case side2 => exact HC0_0.out); (case side3 => exact mC); (case side4 => exact HC0_1.out); (case side5 => exact mC); (case side6 => exact HC0_2.out); rintro e w32 ⟨v486, rfl, ho0, hb⟩; have n0_ := K1 (Kd.R_below (mV HO_466000.out) hb); have n1_ := K1 (Kd.R_below (mV HO_466001.out) hb); have n2_ := K1 (Kd.R_elder' (mV HO475.out) (Kd.R_base ho0) hb); have n3_ := K1 (Kd.R_elder' (mV HO479.out) (Kd.R_base ho0) hb); have n4_ := K1 (Kd.R_elder' (mV HO483.out) (Kd.R_base ho0) hb); have n5_ := K1 (Kd.R_lower (Kd.R_new' (Kd.R_new' (Kd.R_new' ho0 (Kd.R_lt (mV HO475.out))) (Kd.R_lt (mV HO479.out))) (Kd.R_lt (mV HO483.out))) (below_size mB)); have n6_ := K1 (blk_below (mU BK464.out) hb); have n7_ := K1 (blk_below (mU BK465.out) hb); have n8_ := K1 (below_step mB hb); clear HO_466000; clear HO_466001; clear HO475; clear HO479; clear HO483; clear BK464; clear BK465; clear HB; have HO_466000 := n0_; have HO_466001 := n1_; have HO475 := n2_; have HO479 := n3_; have HO483 := n4_; have HO487 := n5_; have BK464 := n6_; have BK465 := n7_; have HB := n8_; clear n0_ n1_ n2_ n3_ n4_ n5_ n6_ n7_ n8_; (try clear hb); (try clear ho0)))
      (try simp only [Act.put, List.setIfInBounds_toArray, List.set_cons_zero, List.set_cons_succ])
      go_cut [94] (fun v94 wc => ∃ (kq : Nat) (x94_22 : Bool), v94 = .bool x94_22 ∧ Aside0 (rotalaw08_ProperOwn.j1 kq a1 x6_1 t473 t481 x94_22 l0_0 l0_1 l0_2 y466 y469 l0_2 = some r) ∧ Aside0 (kq ≤ k1) ∧ Aside0 (Kd.R (Kd.int .i64) 3 wc w.heap.size (fun k_ => some k_ ≠ (v482 : Value).ownBlock) v474 t473) ∧ Aside0 (Kd.R (Kd.int .i64) 3 wc w.heap.size (fun k_ => some k_ ≠ (v474 : Value).ownBlock) v482 t481) ∧ Aside0 (Kd.R (Kd.int .u32) 32 wc w.heap.size (fun _ => True) (.slice Ao11 y466.length co11) y466) ∧ Aside0 (Kd.R k34 34 wc w.heap.size (fun _ => True) (.slice Ao15 y469.length co15) y469) ∧ Aside0 (wc.heap[gb464]? = some (.cells #[(.slice A0_0 l0_0.length c0_0), (.slice A0_1 l0_1.length c0_1), (.slice A0_2 l0_2.length c0_2)] 26 (0, 0))) ∧ Aside0 (wc.heap[gb465]? = some (.cells #[(.slice Ao11 y466.length co11), (.slice Ao15 y469.length co15), (.slice A0_2 l0_2.length c0_2)] 26 (0, 0))) ∧ Aside0 (Below w.heap.size w wc))
      case first =>
       have H := HC23.out
       clear HC23
       by_cases c33 : t476 = t484
       ·rw [if_pos c33] at H
        have c33b0 : (t476 == t484) = true := beq_iff_eq.mpr c33
        have c33b1 : (t476 != t484) = false := bne_eq_false_iff_eq.mpr c33
        clear c33
        (first | rw [c33b0] | (simp only [i64_w, i32_w]; rw [c33b0]) | skip)
        replace H := Option.bind_eq_some_iff.mp H
        obtain ⟨t489, A340, H⟩ := H
        replace H : (if t489 = true then ((rotalaw08_sameInts.f k1 t481 t485).bind fun t490 => (if t490 = true then (if (y466.length : Int) = (l0_0.length : Int) then (rotalaw08_ProperOwn.j1 k1 a1 x6_1 t473 t481 ((y469.length : Int) != (l0_1.length : Int)) l0_0 l0_1 l0_2 y466 y469 l0_2) else (rotalaw08_ProperOwn.j1 k1 a1 x6_1 t473 t481 true l0_0 l0_1 l0_2 y466 y469 l0_2)) else (rotalaw08_ProperOwn.j1 k1 a1 x6_1 t473 t481 true l0_0 l0_1 l0_2 y466 y469 l0_2))) else (rotalaw08_ProperOwn.j1 k1 a1 x6_1 t473 t481 true l0_0 l0_1 l0_2 y466 y469 l0_2)) = some r := H
        have A34 := K1 A340
        clear A340
        by_cases c35 : t489 = true
        ·subst c35
         have H1 : ((rotalaw08_sameInts.f k1 t481 t485).bind fun t490 => (if t490 = true then (if (y466.length : Int) = (l0_0.length : Int) then (rotalaw08_ProperOwn.j1 k1 a1 x6_1 t473 t481 ((y469.length : Int) != (l0_1.length : Int)) l0_0 l0_1 l0_2 y466 y469 l0_2) else (rotalaw08_ProperOwn.j1 k1 a1 x6_1 t473 t481 true l0_0 l0_1 l0_2 y466 y469 l0_2)) else (rotalaw08_ProperOwn.j1 k1 a1 x6_1 t473 t481 true l0_0 l0_1 l0_2 y466 y469 l0_2))) = some r := by rw [if_pos rfl] at H; exact H
         clear H
         have H := H1
         clear H1
         replace H := Option.bind_eq_some_iff.mp H
         obtain ⟨t490, A360, H⟩ := H
         replace H : (if t490 = true then (if (y466.length : Int) = (l0_0.length : Int) then (rotalaw08_ProperOwn.j1 k1 a1 x6_1 t473 t481 ((y469.length : Int) != (l0_1.length : Int)) l0_0 l0_1 l0_2 y466 y469 l0_2) else (rotalaw08_ProperOwn.j1 k1 a1 x6_1 t473 t481 true l0_0 l0_1 l0_2 y466 y469 l0_2)) else (rotalaw08_ProperOwn.j1 k1 a1 x6_1 t473 t481 true l0_0 l0_1 l0_2 y466 y469 l0_2)) = some r := H
         have A36 := K1 A360
         clear A360
         by_cases c37 : t490 = true
         ·subst c37
          have H1 : (if (y466.length : Int) = (l0_0.length : Int) then (rotalaw08_ProperOwn.j1 k1 a1 x6_1 t473 t481 ((y469.length : Int) != (l0_1.length : Int)) l0_0 l0_1 l0_2 y466 y469 l0_2) else (rotalaw08_ProperOwn.j1 k1 a1 x6_1 t473 t481 true l0_0 l0_1 l0_2 y466 y469 l0_2)) = some r := by rw [if_pos rfl] at H; exact H
          clear H
          have H := H1
          clear H1
          by_cases c38 : (y466.length : Int) = (l0_0.length : Int)
          ·rw [if_pos c38] at H
           have c38b0 : ((y466.length : Int) == (l0_0.length : Int)) = true := beq_iff_eq.mpr c38
           have c38b1 : ((y466.length : Int) != (l0_0.length : Int)) = false := bne_eq_false_iff_eq.mpr c38
           have c38b2 : (y466.length == l0_0.length) = true := by first | simpa using c38 | (simp at c38 ⊢; omega)
           clear c38
           have H' := K1 H
           clear H
           obtain ⟨Ao39, co39, eo39⟩ := Kd.R_slice HO475.out
           subst eo39
           obtain ⟨Ao40, co40, eo40⟩ := Kd.R_slice HO479.out
           subst eo40
           go_wp2_with (first | (go_at_call 19; (with_reducible refine (rotalaw08_sameInts.calls k1 _ _ t473 _ _ t477 true _ ?side1 ?side2 ?side3 ?side4 A34.out).mono ?_); (case side1 => exact mW (Kd.R_reads' HO475.out).2.2); (case side2 => exact (Kd.R_reads' HO475.out).2.1); (case side3 => exact mW (Kd.R_reads' HO479.out).2.2); (case side4 => exact (Kd.R_reads' HO479.out).2.1); rintro e w' ⟨rfl, ⟨nd, rfl⟩⟩; (try first | exact ⟨rfl, _, World.drewN_drewN _ _ _⟩ | exact ⟨rfl, _, Eq.trans (World.drewN_drewN _ _ _) (congrArg (World.drewN _) (Nat.add_assoc _ _ _))⟩); obtain ⟨Ao41, co41, eo41⟩ := Kd.R_slice HO483.out; subst eo41; obtain ⟨Ao42, co42, eo42⟩ := Kd.R_slice HO487.out; subst eo42) | (go_at_call 19; (with_reducible refine (rotalaw08_sameInts.calls k1 _ _ t481 _ _ t485 true _ ?side1 ?side2 ?side3 ?side4 A36.out).mono ?_); (case side1 => exact mW (Kd.R_reads' HO483.out).2.2); (case side2 => exact (Kd.R_reads' HO483.out).2.1); (case side3 => exact mW (Kd.R_reads' HO487.out).2.2); (case side4 => exact (Kd.R_reads' HO487.out).2.1); rintro e w' ⟨rfl, ⟨nd, rfl⟩⟩; (try first | exact ⟨rfl, _, World.drewN_drewN _ _ _⟩ | exact ⟨rfl, _, Eq.trans (World.drewN_drewN _ _ _) (congrArg (World.drewN _) (Nat.add_assoc _ _ _))⟩); have hnb43 := NB465_464.out; have hnc43 := NB464_465.out; obtain ⟨hcz44_0, hcz44_1, hcz44_2, hfz44_0, hfz44_1, hfz44_2⟩ := cf3 BK465; obtain ⟨hcz45_0, hcz45_1, hcz45_2, hfz45_0, hfz45_1, hfz45_2⟩ := cf3 BK464))
           go_meet
           case rel => exact ⟨_, (((y469.length : Int) != (l0_1.length : Int))), (mF), H', ⟨by have := HK1.out; first | omega | exact Nat.le_refl _⟩, ⟨by (with_reducible repeat (first | apply Kd.R_alloc | apply Kd.R_drewN | apply Kd.R_drew)); exact Kd.R_mono HO475.out (fun _ hk => hk.1.2)⟩, ⟨by (with_reducible repeat (first | apply Kd.R_alloc | apply Kd.R_drewN | apply Kd.R_drew)); exact Kd.R_mono HO483.out (fun _ hk => hk.1.1.2)⟩, ⟨mV HO_466000.out⟩, ⟨mV HO_466001.out⟩, ⟨mU BK464.out⟩, ⟨mU BK465.out⟩, ⟨mB⟩⟩
          ·rw [if_neg c38] at H
           have c38b0 : ((y466.length : Int) == (l0_0.length : Int)) = false := beq_eq_false_iff_ne.mpr c38
           have c38b1 : ((y466.length : Int) != (l0_0.length : Int)) = true := bne_iff_ne.mpr c38
           have c38b2 : (y466.length == l0_0.length) = false := by first | simpa using c38 | (simp at c38 ⊢; omega)
           have H' := K1 H
           clear H
           obtain ⟨Ao46, co46, eo46⟩ := Kd.R_slice HO475.out
           subst eo46
           obtain ⟨Ao47, co47, eo47⟩ := Kd.R_slice HO479.out
           subst eo47
           go_wp2_with (first | (go_at_call 19; (with_reducible refine (rotalaw08_sameInts.calls k1 _ _ t473 _ _ t477 true _ ?side1 ?side2 ?side3 ?side4 A34.out).mono ?_); (case side1 => exact mW (Kd.R_reads' HO475.out).2.2); (case side2 => exact (Kd.R_reads' HO475.out).2.1); (case side3 => exact mW (Kd.R_reads' HO479.out).2.2); (case side4 => exact (Kd.R_reads' HO479.out).2.1); rintro e w' ⟨rfl, ⟨nd, rfl⟩⟩; (try first | exact ⟨rfl, _, World.drewN_drewN _ _ _⟩ | exact ⟨rfl, _, Eq.trans (World.drewN_drewN _ _ _) (congrArg (World.drewN _) (Nat.add_assoc _ _ _))⟩); obtain ⟨Ao48, co48, eo48⟩ := Kd.R_slice HO483.out; subst eo48; obtain ⟨Ao49, co49, eo49⟩ := Kd.R_slice HO487.out; subst eo49) | (go_at_call 19; (with_reducible refine (rotalaw08_sameInts.calls k1 _ _ t481 _ _ t485 true _ ?side1 ?side2 ?side3 ?side4 A36.out).mono ?_); (case side1 => exact mW (Kd.R_reads' HO483.out).2.2); (case side2 => exact (Kd.R_reads' HO483.out).2.1); (case side3 => exact mW (Kd.R_reads' HO487.out).2.2); (case side4 => exact (Kd.R_reads' HO487.out).2.1); rintro e w' ⟨rfl, ⟨nd, rfl⟩⟩; (try first | exact ⟨rfl, _, World.drewN_drewN _ _ _⟩ | exact ⟨rfl, _, Eq.trans (World.drewN_drewN _ _ _) (congrArg (World.drewN _) (Nat.add_assoc _ _ _))⟩); have hnb50 := NB465_464.out; have hnc50 := NB464_465.out; obtain ⟨hcz51_0, hcz51_1, hcz51_2, hfz51_0, hfz51_1, hfz51_2⟩ := cf3 BK465; obtain ⟨hcz52_0, hcz52_1, hcz52_2, hfz52_0, hfz52_1, hfz52_2⟩ := cf3 BK464))
           go_meet
           case rel => exact ⟨_, (true), (mF), H', ⟨by have := HK1.out; first | omega | exact Nat.le_refl _⟩, ⟨by (with_reducible repeat (first | apply Kd.R_alloc | apply Kd.R_drewN | apply Kd.R_drew)); exact Kd.R_mono HO475.out (fun _ hk => hk.1.2)⟩, ⟨by (with_reducible repeat (first | apply Kd.R_alloc | apply Kd.R_drewN | apply Kd.R_drew)); exact Kd.R_mono HO483.out (fun _ hk => hk.1.1.2)⟩, ⟨mV HO_466000.out⟩, ⟨mV HO_466001.out⟩, ⟨mU BK464.out⟩, ⟨mU BK465.out⟩, ⟨mB⟩⟩
         ·replace c37 := Bool.eq_false_iff.mpr c37
          subst c37
          have H1 : (rotalaw08_ProperOwn.j1 k1 a1 x6_1 t473 t481 true l0_0 l0_1 l0_2 y466 y469 l0_2) = some r := by rw [if_neg (show ¬ (false = true) by decide)] at H; exact H
          clear H
          have H := H1
          clear H1
          have H' := K1 H
          clear H
          obtain ⟨Ao53, co53, eo53⟩ := Kd.R_slice HO475.out
          subst eo53
          obtain ⟨Ao54, co54, eo54⟩ := Kd.R_slice HO479.out
          subst eo54
          go_wp2_with (first | (go_at_call 19; (with_reducible refine (rotalaw08_sameInts.calls k1 _ _ t473 _ _ t477 true _ ?side1 ?side2 ?side3 ?side4 A34.out).mono ?_); (case side1 => exact mW (Kd.R_reads' HO475.out).2.2); (case side2 => exact (Kd.R_reads' HO475.out).2.1); (case side3 => exact mW (Kd.R_reads' HO479.out).2.2); (case side4 => exact (Kd.R_reads' HO479.out).2.1); rintro e w' ⟨rfl, ⟨nd, rfl⟩⟩; (try first | exact ⟨rfl, _, World.drewN_drewN _ _ _⟩ | exact ⟨rfl, _, Eq.trans (World.drewN_drewN _ _ _) (congrArg (World.drewN _) (Nat.add_assoc _ _ _))⟩); obtain ⟨Ao55, co55, eo55⟩ := Kd.R_slice HO483.out; subst eo55; obtain ⟨Ao56, co56, eo56⟩ := Kd.R_slice HO487.out; subst eo56) | (go_at_call 19; (with_reducible refine (rotalaw08_sameInts.calls k1 _ _ t481 _ _ t485 false _ ?side1 ?side2 ?side3 ?side4 A36.out).mono ?_); (case side1 => exact mW (Kd.R_reads' HO483.out).2.2); (case side2 => exact (Kd.R_reads' HO483.out).2.1); (case side3 => exact mW (Kd.R_reads' HO487.out).2.2); (case side4 => exact (Kd.R_reads' HO487.out).2.1); rintro e w' ⟨rfl, ⟨nd, rfl⟩⟩; (try first | exact ⟨rfl, _, World.drewN_drewN _ _ _⟩ | exact ⟨rfl, _, Eq.trans (World.drewN_drewN _ _ _) (congrArg (World.drewN _) (Nat.add_assoc _ _ _))⟩)))
          go_meet
          case rel => exact ⟨_, (true), (mF), H', ⟨by have := HK1.out; first | omega | exact Nat.le_refl _⟩, ⟨by (with_reducible repeat (first | apply Kd.R_alloc | apply Kd.R_drewN | apply Kd.R_drew)); exact Kd.R_mono HO475.out (fun _ hk => hk.1.2)⟩, ⟨by (with_reducible repeat (first | apply Kd.R_alloc | apply Kd.R_drewN | apply Kd.R_drew)); exact Kd.R_mono HO483.out (fun _ hk => hk.1.1.2)⟩, ⟨mV HO_466000.out⟩, ⟨mV HO_466001.out⟩, ⟨mU BK464.out⟩, ⟨mU BK465.out⟩, ⟨mB⟩⟩
        ·replace c35 := Bool.eq_false_iff.mpr c35
         subst c35
         have H1 : (rotalaw08_ProperOwn.j1 k1 a1 x6_1 t473 t481 true l0_0 l0_1 l0_2 y466 y469 l0_2) = some r := by rw [if_neg (show ¬ (false = true) by decide)] at H; exact H
         clear H
         have H := H1
         clear H1
         have H' := K1 H
         clear H
         obtain ⟨Ao57, co57, eo57⟩ := Kd.R_slice HO475.out
         subst eo57
         obtain ⟨Ao58, co58, eo58⟩ := Kd.R_slice HO479.out
         subst eo58
         go_wp2_with (first | (go_at_call 19; (with_reducible refine (rotalaw08_sameInts.calls k1 _ _ t473 _ _ t477 false _ ?side1 ?side2 ?side3 ?side4 A34.out).mono ?_); (case side1 => exact mW (Kd.R_reads' HO475.out).2.2); (case side2 => exact (Kd.R_reads' HO475.out).2.1); (case side3 => exact mW (Kd.R_reads' HO479.out).2.2); (case side4 => exact (Kd.R_reads' HO479.out).2.1); rintro e w' ⟨rfl, ⟨nd, rfl⟩⟩; (try first | exact ⟨rfl, _, World.drewN_drewN _ _ _⟩ | exact ⟨rfl, _, Eq.trans (World.drewN_drewN _ _ _) (congrArg (World.drewN _) (Nat.add_assoc _ _ _))⟩)))
         go_meet
         case rel => exact ⟨_, (true), (mF), H', ⟨by have := HK1.out; first | omega | exact Nat.le_refl _⟩, ⟨by (with_reducible repeat (first | apply Kd.R_alloc | apply Kd.R_drewN | apply Kd.R_drew)); exact Kd.R_mono HO475.out (fun _ hk => hk.1.2)⟩, ⟨by (with_reducible repeat (first | apply Kd.R_alloc | apply Kd.R_drewN | apply Kd.R_drew)); exact Kd.R_mono HO483.out (fun _ hk => hk.1.1.2)⟩, ⟨mV HO_466000.out⟩, ⟨mV HO_466001.out⟩, ⟨mU BK464.out⟩, ⟨mU BK465.out⟩, ⟨mB⟩⟩
       ·rw [if_neg c33] at H
        have c33b0 : (t476 == t484) = false := beq_eq_false_iff_ne.mpr c33
        have c33b1 : (t476 != t484) = true := bne_iff_ne.mpr c33
        (first | rw [c33b0] | (simp only [i64_w, i32_w]; rw [c33b0]) | skip)
        have H' := K1 H
        clear H
        go_wp2
        repeat (go_quiet (fail); try go_wp2)
        go_meet
        case rel => exact ⟨_, (true), (mF), H', ⟨by have := HK1.out; first | omega | exact Nat.le_refl _⟩, ⟨by (with_reducible repeat (first | apply Kd.R_alloc | apply Kd.R_drewN | apply Kd.R_drew)); exact Kd.R_mono HO475.out (fun _ hk => hk.1.2)⟩, ⟨by (with_reducible repeat (first | apply Kd.R_alloc | apply Kd.R_drewN | apply Kd.R_drew)); exact Kd.R_mono HO483.out (fun _ hk => hk.1.1.2)⟩, ⟨mV HO_466000.out⟩, ⟨mV HO_466001.out⟩, ⟨mU BK464.out⟩, ⟨mU BK465.out⟩, ⟨mB⟩⟩
      case rest =>
       clear HC23 c18b0 hcz25_0 hcz25_1 hcz25_2 hcz27_0 hcz27_1 hcz27_2 hcz29_0 hcz29_1 hcz29_2 hcz31_0 hcz31_1 hcz31_2 hfz25_0 hfz25_1 hfz25_2 hfz27_0 hfz27_1 hfz27_2 hfz29_0 hfz29_1 hfz29_2 hfz31_0 hfz31_1 hfz31_2
       obtain ⟨kq, x94_22, rfl, HA, HJ22, HO_7, HO_11, HO_466000, HO_466001, BK464, BK465, HB⟩ := hcut
       cases kq with
       | zero => exact absurd HA.out (by simp [rotalaw08_ProperOwn.j1])
       | succ kj22 =>
        have H := HA.out
        clear HA
        simp only [rotalaw08_ProperOwn.j1] at H
        by_cases c59 : x94_22 = true
        ·subst c59
         have H1 : (some false) = some r := by rw [if_pos rfl] at H; exact H
         clear H
         have H := H1
         clear H1
         obtain rfl := Option.some.inj H
         go_wp2
         repeat (go_quiet (fail); try go_wp2)
         go_ret
         exact ⟨mE, mB⟩
        ·replace c59 := Bool.eq_false_iff.mpr c59
         subst c59
         have H1 : (rotalaw08_ProperOwn.l1 kj22 a1 x6_1 t473 t481 0 l0_0 l0_1 l0_2 y466 y469 l0_2) = some r := by rw [if_neg (show ¬ (false = true) by decide)] at H; exact H
         clear H
         have H := H1
         clear H1
         have H' := K1 H
         clear H
         go_wp2
         repeat (go_quiet (fail); try go_wp2)
         go_loopg [15] kj22 (fun kq v15 w' => ∃ (x7_3 : List Int) (x15_3 : Int), v15 = .int .i64 x15_3 ∧ Aside0 (rotalaw08_ProperOwn.l1 kq a1 x6_1 x7_3 t481 x15_3 l0_0 l0_1 l0_2 y466 y469 l0_2 = some r) ∧ Aside0 (kq ≤ kj22) ∧ Aside0 (Kd.R (Kd.int .i64) 3 w' w.heap.size (fun k_ => some k_ ≠ (v482 : Value).ownBlock) v474 x7_3) ∧ Aside0 (Kd.R (Kd.int .i64) 3 w' w.heap.size (fun k_ => some k_ ≠ (v474 : Value).ownBlock) v482 t481) ∧ Aside0 (Kd.R (Kd.int .u32) 32 w' w.heap.size (fun _ => True) (.slice Ao11 y466.length co11) y466) ∧ Aside0 (Kd.R k34 34 w' w.heap.size (fun _ => True) (.slice Ao15 y469.length co15) y469) ∧ Aside0 (w'.heap[gb464]? = some (.cells #[(.slice A0_0 l0_0.length c0_0), (.slice A0_1 l0_1.length c0_1), (.slice A0_2 l0_2.length c0_2)] 26 (0, 0))) ∧ Aside0 (w'.heap[gb465]? = some (.cells #[(.slice Ao11 y466.length co11), (.slice Ao15 y469.length co15), (.slice A0_2 l0_2.length c0_2)] 26 (0, 0))) ∧ Aside0 (Below w.heap.size w w'))
         case atStart => exact ⟨(t473), (0), (mF), H', ⟨Nat.le_refl _⟩, ⟨mV HO_7.out⟩, ⟨mV HO_11.out⟩, ⟨mV HO_466000.out⟩, ⟨mV HO_466001.out⟩, ⟨mU BK464.out⟩, ⟨mU BK465.out⟩, ⟨mB⟩⟩
         case round =>
          clear H'
          obtain ⟨x7_3, x15_3, rfl, HA, HK3, HO_7, HO_11, HO_466000, HO_466001, BK464, BK465, HB⟩ := hrel
          cases gk with
          | zero => exact absurd HA.out (by simp [rotalaw08_ProperOwn.l1])
          | succ k3 =>
           have H := HA.out
           clear HA
           simp only [rotalaw08_ProperOwn.l1] at H
           by_cases c60 : x15_3 < (x7_3.length : Int)
           ·rw [if_pos c60] at H
            have c60b0 : decide (x15_3 < (x7_3.length : Int)) = true := decide_eq_true c60
            clear c60
            by_cases c61 : 0 ≤ x15_3
            ·rw [if_pos c61] at H
             have c61b0 : decide (0 ≤ x15_3) = true := decide_eq_true c61
             clear c61
             obtain ⟨y491, hy491⟩ : ∃ y_ : List Int, y_ = (x7_3.set (x15_3 : Int).toNat 99) := ⟨_, rfl⟩
             replace H : (rotalaw08_ProperOwn.l1 k3 a1 x6_1 y491 t481 (wrap64 (x15_3 + 1)) l0_0 l0_1 l0_2 y466 y469 l0_2) = some r := by first | (rw [hy491]; with_reducible exact H) | (have H2_ := (Option.bind_some _ _).symm.trans H; rw [hy491]; with_reducible exact H2_) | (have H2_ := (Option.bind_some _ _).symm.trans H; with_reducible exact H2_) | with_reducible exact H | (rw [hy491]; exact H) | exact H
             have Ny491 := K1 hy491
             clear hy491
             have H' := K1 H
             clear H
             obtain ⟨Ao63, co63, eo63⟩ := Kd.R_slice HO_7.out
             subst eo63
             have p62 : 0 ≤ (x15_3 : Int) := of_decide_eq_true (mA)
             have q62 : (x15_3 : Int) < ((x7_3.length : Int) : Int) := of_decide_eq_true (mA)
             obtain ⟨go62, co62, eo62, gb62, gl62, cl62, HG62⟩ := Kd.R_form HO_7.out (by omega)
             (first | cases eo62 | (injection eo62 with ea_ en_ ec_; (first | subst ea_ | (injection ea_ with ea_; subst ea_)); subst ec_; clear en_))
             have GB62 := K1 gb62
             have GG62 := K1 HG62
             clear gb62 gl62 HG62
             obtain ⟨hx62_0, hf62_0⟩ := Kd.R_celln 0 HO_7.out (x15_3 : Int) p62 q62
             replace p62 := eq_true p62
             replace q62 := eq_true q62
             have HP64 := Kd.R_putg HO_7.out (x15_3 : Int) 99
             go_wp2_with (first | ((with_reducible refine gate_store (t := 3) (p := 103) rfl ?_); (try (rw [drewN_self wr]; generalize hq_ : World.drewN wr _ = wr; have n0_ := K1 (Kd.R_at hq_ HO_7.out); have n1_ := K1 (Kd.R_at hq_ HO_11.out); have n2_ := K1 (Kd.R_at hq_ HO_466000.out); have n3_ := K1 (Kd.R_at hq_ HO_466001.out); have n4_ := K1 (blk_at hq_ BK464.out); have n5_ := K1 (blk_at hq_ BK465.out); have n6_ := K1 (below_at hq_ HB.out); clear hq_ HO_7 HO_11 HO_466000 HO_466001 BK464 BK465 HB; have HO_7 := n0_; have HO_11 := n1_; have HO_466000 := n2_; have HO_466001 := n3_; have BK464 := n4_; have BK465 := n5_; have HB := n6_; clear n0_ n1_ n2_ n3_ n4_ n5_ n6_; (try (have HP64 := Kd.R_putg HO_7.out (x15_3 : Int) 99)))); refine store_event (t := 3) (p := 103) (v := ?vo_w65) (w1 := (wr.setCell ⟨go62, (x15_3 : Int).toNat, none⟩ (.int .i64 99))) ?hg ?ho ?hn ?hr ?_; (case ho => rfl); (case hg => rfl); (case hn => rfl); (case hr => first | (go_simp; done) | (go_simp; rfl)); intro w65 hw; have hg : wr.grownBy w65 (some go62) := (by rw [hw]; exact HP64.2); have hp_ : Kd.R (Kd.int .i64) 3 w65 w.heap.size (fun k_ => some k_ ≠ (v482 : Value).ownBlock) (.slice (some ⟨go62, 0, none⟩) x7_3.length co63) y491 := (by rw [hw, Ny491.out]; exact HP64.1); clear HP64; have n0_ := K1 (hp_); have n1_ := K1 (Kd.R_after (v := (.slice (some ⟨go62, 0, none⟩) x7_3.length co63)) (v1 := (.slice (some ⟨go62, 0, none⟩) x7_3.length co63)) (ok := (fun _ => True)) (by (with_reducible repeat (first | apply Kd.R_alloc | apply Kd.R_drewN | apply Kd.R_drew)); exact Kd.R_mono HO_11.out (fun _ hk => ⟨trivial, hk⟩)) hg (.inl rfl)); have n2_ := K1 (Kd.R_over' (v := (.slice (some ⟨go62, 0, none⟩) x7_3.length co63)) (mV HO_466000.out) (Kd.R_typed HO_7.out) (by decide) hg); have n3_ := K1 (Kd.R_over' (v := (.slice (some ⟨go62, 0, none⟩) x7_3.length co63)) (mV HO_466001.out) (Kd.R_typed HO_7.out) (by decide) hg); have n4_ := K1 (blk_grown (mU BK464.out) hg (Kd.R_ne HO_7.out BK464.out (by decide))); have n5_ := K1 (blk_grown (mU BK465.out) hg (Kd.R_ne HO_7.out BK465.out (by decide))); have n6_ := K1 ((by rw [hw]; exact below_set (HB.out) GB62.out : Below w.heap.size w w65)); clear HO_7; clear HO_11; clear HO_466000; clear HO_466001; clear BK464; clear BK465; clear HB; have HO_7 := n0_; have HO_11 := n1_; have HO_466000 := n2_; have HO_466001 := n3_; have BK464 := n4_; have BK465 := n5_; have HB := n6_; clear n0_ n1_ n2_ n3_ n4_ n5_ n6_; clear hg hw hp_))
             go_roundg k3
             case measure => have := HK1.out; have := HJ22.out; have := HK3.out; omega
             case rel => exact ⟨(y491), (wrap64 (x15_3 + 1)), (mF), H', ⟨by have := HK1.out; have := HJ22.out; have := HK3.out; omega⟩, ⟨mV HO_7.out⟩, ⟨by (with_reducible repeat (first | apply Kd.R_alloc | apply Kd.R_drewN | apply Kd.R_drew)); exact Kd.R_mono HO_11.out (fun _ hk => hk.2)⟩, ⟨mV HO_466000.out⟩, ⟨mV HO_466001.out⟩, ⟨mU BK464.out⟩, ⟨mU BK465.out⟩, ⟨mB⟩⟩
            ·rw [if_neg c61] at H
             exact absurd H (by simp)
           ·rw [if_neg c60] at H
            have c60b0 : decide (x15_3 < (x7_3.length : Int)) = false := decide_eq_false c60
            clear c60
            have H' := K1 H
            clear H
            obtain ⟨Ao66, co66, eo66⟩ := Kd.R_slice HO_7.out
            subst eo66
            go_wp2
            repeat (go_quiet (fail); try go_wp2)
            go_loopg [16] k3 (fun kq v16 w' => ∃ (x11_4 : List Int) (x16_4 : Int), v16 = .int .i64 x16_4 ∧ Aside0 (rotalaw08_ProperOwn.l2 kq a1 x6_1 x11_4 x16_4 l0_0 l0_1 l0_2 y466 y469 l0_2 = some r) ∧ Aside0 (kq ≤ k3) ∧ Aside0 (Kd.R (Kd.int .i64) 3 w' w.heap.size (fun _ => True) v482 x11_4) ∧ Aside0 (Kd.R (Kd.int .u32) 32 w' w.heap.size (fun _ => True) (.slice Ao11 y466.length co11) y466) ∧ Aside0 (Kd.R k34 34 w' w.heap.size (fun _ => True) (.slice Ao15 y469.length co15) y469) ∧ Aside0 (w'.heap[gb464]? = some (.cells #[(.slice A0_0 l0_0.length c0_0), (.slice A0_1 l0_1.length c0_1), (.slice A0_2 l0_2.length c0_2)] 26 (0, 0))) ∧ Aside0 (w'.heap[gb465]? = some (.cells #[(.slice Ao11 y466.length co11), (.slice Ao15 y469.length co15), (.slice A0_2 l0_2.length c0_2)] 26 (0, 0))) ∧ Aside0 (Below w.heap.size w w'))
            case atStart => exact ⟨(t481), (0), (mF), H', ⟨Nat.le_refl _⟩, ⟨by (with_reducible repeat (first | apply Kd.R_alloc | apply Kd.R_drewN | apply Kd.R_drew)); exact Kd.R_mono HO_11.out (fun _ hk => trivial)⟩, ⟨mV HO_466000.out⟩, ⟨mV HO_466001.out⟩, ⟨mU BK464.out⟩, ⟨mU BK465.out⟩, ⟨mB⟩⟩
            case round =>
             clear H' c60b0
             obtain ⟨x11_4, x16_4, rfl, HA, HK4, HO_11, HO_466000, HO_466001, BK464, BK465, HB⟩ := hrel
             cases gk with
             | zero => exact absurd HA.out (by simp [rotalaw08_ProperOwn.l2])
             | succ k4 =>
              have H := HA.out
              clear HA
              simp only [rotalaw08_ProperOwn.l2] at H
              by_cases c67 : x16_4 < (x11_4.length : Int)
              ·rw [if_pos c67] at H
               have c67b0 : decide (x16_4 < (x11_4.length : Int)) = true := decide_eq_true c67
               clear c67
               by_cases c68 : 0 ≤ x16_4
               ·rw [if_pos c68] at H
                have c68b0 : decide (0 ≤ x16_4) = true := decide_eq_true c68
                clear c68
                obtain ⟨y492, hy492⟩ : ∃ y_ : List Int, y_ = (x11_4.set (x16_4 : Int).toNat 98) := ⟨_, rfl⟩
                replace H : (rotalaw08_ProperOwn.l2 k4 a1 x6_1 y492 (wrap64 (x16_4 + 1)) l0_0 l0_1 l0_2 y466 y469 l0_2) = some r := by first | (rw [hy492]; with_reducible exact H) | (have H2_ := (Option.bind_some _ _).symm.trans H; rw [hy492]; with_reducible exact H2_) | (have H2_ := (Option.bind_some _ _).symm.trans H; with_reducible exact H2_) | with_reducible exact H | (rw [hy492]; exact H) | exact H
                have Ny492 := K1 hy492
                clear hy492
                have H' := K1 H
                clear H
                obtain ⟨Ao70, co70, eo70⟩ := Kd.R_slice HO_11.out
                subst eo70
                have p69 : 0 ≤ (x16_4 : Int) := of_decide_eq_true (mA)
                have q69 : (x16_4 : Int) < ((x11_4.length : Int) : Int) := of_decide_eq_true (mA)
                obtain ⟨go69, co69, eo69, gb69, gl69, cl69, HG69⟩ := Kd.R_form HO_11.out (by omega)
                (first | cases eo69 | (injection eo69 with ea_ en_ ec_; (first | subst ea_ | (injection ea_ with ea_; subst ea_)); subst ec_; clear en_))
                have GB69 := K1 gb69
                have GG69 := K1 HG69
                clear gb69 gl69 HG69
                obtain ⟨hx69_0, hf69_0⟩ := Kd.R_celln 0 HO_11.out (x16_4 : Int) p69 q69
                replace p69 := eq_true p69
                replace q69 := eq_true q69
                have HP71 := Kd.R_putg HO_11.out (x16_4 : Int) 98
                go_wp2_with (first | ((with_reducible refine gate_store (t := 3) (p := 112) rfl ?_); (try (rw [drewN_self wr]; generalize hq_ : World.drewN wr _ = wr; have n0_ := K1 (Kd.R_at hq_ HO_11.out); have n1_ := K1 (Kd.R_at hq_ HO_466000.out); have n2_ := K1 (Kd.R_at hq_ HO_466001.out); have n3_ := K1 (blk_at hq_ BK464.out); have n4_ := K1 (blk_at hq_ BK465.out); have n5_ := K1 (below_at hq_ HB.out); clear hq_ HO_11 HO_466000 HO_466001 BK464 BK465 HB; have HO_11 := n0_; have HO_466000 := n1_; have HO_466001 := n2_; have BK464 := n3_; have BK465 := n4_; have HB := n5_; clear n0_ n1_ n2_ n3_ n4_ n5_; (try (have HP71 := Kd.R_putg HO_11.out (x16_4 : Int) 98)))); refine store_event (t := 3) (p := 112) (v := ?vo_w72) (w1 := (wr.setCell ⟨go69, (x16_4 : Int).toNat, none⟩ (.int .i64 98))) ?hg ?ho ?hn ?hr ?_; (case ho => rfl); (case hg => rfl); (case hn => rfl); (case hr => first | (go_simp; done) | (go_simp; rfl)); intro w72 hw; have hg : wr.grownBy w72 (some go69) := (by rw [hw]; exact HP71.2); have hp_ : Kd.R (Kd.int .i64) 3 w72 w.heap.size (fun _ => True) (.slice (some ⟨go69, 0, none⟩) x11_4.length co70) y492 := (by rw [hw, Ny492.out]; exact HP71.1); clear HP71; have n0_ := K1 (hp_); have n1_ := K1 (Kd.R_over' (v := (.slice (some ⟨go69, 0, none⟩) x11_4.length co70)) (mV HO_466000.out) (Kd.R_typed HO_11.out) (by decide) hg); have n2_ := K1 (Kd.R_over' (v := (.slice (some ⟨go69, 0, none⟩) x11_4.length co70)) (mV HO_466001.out) (Kd.R_typed HO_11.out) (by decide) hg); have n3_ := K1 (blk_grown (mU BK464.out) hg (Kd.R_ne HO_11.out BK464.out (by decide))); have n4_ := K1 (blk_grown (mU BK465.out) hg (Kd.R_ne HO_11.out BK465.out (by decide))); have n5_ := K1 ((by rw [hw]; exact below_set (HB.out) GB69.out : Below w.heap.size w w72)); clear HO_11; clear HO_466000; clear HO_466001; clear BK464; clear BK465; clear HB; have HO_11 := n0_; have HO_466000 := n1_; have HO_466001 := n2_; have BK464 := n3_; have BK465 := n4_; have HB := n5_; clear n0_ n1_ n2_ n3_ n4_ n5_; clear hg hw hp_))
                go_roundg k4
                case measure => have := HK1.out; have := HJ22.out; have := HK3.out; have := HK4.out; omega
                case rel => exact ⟨(y492), (wrap64 (x16_4 + 1)), (mF), H', ⟨by have := HK1.out; have := HJ22.out; have := HK3.out; have := HK4.out; omega⟩, ⟨mV HO_11.out⟩, ⟨mV HO_466000.out⟩, ⟨mV HO_466001.out⟩, ⟨mU BK464.out⟩, ⟨mU BK465.out⟩, ⟨mB⟩⟩
               ·rw [if_neg c68] at H
                exact absurd H (by simp)
              ·rw [if_neg c67] at H
               have c67b0 : decide (x16_4 < (x11_4.length : Int)) = false := decide_eq_false c67
               clear c67
               have H' := K1 H
               clear H
               obtain ⟨Ao73, co73, eo73⟩ := Kd.R_slice HO_11.out
               subst eo73
               go_wp2
               repeat (go_quiet (fail); try go_wp2)
               go_loopg [17] k4 (fun kq v17 w' => ∃ (x17_5 : Int), v17 = .int .i64 x17_5 ∧ Aside0 (rotalaw08_ProperOwn.l3 kq a1 x6_1 x17_5 l0_0 l0_1 l0_2 y466 y469 l0_2 = some r) ∧ Aside0 (kq ≤ k4) ∧ Aside0 (Kd.R (Kd.int .u32) 32 w' w.heap.size (fun _ => True) (.slice Ao11 y466.length co11) y466) ∧ Aside0 (Kd.R k34 34 w' w.heap.size (fun _ => True) (.slice Ao15 y469.length co15) y469) ∧ Aside0 (w'.heap[gb464]? = some (.cells #[(.slice A0_0 l0_0.length c0_0), (.slice A0_1 l0_1.length c0_1), (.slice A0_2 l0_2.length c0_2)] 26 (0, 0))) ∧ Aside0 (w'.heap[gb465]? = some (.cells #[(.slice Ao11 y466.length co11), (.slice Ao15 y469.length co15), (.slice A0_2 l0_2.length c0_2)] 26 (0, 0))) ∧ Aside0 (Below w.heap.size w w'))
               case atStart => exact ⟨(0), (mF), H', ⟨Nat.le_refl _⟩, ⟨mV HO_466000.out⟩, ⟨mV HO_466001.out⟩, ⟨mU BK464.out⟩, ⟨mU BK465.out⟩, ⟨mB⟩⟩
               case round =>
                clear H' c67b0
                obtain ⟨x17_5, rfl, HA, HK5, HO_466000, HO_466001, BK464, BK465, HB⟩ := hrel
                cases gk with
                | zero => exact absurd HA.out (by simp [rotalaw08_ProperOwn.l3])
                | succ k5 =>
                 have H := HA.out
                 clear HA
                 simp only [rotalaw08_ProperOwn.l3] at H
                 by_cases c74 : x17_5 < (y466.length : Int)
                 ·rw [if_pos c74] at H
                  have c74b0 : decide (x17_5 < (y466.length : Int)) = true := decide_eq_true c74
                  clear c74
                  by_cases c75 : 0 ≤ x17_5
                  ·rw [if_pos c75] at H
                   have c75b0 : decide (0 ≤ x17_5) = true := decide_eq_true c75
                   clear c75
                   by_cases c76 : x17_5 < (l0_0.length : Int)
                   ·rw [if_pos c76] at H
                    have c76b0 : decide (x17_5 < (l0_0.length : Int)) = true := decide_eq_true c76
                    clear c76
                    by_cases c77 : (rd y466 x17_5) = (rd l0_0 x17_5)
                    ·rw [if_pos c77] at H
                     have c77b0 : ((rd y466 x17_5) == (rd l0_0 x17_5)) = true := beq_iff_eq.mpr c77
                     have c77b1 : ((rd y466 x17_5) != (rd l0_0 x17_5)) = false := bne_eq_false_iff_eq.mpr c77
                     clear c77
                     have H' := K1 H
                     clear H
                     have hnb78 := NB465_464.out
                     have hnc78 := NB464_465.out
                     obtain ⟨hcz79_0, hcz79_1, hcz79_2, hfz79_0, hfz79_1, hfz79_2⟩ := cf3 BK465
                     have p493 : 0 ≤ (x17_5 : Int) := of_decide_eq_true (mA)
                     have q493 : x17_5 < (y466.length : Int) := of_decide_eq_true (mA)
                     obtain ⟨ad493, e493, hx493_0⟩ := Kd.at_int (Kd.R_reads' HO_466000.out).2.2 x17_5 p493 q493
                     cases e493
                     replace p493 := eq_true p493
                     replace q493 := eq_true q493
                     obtain ⟨hcz80_0, hcz80_1, hcz80_2, hfz80_0, hfz80_1, hfz80_2⟩ := cf3 BK464
                     have p494 : 0 ≤ (x17_5 : Int) := of_decide_eq_true (mA)
                     have q494 : x17_5 < (l0_0.length : Int) := of_decide_eq_true (mA)
                     obtain ⟨ad494, e494, hx494_0⟩ := Kd.at_int HR0_0.out x17_5 p494 q494
                     cases e494
                     replace hx494_0 := (HB.out.cell (World.block_lt_of_cell? w _ hx494_0)).trans hx494_0
                     replace p494 := eq_true p494
                     replace q494 := eq_true q494
                     go_wp2
                     repeat (go_quiet (fail); try go_wp2)
                     go_roundg k5
                     case measure => have := HK1.out; have := HJ22.out; have := HK3.out; have := HK4.out; have := HK5.out; omega
                     case rel => exact ⟨(wrap64 (x17_5 + 1)), (mF), H', ⟨by have := HK1.out; have := HJ22.out; have := HK3.out; have := HK4.out; have := HK5.out; omega⟩, ⟨mV HO_466000.out⟩, ⟨mV HO_466001.out⟩, ⟨mU BK464.out⟩, ⟨mU BK465.out⟩, ⟨mB⟩⟩
                    ·rw [if_neg c77] at H
                     have c77b0 : ((rd y466 x17_5) == (rd l0_0 x17_5)) = false := beq_eq_false_iff_ne.mpr c77
                     have c77b1 : ((rd y466 x17_5) != (rd l0_0 x17_5)) = true := bne_iff_ne.mpr c77
                     obtain rfl := Option.some.inj H
                     have hnb81 := NB465_464.out
                     have hnc81 := NB464_465.out
                     obtain ⟨hcz82_0, hcz82_1, hcz82_2, hfz82_0, hfz82_1, hfz82_2⟩ := cf3 BK465
                     have p493 : 0 ≤ (x17_5 : Int) := of_decide_eq_true (mA)
                     have q493 : x17_5 < (y466.length : Int) := of_decide_eq_true (mA)
                     obtain ⟨ad493, e493, hx493_0⟩ := Kd.at_int (Kd.R_reads' HO_466000.out).2.2 x17_5 p493 q493
                     cases e493
                     replace p493 := eq_true p493
                     replace q493 := eq_true q493
                     obtain ⟨hcz83_0, hcz83_1, hcz83_2, hfz83_0, hfz83_1, hfz83_2⟩ := cf3 BK464
                     have p494 : 0 ≤ (x17_5 : Int) := of_decide_eq_true (mA)
                     have q494 : x17_5 < (l0_0.length : Int) := of_decide_eq_true (mA)
                     obtain ⟨ad494, e494, hx494_0⟩ := Kd.at_int HR0_0.out x17_5 p494 q494
                     cases e494
                     replace hx494_0 := (HB.out.cell (World.block_lt_of_cell? w _ hx494_0)).trans hx494_0
                     replace p494 := eq_true p494
                     replace q494 := eq_true q494
                     go_wp2
                     repeat (go_quiet (fail); try go_wp2)
                     go_ret
                     exact ⟨mE, mB⟩
                   ·rw [if_neg c76] at H
                    exact absurd H (by simp)
                  ·rw [if_neg c75] at H
                   exact absurd H (by simp)
                 ·rw [if_neg c74] at H
                  have c74b0 : decide (x17_5 < (y466.length : Int)) = false := decide_eq_false c74
                  clear c74
                  have H' := K1 H
                  clear H
                  have hnb84 := NB465_464.out
                  have hnc84 := NB464_465.out
                  obtain ⟨hcz85_0, hcz85_1, hcz85_2, hfz85_0, hfz85_1, hfz85_2⟩ := cf3 BK465
                  go_wp2
                  repeat (go_quiet (fail); try go_wp2)
                  go_loopg [18] k5 (fun kq v18 w' => ∃ (x18_6 : Int), v18 = .int .i64 x18_6 ∧ Aside0 (rotalaw08_ProperOwn.l4 kq a1 x6_1 x18_6 l0_0 l0_1 l0_2 y466 y469 l0_2 = some r) ∧ Aside0 (kq ≤ k5) ∧ Aside0 (Kd.R (Kd.int .u32) 32 w' w.heap.size (fun _ => True) (.slice Ao11 y466.length co11) y466) ∧ Aside0 (Kd.R k34 34 w' w.heap.size (fun _ => True) (.slice Ao15 y469.length co15) y469) ∧ Aside0 (w'.heap[gb464]? = some (.cells #[(.slice A0_0 l0_0.length c0_0), (.slice A0_1 l0_1.length c0_1), (.slice A0_2 l0_2.length c0_2)] 26 (0, 0))) ∧ Aside0 (w'.heap[gb465]? = some (.cells #[(.slice Ao11 y466.length co11), (.slice Ao15 y469.length co15), (.slice A0_2 l0_2.length c0_2)] 26 (0, 0))) ∧ Aside0 (Below w.heap.size w w'))
                  case atStart => exact ⟨(0), (mF), H', ⟨Nat.le_refl _⟩, ⟨mV HO_466000.out⟩, ⟨mV HO_466001.out⟩, ⟨mU BK464.out⟩, ⟨mU BK465.out⟩, ⟨mB⟩⟩
                  case round =>
                   clear H' c74b0 hcz85_0 hcz85_1 hcz85_2 hfz85_0 hfz85_1 hfz85_2
                   obtain ⟨x18_6, rfl, HA, HK6, HO_466000, HO_466001, BK464, BK465, HB⟩ := hrel
                   cases gk with
                   | zero => exact absurd HA.out (by simp [rotalaw08_ProperOwn.l4])
                   | succ k6 =>
                    have H := HA.out
                    clear HA
                    simp only [rotalaw08_ProperOwn.l4] at H
                    by_cases c86 : x18_6 < (y469.length : Int)
                    ·rw [if_pos c86] at H
                     have c86b0 : decide (x18_6 < (y469.length : Int)) = true := decide_eq_true c86
                     clear c86
                     by_cases c87 : 0 ≤ x18_6
                     ·rw [if_pos c87] at H
                      have c87b0 : decide (0 ≤ x18_6) = true := decide_eq_true c87
                      clear c87
                      by_cases c88 : x18_6 < (l0_1.length : Int)
                      ·rw [if_pos c88] at H
                       have c88b0 : decide (x18_6 < (l0_1.length : Int)) = true := decide_eq_true c88
                       clear c88
                       by_cases c89 : (!(((rd_T34 y469 x18_6).f0) == ((rd_T34 l0_1 x18_6).f0)) || (!(((rd_T34 y469 x18_6).f1) == ((rd_T34 l0_1 x18_6).f1)))) = true
                       ·rw [if_pos c89] at H
                        have c89b0 : (!(((rd_T34 y469 x18_6).f0) == ((rd_T34 l0_1 x18_6).f0)) || (!(((rd_T34 y469 x18_6).f1) == ((rd_T34 l0_1 x18_6).f1)))) = true := c89
                        clear c89
                        obtain rfl := Option.some.inj H
                        have hnb90 := NB465_464.out
                        have hnc90 := NB464_465.out
                        obtain ⟨hcz91_0, hcz91_1, hcz91_2, hfz91_0, hfz91_1, hfz91_2⟩ := cf3 BK465
                        have p495 : 0 ≤ (x18_6 : Int) := of_decide_eq_true (mA)
                        have q495 : x18_6 < (y469.length : Int) := of_decide_eq_true (mA)
                        obtain ⟨ad495, e495, hx495_0, hx495_1⟩ := at_T34 (Kd.R_reads' HO_466001.out).2.2 x18_6 p495 q495
                        cases e495
                        replace p495 := eq_true p495
                        replace q495 := eq_true q495
                        obtain ⟨hcz92_0, hcz92_1, hcz92_2, hfz92_0, hfz92_1, hfz92_2⟩ := cf3 BK464
                        have p496 : 0 ≤ (x18_6 : Int) := of_decide_eq_true (mA)
                        have q496 : x18_6 < (l0_1.length : Int) := of_decide_eq_true (mA)
                        obtain ⟨ad496, e496, hx496_0, hx496_1⟩ := at_T34 HR0_1.out x18_6 p496 q496
                        cases e496
                        replace hx496_0 := (HB.out.cell (World.block_lt_of_cell? w _ hx496_0)).trans hx496_0
                        replace hx496_1 := (HB.out.cell (World.block_lt_of_cell? w _ hx496_1)).trans hx496_1
                        replace p496 := eq_true p496
                        replace q496 := eq_true q496
                        go_wp2
                        repeat (go_quiet (fail); try go_wp2)
                        go_ret
                        exact ⟨mE, mB⟩
                       ·rw [if_neg c89] at H
                        have c89b0 : (!(((rd_T34 y469 x18_6).f0) == ((rd_T34 l0_1 x18_6).f0)) || (!(((rd_T34 y469 x18_6).f1) == ((rd_T34 l0_1 x18_6).f1)))) = false := by simpa using c89
                        clear c89
                        have H' := K1 H
                        clear H
                        have hnb93 := NB465_464.out
                        have hnc93 := NB464_465.out
                        obtain ⟨hcz94_0, hcz94_1, hcz94_2, hfz94_0, hfz94_1, hfz94_2⟩ := cf3 BK465
                        have p495 : 0 ≤ (x18_6 : Int) := of_decide_eq_true (mA)
                        have q495 : x18_6 < (y469.length : Int) := of_decide_eq_true (mA)
                        obtain ⟨ad495, e495, hx495_0, hx495_1⟩ := at_T34 (Kd.R_reads' HO_466001.out).2.2 x18_6 p495 q495
                        cases e495
                        replace p495 := eq_true p495
                        replace q495 := eq_true q495
                        obtain ⟨hcz95_0, hcz95_1, hcz95_2, hfz95_0, hfz95_1, hfz95_2⟩ := cf3 BK464
                        have p496 : 0 ≤ (x18_6 : Int) := of_decide_eq_true (mA)
                        have q496 : x18_6 < (l0_1.length : Int) := of_decide_eq_true (mA)
                        obtain ⟨ad496, e496, hx496_0, hx496_1⟩ := at_T34 HR0_1.out x18_6 p496 q496
                        cases e496
                        replace hx496_0 := (HB.out.cell (World.block_lt_of_cell? w _ hx496_0)).trans hx496_0
                        replace hx496_1 := (HB.out.cell (World.block_lt_of_cell? w _ hx496_1)).trans hx496_1
                        replace p496 := eq_true p496
                        replace q496 := eq_true q496
                        go_wp2
                        repeat (go_quiet (fail); try go_wp2)
                        go_roundg k6
                        case measure => have := HK1.out; have := HJ22.out; have := HK3.out; have := HK4.out; have := HK5.out; have := HK6.out; omega
                        case rel => exact ⟨(wrap64 (x18_6 + 1)), (mF), H', ⟨by have := HK1.out; have := HJ22.out; have := HK3.out; have := HK4.out; have := HK5.out; have := HK6.out; omega⟩, ⟨mV HO_466000.out⟩, ⟨mV HO_466001.out⟩, ⟨mU BK464.out⟩, ⟨mU BK465.out⟩, ⟨mB⟩⟩
                      ·rw [if_neg c88] at H
                       exact absurd H (by simp)
                     ·rw [if_neg c87] at H
                      exact absurd H (by simp)
                    ·rw [if_neg c86] at H
                     have c86b0 : decide (x18_6 < (y469.length : Int)) = false := decide_eq_false c86
                     clear c86
                     have H' := K1 H
                     clear H
                     have hnb96 := NB465_464.out
                     have hnc96 := NB464_465.out
                     obtain ⟨hcz97_0, hcz97_1, hcz97_2, hfz97_0, hfz97_1, hfz97_2⟩ := cf3 BK465
                     go_wp2
                     repeat (go_quiet (fail); try go_wp2)
                     go_roundg k6
                     case measure => have := HK1.out; have := HJ22.out; have := HK3.out; have := HK4.out; have := HK5.out; have := HK6.out; omega
                     case rel => exact ⟨(wrap64 (x6_1 + 1)), (mF), H', ⟨by have := HK1.out; have := HJ22.out; have := HK3.out; have := HK4.out; have := HK5.out; have := HK6.out; omega⟩, ⟨mV HO_466000.out⟩, ⟨mV HO_466001.out⟩, ⟨mU BK464.out⟩, ⟨mU BK465.out⟩, ⟨mB⟩⟩
     ·rw [if_neg c18] at H
      have c18b0 : decide (x6_1 < 2) = false := decide_eq_false c18
      clear c18
      replace H := Option.bind_eq_some_iff.mp H
      obtain ⟨t472, A980, H⟩ := H
      replace H : (some t472) = some r := H
      have A98 := K1 A980
      clear A980
      obtain rfl := Option.some.inj H
      go_wp2_with (first | (go_at_call 14; (with_reducible refine (rotalaw08_awake.calls k1  t472 _ A98.out).mono ?_); rintro e w99 ⟨rfl, hb⟩; have n0_ := K1 (Kd.R_below (mV HO_466000.out) hb); have n1_ := K1 (Kd.R_below (mV HO_466001.out) hb); have n2_ := K1 (blk_below (mU BK464.out) hb); have n3_ := K1 (blk_below (mU BK465.out) hb); have n4_ := K1 (below_step mB hb); clear HO_466000; clear HO_466001; clear BK464; clear BK465; clear HB; have HO_466000 := n0_; have HO_466001 := n1_; have BK464 := n2_; have BK465 := n3_; have HB := n4_; clear n0_ n1_ n2_ n3_ n4_; (try clear hb)))
      go_ret
      exact ⟨mE, mB⟩
  ·rw [if_neg c4] at H
   exact absurd H (by simp)
 ·rw [if_neg c3] at H
  exact absurd H (by simp)

end Go.Proofs.Ytdlikjfffdpmiaa.QProper
