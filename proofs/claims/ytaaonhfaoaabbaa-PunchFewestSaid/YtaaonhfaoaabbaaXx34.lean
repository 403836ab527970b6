-- Written by a program (the kit's print, some functions told as proved by hand). Not trusted: Lean checks it.
import Derived.Test.YtaaonhfaoaabbaaXx0
import Derived.Test.YtaaonhfaoaabbaaWs
import Derived.Test.YtaaonhfaoaabbaaXx6
import Derived.Test.YtaaonhfaoaabbaaXx7
import Derived.Test.YtaaonhfaoaabbaaXx9
import Derived.Test.YtaaonhfaoaabbaaXx26
import Derived.Test.YtaaonhfaoaabbaaE7
namespace Go.Proofs.Ytaaonhfaoaabbaa.X
open Go.RowKit Go.Proofs.YtaaonhfaoaabbaaW.PrintWords Go.Proofs.YtaaonhfaoaabbaaW.PrintLast Go.Proofs.YtaaonhfaoaabbaaW.PrintMore
attribute [local go_sem] max2_int min2_int max_two min_two max_three min_three max_four min_four   -- for this text's walks alone
set_option linter.unusedVariables false
set_option linter.unusedSimpArgs false

/-! ### pianolalaw03_PunchFewest: function 13 -/
mutual
def pianolalaw03_PunchFewest.j0 : Nat → Int → Bool → Int → Int → Int → Int → Int → Int → Int → Int → Int → Option (Bool)
 | 0, _, _, _, _, _, _, _, _, _, _, _ => none
 | k + 1, x1, x48, x714000, x714001, x714002, x714003, x714004, x720000, x720001, x721000, x721001 => if x48 = true then (none) else ((punch_Bridge.f k x714000 x714001 x714002 x714003 x714004 3 (wrap64 (3 + (wrap64 (1 + (Int.tmod (wrap64 (x1)) 26)))))).bind fun bt723 => (pianolalaw03_PunchFewest.l0 k (wrap64 (1 + (Int.tmod (wrap64 (x1)) 26))) bt723.1 bt723.2 1 x714000 x714001 x714002 x714003 x714004 x720000 x720001 x721000 x721001 3 (wrap64 (3 + (wrap64 (1 + (Int.tmod (wrap64 (x1)) 26)))))))
def pianolalaw03_PunchFewest.l0 : Nat → Int → List (S47) → Int → Int → Int → Int → Int → Int → Int → Int → Int → Int → Int → Int → Int → Option (Bool)
 | 0, _, _, _, _, _, _, _, _, _, _, _, _, _, _, _ => none
 | k + 1, x9, x11, x12, x13, x714000, x714001, x714002, x714003, x714004, x720000, x720001, x721000, x721001, x723000, x723001 => if x13 ≤ 14 then ((pianolalaw03_divided.f k x720000 x720001 x721000 x721001 x9 x13).bind fun t728 => (if t728 = true then (if x12 = 0 then (if (x11.length : Int) = x13 then ((punch_Holds.f k x714000 x714001 x714002 x714003 x714004 x723000 x723001 x11).bind fun t729 => (pianolalaw03_PunchFewest.j2 k x9 x11 x13 (t729 != 0) x720000 x720001 x721000 x721001)) else (pianolalaw03_PunchFewest.j2 k x9 x11 x13 true x720000 x720001 x721000 x721001)) else (pianolalaw03_PunchFewest.j2 k x9 x11 x13 true x720000 x720001 x721000 x721001)) else (pianolalaw03_PunchFewest.l0 k x9 x11 x12 (wrap64 (x13 + 1)) x714000 x714001 x714002 x714003 x714004 x720000 x720001 x721000 x721001 x723000 x723001))) else (if x12 = 20 then (if (x11.length : Int) = 0 then ((pianolalaw03_works.f k).bind fun t727 => (some t727)) else (none)) else (none))
def pianolalaw03_PunchFewest.j2 : Nat → Int → List (S47) → Int → Bool → Int → Int → Int → Int → Option (Bool)
 | 0, _, _, _, _, _, _, _, _ => none
 | k + 1, x9, x11, x13, x86, x720000, x720001, x721000, x721001 => if x86 = true then (none) else (pianolalaw03_PunchFewest.l1 k x9 x11 x13 x720001 x720000 x720001 x721000 x721001)
def pianolalaw03_PunchFewest.l1 : Nat → Int → List (S47) → Int → Int → Int → Int → Int → Int → Option (Bool)
 | 0, _, _, _, _, _, _, _, _ => none
 | k + 1, x9, x11, x13, x14, x720000, x720001, x721000, x721001 => if x13 > 1 then (if 0 < (x11.length : Int) then (pianolalaw03_PunchFewest.j4 k x9 x11 x13 x14 (decide (x14 > (wrap64 (((rd_T47 x11 0).f1) - ((rd_T47 x11 0).f0))))) x720000 x720001 x721000 x721001) else (none)) else (pianolalaw03_PunchFewest.j4 k x9 x11 x13 x14 false x720000 x720001 x721000 x721001)
def pianolalaw03_PunchFewest.j4 : Nat → Int → List (S47) → Int → Int → Bool → Int → Int → Int → Int → Option (Bool)
 | 0, _, _, _, _, _, _, _, _, _ => none
 | k + 1, x9, x11, x13, x14, x103, x720000, x720001, x721000, x721001 => if x103 = true then (pianolalaw03_PunchFewest.l2 k x9 x11 x13 x14 (mx 1 x721000) x720000 x720001 x721000 x721001) else ((pianolalaw03_works.f k).bind fun t732 => (some t732))
def pianolalaw03_PunchFewest.l2 : Nat → Int → List (S47) → Int → Int → Int → Int → Int → Int → Int → Option (Bool)
 | 0, _, _, _, _, _, _, _, _, _ => none
 | k + 1, x9, x11, x13, x14, x15, x720000, x720001, x721000, x721001 => if x15 ≤ x721001 then (if (wrap64 ((wrap64 (x9 - x14)) - x15)) ≥ 1 then ((pianolalaw03_divided.f k x720000 x720001 x721000 x721001 (wrap64 ((wrap64 (x9 - x14)) - x15)) (wrap64 (x13 - 1))).bind fun t733 => (if t733 = true then (none) else (pianolalaw03_PunchFewest.l2 k x9 x11 x13 x14 (wrap64 (x15 + 1)) x720000 x720001 x721000 x721001))) else (pianolalaw03_PunchFewest.l2 k x9 x11 x13 x14 (wrap64 (x15 + 1)) x720000 x720001 x721000 x721001)) else (pianolalaw03_PunchFewest.l1 k x9 x11 x13 (wrap64 (x14 - 1)) x720000 x720001 x721000 x721001)
end
def pianolalaw03_PunchFewest.f (k : Nat) (a0_0 : Int) (a0_1 : Int) (a0_2 : Int) (a0_3 : Int) (a0_4 : Int) (a1 : Int) : Option (Bool) := (pianolalaw03_Sheet_made.f a0_0 a0_1 a0_2 a0_3 a0_4).bind fun bt708 => ((punch_Bars.f bt708.1 bt708.2.1 bt708.2.2.1 bt708.2.2.2.1 bt708.2.2.2.2).bind fun bt714 => (if bt714.2.2.2.2 = 0 then (if bt714.1 = 1 then (if bt714.2.1 > 20 then (pianolalaw03_PunchFewest.j0 k a1 true bt708.1 bt708.2.1 bt708.2.2.1 bt708.2.2.2.1 bt708.2.2.2.2 bt714.1 bt714.2.1 bt714.2.2.1 bt714.2.2.2.1) else (if bt714.2.2.2.1 > 20 then (pianolalaw03_PunchFewest.j0 k a1 true bt708.1 bt708.2.1 bt708.2.2.1 bt708.2.2.2.1 bt708.2.2.2.2 bt714.1 bt714.2.1 bt714.2.2.1 bt714.2.2.2.1) else (pianolalaw03_PunchFewest.j0 k a1 (decide (bt714.2.2.1 < 0)) bt708.1 bt708.2.1 bt708.2.2.1 bt708.2.2.2.1 bt708.2.2.2.2 bt714.1 bt714.2.1 bt714.2.2.1 bt714.2.2.2.1))) else (pianolalaw03_PunchFewest.j0 k a1 true bt708.1 bt708.2.1 bt708.2.2.1 bt708.2.2.2.1 bt708.2.2.2.2 bt714.1 bt714.2.1 bt714.2.2.1 bt714.2.2.2.1)) else (if bt714.2.2.2.2 = 20 then ((pianolalaw03_works.f k).bind fun t721 => (some t721)) else (none))))
theorem pianolalaw03_PunchFewest.mono_l : ∀ k, (∀ y0 y1 y2 y3 y4 y5 y6 y7 y8 y9 y10, LeO (pianolalaw03_PunchFewest.j0 k y0 y1 y2 y3 y4 y5 y6 y7 y8 y9 y10) (pianolalaw03_PunchFewest.j0 (k + 1) y0 y1 y2 y3 y4 y5 y6 y7 y8 y9 y10)) ∧ (∀ y0 y1 y2 y3 y4 y5 y6 y7 y8 y9 y10 y11 y12 y13 y14, LeO (pianolalaw03_PunchFewest.l0 k y0 y1 y2 y3 y4 y5 y6 y7 y8 y9 y10 y11 y12 y13 y14) (pianolalaw03_PunchFewest.l0 (k + 1) y0 y1 y2 y3 y4 y5 y6 y7 y8 y9 y10 y11 y12 y13 y14)) ∧ (∀ y0 y1 y2 y3 y4 y5 y6 y7, LeO (pianolalaw03_PunchFewest.j2 k y0 y1 y2 y3 y4 y5 y6 y7) (pianolalaw03_PunchFewest.j2 (k + 1) y0 y1 y2 y3 y4 y5 y6 y7)) ∧ (∀ y0 y1 y2 y3 y4 y5 y6 y7, LeO (pianolalaw03_PunchFewest.l1 k y0 y1 y2 y3 y4 y5 y6 y7) (pianolalaw03_PunchFewest.l1 (k + 1) y0 y1 y2 y3 y4 y5 y6 y7)) ∧ (∀ y0 y1 y2 y3 y4 y5 y6 y7 y8, LeO (pianolalaw03_PunchFewest.j4 k y0 y1 y2 y3 y4 y5 y6 y7 y8) (pianolalaw03_PunchFewest.j4 (k + 1) y0 y1 y2 y3 y4 y5 y6 y7 y8)) ∧ (∀ y0 y1 y2 y3 y4 y5 y6 y7 y8, LeO (pianolalaw03_PunchFewest.l2 k y0 y1 y2 y3 y4 y5 y6 y7 y8) (pianolalaw03_PunchFewest.l2 (k + 1) y0 y1 y2 y3 y4 y5 y6 y7 y8))
 | 0 => ⟨fun _ _ _ _ _ _ _ _ _ _ _ r h => by simp [pianolalaw03_PunchFewest.j0] at h, fun _ _ _ _ _ _ _ _ _ _ _ _ _ _ _ r h => by simp [pianolalaw03_PunchFewest.l0] at h, fun _ _ _ _ _ _ _ _ r h => by simp [pianolalaw03_PunchFewest.j2] at h, fun _ _ _ _ _ _ _ _ r h => by simp [pianolalaw03_PunchFewest.l1] at h, fun _ _ _ _ _ _ _ _ _ r h => by simp [pianolalaw03_PunchFewest.j4] at h, fun _ _ _ _ _ _ _ _ _ r h => by simp [pianolalaw03_PunchFewest.l2] at h⟩
 | k + 1 => by
  obtain ⟨ih0, ih1, ih2, ih3, ih4, ih5⟩ := pianolalaw03_PunchFewest.mono_l k
  refine ⟨?_, ?_, ?_, ?_, ?_, ?_⟩
  · intro y0 y1 y2 y3 y4 y5 y6 y7 y8 y9 y10
    unfold pianolalaw03_PunchFewest.j0
    repeat' first
    | (with_reducible exact ih0 _ _ _ _ _ _ _ _ _ _ _)
    | (with_reducible exact ih1 _ _ _ _ _ _ _ _ _ _ _ _ _ _ _)
    | (with_reducible exact ih2 _ _ _ _ _ _ _ _)
    | (with_reducible exact ih3 _ _ _ _ _ _ _ _)
    | (with_reducible exact ih4 _ _ _ _ _ _ _ _ _)
    | (with_reducible exact ih5 _ _ _ _ _ _ _ _ _)
    | (with_reducible exact pianolalaw03_divided.mono _ _ _ _ _ _ _)
    | (with_reducible exact pianolalaw03_works.mono _)
    | (with_reducible exact punch_Bridge.mono _ _ _ _ _ _ _ _)
    | (with_reducible exact punch_Holds.mono _ _ _ _ _ _ _ _ _)
    | (with_reducible exact LeO.refl _)
    | (with_reducible exact LeO.none _)
    | (with_reducible refine LeO.ite ?_ ?_)
    | (with_reducible refine LeO.bind ?_ (fun _ => ?_))
    | exact ih0 _ _ _ _ _ _ _ _ _ _ _
    | exact ih1 _ _ _ _ _ _ _ _ _ _ _ _ _ _ _
    | exact ih2 _ _ _ _ _ _ _ _
    | exact ih3 _ _ _ _ _ _ _ _
    | exact ih4 _ _ _ _ _ _ _ _ _
    | exact ih5 _ _ _ _ _ _ _ _ _
    | exact pianolalaw03_divided.mono _ _ _ _ _ _ _
    | exact pianolalaw03_works.mono _
    | exact punch_Bridge.mono _ _ _ _ _ _ _ _
    | exact punch_Holds.mono _ _ _ _ _ _ _ _ _
    | exact LeO.none _
    | refine LeO.ite ?_ ?_
    | refine LeO.bind ?_ (fun _ => ?_)
  · intro y0 y1 y2 y3 y4 y5 y6 y7 y8 y9 y10 y11 y12 y13 y14
    unfold pianolalaw03_PunchFewest.l0
    repeat' first
    | (with_reducible exact ih0 _ _ _ _ _ _ _ _ _ _ _)
    | (with_reducible exact ih1 _ _ _ _ _ _ _ _ _ _ _ _ _ _ _)
    | (with_reducible exact ih2 _ _ _ _ _ _ _ _)
    | (with_reducible exact ih3 _ _ _ _ _ _ _ _)
    | (with_reducible exact ih4 _ _ _ _ _ _ _ _ _)
    | (with_reducible exact ih5 _ _ _ _ _ _ _ _ _)
    | (with_reducible exact pianolalaw03_divided.mono _ _ _ _ _ _ _)
    | (with_reducible exact pianolalaw03_works.mono _)
    | (with_reducible exact punch_Bridge.mono _ _ _ _ _ _ _ _)
    | (with_reducible exact punch_Holds.mono _ _ _ _ _ _ _ _ _)
    | (with_reducible exact LeO.refl _)
    | (with_reducible exact LeO.none _)
    | (with_reducible refine LeO.ite ?_ ?_)
    | (with_reducible refine LeO.bind ?_ (fun _ => ?_))
    | exact ih0 _ _ _ _ _ _ _ _ _ _ _
    | exact ih1 _ _ _ _ _ _ _ _ _ _ _ _ _ _ _
    | exact ih2 _ _ _ _ _ _ _ _
    | exact ih3 _ _ _ _ _ _ _ _
    | exact ih4 _ _ _ _ _ _ _ _ _
    | exact ih5 _ _ _ _ _ _ _ _ _
    | exact pianolalaw03_divided.mono _ _ _ _ _ _ _
    | exact pianolalaw03_works.mono _
    | exact punch_Bridge.mono _ _ _ _ _ _ _ _
    | exact punch_Holds.mono _ _ _ _ _ _ _ _ _
    | exact LeO.none _
    | refine LeO.ite ?_ ?_
    | refine LeO.bind ?_ (fun _ => ?_)
  · intro y0 y1 y2 y3 y4 y5 y6 y7
    unfold pianolalaw03_PunchFewest.j2
    repeat' first
    | (with_reducible exact ih0 _ _ _ _ _ _ _ _ _ _ _)
    | (with_reducible exact ih1 _ _ _ _ _ _ _ _ _ _ _ _ _ _ _)
    | (with_reducible exact ih2 _ _ _ _ _ _ _ _)
    | (with_reducible exact ih3 _ _ _ _ _ _ _ _)
    | (with_reducible exact ih4 _ _ _ _ _ _ _ _ _)
    | (with_reducible exact ih5 _ _ _ _ _ _ _ _ _)
    | (with_reducible exact pianolalaw03_divided.mono _ _ _ _ _ _ _)
    | (with_reducible exact pianolalaw03_works.mono _)
    | (with_reducible exact punch_Bridge.mono _ _ _ _ _ _ _ _)
    | (with_reducible exact punch_Holds.mono _ _ _ _ _ _ _ _ _)
    | (with_reducible exact LeO.refl _)
    | (with_reducible exact LeO.none _)
    | (with_reducible refine LeO.ite ?_ ?_)
    | (with_reducible refine LeO.bind ?_ (fun _ => ?_))
    | exact ih0 _ _ _ _ _ _ _ _ _ _ _
    | exact ih1 _ _ _ _ _ _ _ _ _ _ _ _ _ _ _
    | exact ih2 _ _ _ _ _ _ _ _
    | exact ih3 _ _ _ _ _ _ _ _
    | exact ih4 _ _ _ _ _ _ _ _ _
    | exact ih5 _ _ _ _ _ _ _ _ _
    | exact pianolalaw03_divided.mono _ _ _ _ _ _ _
    | exact pianolalaw03_works.mono _
    | exact punch_Bridge.mono _ _ _ _ _ _ _ _
    | exact punch_Holds.mono _ _ _ _ _ _ _ _ _
    | exact LeO.none _
    | refine LeO.ite ?_ ?_
    | refine LeO.bind ?_ (fun _ => ?_)
  · intro y0 y1 y2 y3 y4 y5 y6 y7
    unfold pianolalaw03_PunchFewest.l1
    repeat' first
    | (with_reducible exact ih0 _ _ _ _ _ _ _ _ _ _ _)
    | (with_reducible exact ih1 _ _ _ _ _ _ _ _ _ _ _ _ _ _ _)
    | (with_reducible exact ih2 _ _ _ _ _ _ _ _)
    | (with_reducible exact ih3 _ _ _ _ _ _ _ _)
    | (with_reducible exact ih4 _ _ _ _ _ _ _ _ _)
    | (with_reducible exact ih5 _ _ _ _ _ _ _ _ _)
    | (with_reducible exact pianolalaw03_divided.mono _ _ _ _ _ _ _)
    | (with_reducible exact pianolalaw03_works.mono _)
    | (with_reducible exact punch_Bridge.mono _ _ _ _ _ _ _ _)
    | (with_reducible exact punch_Holds.mono _ _ _ _ _ _ _ _ _)
    | (with_reducible exact LeO.refl _)
    | (with_reducible exact LeO.none _)
    | (with_reducible refine LeO.ite ?_ ?_)
    | (with_reducible refine LeO.bind ?_ (fun _ => ?_))
    | exact ih0 _ _ _ _ _ _ _ _ _ _ _
    | exact ih1 _ _ _ _ _ _ _ _ _ _ _ _ _ _ _
    | exact ih2 _ _ _ _ _ _ _ _
    | exact ih3 _ _ _ _ _ _ _ _
    | exact ih4 _ _ _ _ _ _ _ _ _
    | exact ih5 _ _ _ _ _ _ _ _ _
    | exact pianolalaw03_divided.mono _ _ _ _ _ _ _
    | exact pianolalaw03_works.mono _
    | exact punch_Bridge.mono _ _ _ _ _ _ _ _
    | exact punch_Holds.mono _ _ _ _ _ _ _ _ _
    | exact LeO.none _
    | refine LeO.ite ?_ ?_
    | refine LeO.bind ?_ (fun _ => ?_)
  · intro y0 y1 y2 y3 y4 y5 y6 y7 y8
    unfold pianolalaw03_PunchFewest.j4
    repeat' first
    | (with_reducible exact ih0 _ _ _ _ _ _ _ _ _ _ _)
    | (with_reducible exact ih1 _ _ _ _ _ _ _ _ _ _ _ _ _ _ _)
    | (with_reducible exact ih2 _ _ _ _ _ _ _ _)
    | (with_reducible exact ih3 _ _ _ _ _ _ _ _)
    | (with_reducible exact ih4 _ _ _ _ _ _ _ _ _)
    | (with_reducible exact ih5 _ _ _ _ _ _ _ _ _)
    | (with_reducible exact pianolalaw03_divided.mono _ _ _ _ _ _ _)
    | (with_reducible exact pianolalaw03_works.mono _)
    | (with_reducible exact punch_Bridge.mono _ _ _ _ _ _ _ _)
    | (with_reducible exact punch_Holds.mono _ _ _ _ _ _ _ _ _)
    | (with_reducible exact LeO.refl _)
    | (with_reducible exact LeO.none _)
    | (with_reducible refine LeO.ite ?_ ?_)
    | (with_reducible refine LeO.bind ?_ (fun _ => ?_))
    | exact ih0 _ _ _ _ _ _ _ _ _ _ _
    | exact ih1 _ _ _ _ _ _ _ _ _ _ _ _ _ _ _
    | exact ih2 _ _ _ _ _ _ _ _
    | exact ih3 _ _ _ _ _ _ _ _
    | exact ih4 _ _ _ _ _ _ _ _ _
    | exact ih5 _ _ _ _ _ _ _ _ _
    | exact pianolalaw03_divided.mono _ _ _ _ _ _ _
    | exact pianolalaw03_works.mono _
    | exact punch_Bridge.mono _ _ _ _ _ _ _ _
    | exact punch_Holds.mono _ _ _ _ _ _ _ _ _
    | exact LeO.none _
    | refine LeO.ite ?_ ?_
    | refine LeO.bind ?_ (fun _ => ?_)
  · intro y0 y1 y2 y3 y4 y5 y6 y7 y8
    unfold pianolalaw03_PunchFewest.l2
    repeat' first
    | (with_reducible exact ih0 _ _ _ _ _ _ _ _ _ _ _)
    | (with_reducible exact ih1 _ _ _ _ _ _ _ _ _ _ _ _ _ _ _)
    | (with_reducible exact ih2 _ _ _ _ _ _ _ _)
    | (with_reducible exact ih3 _ _ _ _ _ _ _ _)
    | (with_reducible exact ih4 _ _ _ _ _ _ _ _ _)
    | (with_reducible exact ih5 _ _ _ _ _ _ _ _ _)
    | (with_reducible exact pianolalaw03_divided.mono _ _ _ _ _ _ _)
    | (with_reducible exact pianolalaw03_works.mono _)
    | (with_reducible exact punch_Bridge.mono _ _ _ _ _ _ _ _)
    | (with_reducible exact punch_Holds.mono _ _ _ _ _ _ _ _ _)
    | (with_reducible exact LeO.refl _)
    | (with_reducible exact LeO.none _)
    | (with_reducible refine LeO.ite ?_ ?_)
    | (with_reducible refine LeO.bind ?_ (fun _ => ?_))
    | exact ih0 _ _ _ _ _ _ _ _ _ _ _
    | exact ih1 _ _ _ _ _ _ _ _ _ _ _ _ _ _ _
    | exact ih2 _ _ _ _ _ _ _ _
    | exact ih3 _ _ _ _ _ _ _ _
    | exact ih4 _ _ _ _ _ _ _ _ _
    | exact ih5 _ _ _ _ _ _ _ _ _
    | exact pianolalaw03_divided.mono _ _ _ _ _ _ _
    | exact pianolalaw03_works.mono _
    | exact punch_Bridge.mono _ _ _ _ _ _ _ _
    | exact punch_Holds.mono _ _ _ _ _ _ _ _ _
    | exact LeO.none _
    | refine LeO.ite ?_ ?_
    | refine LeO.bind ?_ (fun _ => ?_)
theorem pianolalaw03_PunchFewest.mono : ∀ a0 a1 a2 a3 a4 a5 k, LeO (pianolalaw03_PunchFewest.f k a0 a1 a2 a3 a4 a5) (pianolalaw03_PunchFewest.f (k + 1) a0 a1 a2 a3 a4 a5) := by
 intro a0 a1 a2 a3 a4 a5 k
 obtain ⟨ih0, ih1, ih2, ih3, ih4, ih5⟩ := pianolalaw03_PunchFewest.mono_l k
 unfold pianolalaw03_PunchFewest.f
 repeat' first
  | (with_reducible exact ih0 _ _ _ _ _ _ _ _ _ _ _)
  | (with_reducible exact ih1 _ _ _ _ _ _ _ _ _ _ _ _ _ _ _)
  | (with_reducible exact ih2 _ _ _ _ _ _ _ _)
  | (with_reducible exact ih3 _ _ _ _ _ _ _ _)
  | (with_reducible exact ih4 _ _ _ _ _ _ _ _ _)
  | (with_reducible exact ih5 _ _ _ _ _ _ _ _ _)
  | (with_reducible exact pianolalaw03_divided.mono _ _ _ _ _ _ _)
  | (with_reducible exact pianolalaw03_works.mono _)
  | (with_reducible exact punch_Bridge.mono _ _ _ _ _ _ _ _)
  | (with_reducible exact punch_Holds.mono _ _ _ _ _ _ _ _ _)
  | (with_reducible exact LeO.refl _)
  | (with_reducible exact LeO.none _)
  | (with_reducible refine LeO.ite ?_ ?_)
  | (with_reducible refine LeO.bind ?_ (fun _ => ?_))
  | exact ih0 _ _ _ _ _ _ _ _ _ _ _
  | exact ih1 _ _ _ _ _ _ _ _ _ _ _ _ _ _ _
  | exact ih2 _ _ _ _ _ _ _ _
  | exact ih3 _ _ _ _ _ _ _ _
  | exact ih4 _ _ _ _ _ _ _ _ _
  | exact ih5 _ _ _ _ _ _ _ _ _
  | exact pianolalaw03_divided.mono _ _ _ _ _ _ _
  | exact pianolalaw03_works.mono _
  | exact punch_Bridge.mono _ _ _ _ _ _ _ _
  | exact punch_Holds.mono _ _ _ _ _ _ _ _ _
  | exact LeO.none _
  | refine LeO.ite ?_ ?_
  | refine LeO.bind ?_ (fun _ => ?_)
set_option maxHeartbeats 8000000 in
set_option maxRecDepth 100000 in
theorem pianolalaw03_PunchFewest.calls (k : Nat) (a0_0 : Int) (a0_1 : Int) (a0_2 : Int) (a0_3 : Int) (a0_4 : Int) (a1 : Int) (r : Bool) (w : World) (h : pianolalaw03_PunchFewest.f k a0_0 a0_1 a0_2 a0_3 a0_4 a1 = some r) :
 Calls Try.prog 13 #[.agg #[.int .u8 a0_0, .int .u8 a0_1, .int .u8 a0_2, .int .u8 a0_3, .int .u8 a0_4], .int .u8 a1] w fun e w' => e = .returned (.bool r) ∧ Below w.heap.size w w' := by
 have hu86 := Try.underlying86
 have hu57 := Try.underlying57
 have hu55 := Try.underlying55
 have hu47 := Try.underlying47
 have HB := Aside0.mk (Below.refl w.heap.size w)
 have H : ((pianolalaw03_Sheet_made.f a0_0 a0_1 a0_2 a0_3 a0_4).bind fun bt708 => ((punch_Bars.f bt708.1 bt708.2.1 bt708.2.2.1 bt708.2.2.2.1 bt708.2.2.2.2).bind fun bt714 => (if bt714.2.2.2.2 = 0 then (if bt714.1 = 1 then (if bt714.2.1 > 20 then (pianolalaw03_PunchFewest.j0 k a1 true bt708.1 bt708.2.1 bt708.2.2.1 bt708.2.2.2.1 bt708.2.2.2.2 bt714.1 bt714.2.1 bt714.2.2.1 bt714.2.2.2.1) else (if bt714.2.2.2.1 > 20 then (pianolalaw03_PunchFewest.j0 k a1 true bt708.1 bt708.2.1 bt708.2.2.1 bt708.2.2.2.1 bt708.2.2.2.2 bt714.1 bt714.2.1 bt714.2.2.1 bt714.2.2.2.1) else (pianolalaw03_PunchFewest.j0 k a1 (decide (bt714.2.2.1 < 0)) bt708.1 bt708.2.1 bt708.2.2.1 bt708.2.2.2.1 bt708.2.2.2.2 bt714.1 bt714.2.1 bt714.2.2.1 bt714.2.2.2.1))) else (pianolalaw03_PunchFewest.j0 k a1 true bt708.1 bt708.2.1 bt708.2.2.1 bt708.2.2.2.1 bt708.2.2.2.2 bt714.1 bt714.2.1 bt714.2.2.1 bt714.2.2.2.1)) else (if bt714.2.2.2.2 = 20 then ((pianolalaw03_works.f k).bind fun t721 => (some t721)) else (none))))) = some r := h
 clear h
 replace H := Option.bind_eq_some_iff.mp H
 obtain ⟨⟨t708, t709, t710, t711, t712⟩, A30, H⟩ := H
 replace H : ((punch_Bars.f t708 t709 t710 t711 t712).bind fun bt714 => (if bt714.2.2.2.2 = 0 then (if bt714.1 = 1 then (if bt714.2.1 > 20 then (pianolalaw03_PunchFewest.j0 k a1 true t708 t709 t710 t711 t712 bt714.1 bt714.2.1 bt714.2.2.1 bt714.2.2.2.1) else (if bt714.2.2.2.1 > 20 then (pianolalaw03_PunchFewest.j0 k a1 true t708 t709 t710 t711 t712 bt714.1 bt714.2.1 bt714.2.2.1 bt714.2.2.2.1) else (pianolalaw03_PunchFewest.j0 k a1 (decide (bt714.2.2.1 < 0)) t708 t709 t710 t711 t712 bt714.1 bt714.2.1 bt714.2.2.1 bt714.2.2.2.1))) else (pianolalaw03_PunchFewest.j0 k a1 true t708 t709 t710 t711 t712 bt714.1 bt714.2.1 bt714.2.2.1 bt714.2.2.2.1)) else (if bt714.2.2.2.2 = 20 then ((pianolalaw03_works.f k).bind fun t721 => (some t721)) else (none)))) = some r := H
 have A3 := Aside0.mk A30
 clear A30
 replace H := Option.bind_eq_some_iff.mp H
 obtain ⟨⟨t714, t715, t716, t717, t718⟩, A40, H⟩ := H
 replace H : (if t718 = 0 then (if t714 = 1 then (if t715 > 20 then (pianolalaw03_PunchFewest.j0 k a1 true t708 t709 t710 t711 t712 t714 t715 t716 t717) else (if t717 > 20 then (pianolalaw03_PunchFewest.j0 k a1 true t708 t709 t710 t711 t712 t714 t715 t716 t717) else (pianolalaw03_PunchFewest.j0 k a1 (decide (t716 < 0)) t708 t709 t710 t711 t712 t714 t715 t716 t717))) else (pianolalaw03_PunchFewest.j0 k a1 true t708 t709 t710 t711 t712 t714 t715 t716 t717)) else (if t718 = 20 then ((pianolalaw03_works.f k).bind fun t721 => (some t721)) else (none))) = some r := H
 have A4 := Aside0.mk A40
 clear A40
 by_cases c5 : t718 = 0
 · rw [if_pos c5] at H
   have c5b0 : (t718 == 0) = true := beq_iff_eq.mpr c5
   have c5b1 : (t718 != 0) = false := bne_eq_false_iff_eq.mpr c5
   clear c5
   have HC6 := Aside0.mk H
   clear H
   go_enter Try.func13, Try.ntmps13
   go_upto_region 5 with (first | ((with_reducible refine gate_dst (N := 2) rfl ?_); (try (refine gate_guard (by rfl) ?_; dsimp only)); refine box_event ?hg (N := 2) ?hd (cs := #[.int .u8 a0_0, .int .u8 a0_1, .int .u8 a0_2, .int .u8 a0_3, .int .u8 a0_4]) (t := 86) ?hr ?_; (case hd => rfl); (case hg => rfl); (case hr => first | (go_simp; done) | (go_simp; rfl)); intro gb707 hg w7 hbox hb; have BK707 := Aside0.mk (hbox); have GW707 := bgw_ HB hg; have GE707 := bgw_ HB hg; replace HB := bls_ HB hb; clear hb hbox hg; have hcz8_0 := bkc_ BK707 0 (.int .u8 a0_0) rfl; have hcz8_1 := bkc_ BK707 1 (.int .u8 a0_1) rfl; have hcz8_2 := bkc_ BK707 2 (.int .u8 a0_2) rfl; have hcz8_3 := bkc_ BK707 3 (.int .u8 a0_3) rfl; have hcz8_4 := bkc_ BK707 4 (.int .u8 a0_4) rfl; have hfz8_0 := blk_frozen BK707.out 0; have hfz8_1 := blk_frozen BK707.out 1; have hfz8_2 := blk_frozen BK707.out 2; have hfz8_3 := blk_frozen BK707.out 3; have hfz8_4 := blk_frozen BK707.out 4) | (go_at_call 42; (with_reducible refine (pianolalaw03_Sheet_made.calls a0_0 a0_1 a0_2 a0_3 a0_4 t708 t709 t710 t711 t712 _ A3.out).mono ?_); rintro e w9 ⟨rfl, hb⟩; replace BK707 := bkb_ BK707 hb; replace HB := bls_ HB hb; (try clear hb); (try clear hb2); (try clear hk); (try clear hi)) | ((with_reducible refine gate_dst (N := 5) rfl ?_); (try (refine gate_guard (by rfl) ?_; dsimp only)); refine box_event ?hg (N := 5) ?hd (cs := #[.int .i64 0, .int .i64 0, .int .i64 0, .int .i64 0, .int .i64 0]) (t := 57) ?hr ?_; (case hd => rfl); (case hg => rfl); (case hr => first | (go_simp; done) | (go_simp; rfl)); intro gb713 hg w10 hbox hb; have BK713 := Aside0.mk (hbox); have GW713 := bgw_ HB hg; have GE713 := bgw_ HB hg; have NB707_713 := bnl_ BK707 hg; have NB713_707 := bng_ BK707 hg; replace BK707 := bkb_ BK707 hb; replace HB := bls_ HB hb; clear hb hbox hg; have hnb11 := NB713_707.out; have hnc11 := NB707_713.out; have hcz12_0 := bkc_ BK713 0 (.int .i64 0) rfl; have hcz12_1 := bkc_ BK713 1 (.int .i64 0) rfl; have hcz12_2 := bkc_ BK713 2 (.int .i64 0) rfl; have hcz12_3 := bkc_ BK713 3 (.int .i64 0) rfl; have hcz12_4 := bkc_ BK713 4 (.int .i64 0) rfl; have hfz12_0 := blk_frozen BK713.out 0; have hfz12_1 := blk_frozen BK713.out 1; have hfz12_2 := blk_frozen BK713.out 2; have hfz12_3 := blk_frozen BK713.out 3; have hfz12_4 := blk_frozen BK713.out 4) | (go_at_call 30; (with_reducible refine (punch_Bars.calls t708 t709 t710 t711 t712 t714 t715 t716 t717 t718 _ A4.out).mono ?_); rintro e w13 ⟨rfl, hb⟩; have n0_ := bkb_ BK707 hb; have n1_ := Aside0.mk (blk_below (g := gb713) (o := .cells #[.int .i64 t708, .int .i64 t709, .int .i64 t710, .int .i64 t711, .int .i64 t712] 57 (0, 0)) (by (with_reducible repeat (first | refine blk_drewN ?_ _ | refine blk_drew ?_ | refine blk_alloc ?_ _)); refine blk_put (cs := #[.int .i64 t708, .int .i64 t709, .int .i64 t710, .int .i64 t711, .int .i64 0]) ?_ 4 _ rfl; (with_reducible repeat (first | refine blk_drewN ?_ _ | refine blk_drew ?_ | refine blk_alloc ?_ _)); refine blk_put (cs := #[.int .i64 t708, .int .i64 t709, .int .i64 t710, .int .i64 0, .int .i64 0]) ?_ 3 _ rfl; (with_reducible repeat (first | refine blk_drewN ?_ _ | refine blk_drew ?_ | refine blk_alloc ?_ _)); refine blk_put (cs := #[.int .i64 t708, .int .i64 t709, .int .i64 0, .int .i64 0, .int .i64 0]) ?_ 2 _ rfl; (with_reducible repeat (first | refine blk_drewN ?_ _ | refine blk_drew ?_ | refine blk_alloc ?_ _)); refine blk_put (cs := #[.int .i64 t708, .int .i64 0, .int .i64 0, .int .i64 0, .int .i64 0]) ?_ 1 _ rfl; (with_reducible repeat (first | refine blk_drewN ?_ _ | refine blk_drew ?_ | refine blk_alloc ?_ _)); refine blk_put (cs := #[.int .i64 0, .int .i64 0, .int .i64 0, .int .i64 0, .int .i64 0]) ?_ 0 _ rfl; (with_reducible repeat (first | refine blk_drewN ?_ _ | refine blk_drew ?_ | refine blk_alloc ?_ _)); exact BK713.out) hb); have n2_ := bls_ HB hb; clear BK707; clear BK713; clear HB; have BK707 := n0_; have BK713 := n1_; have HB := n2_; clear n0_ n1_ n2_; (try clear hb); (try clear hb2); (try clear hk); (try clear hi)) | ((with_reducible refine gate_dst (N := 6) rfl ?_); (try (refine gate_guard (by rfl) ?_; dsimp only)); refine box_event ?hg (N := 6) ?hd (cs := #[.int .i64 0, .int .i64 0]) (t := 55) ?hr ?_; (case hd => rfl); (case hg => rfl); (case hr => first | (go_simp; done) | (go_simp; rfl)); intro gb719 hg w14 hbox hb; have BK719 := Aside0.mk (hbox); have GW719 := bgw_ HB hg; have GE719 := bgw_ HB hg; have NB707_719 := bnl_ BK707 hg; have NB719_707 := bng_ BK707 hg; have NB713_719 := bnl_ BK713 hg; have NB719_713 := bng_ BK713 hg; replace BK707 := bkb_ BK707 hb; replace BK713 := bkb_ BK713 hb; replace HB := bls_ HB hb; clear hb hbox hg) | ((with_reducible refine gate_dst (N := 7) rfl ?_); (try (refine gate_guard (by rfl) ?_; dsimp only)); refine box_event ?hg (N := 7) ?hd (cs := #[.int .i64 0, .int .i64 0]) (t := 55) ?hr ?_; (case hd => rfl); (case hg => rfl); (case hr => first | (go_simp; done) | (go_simp; rfl)); intro gb720 hg w15 hbox hb; have BK720 := Aside0.mk (hbox); have GW720 := bgw_ HB hg; have GE720 := bgw_ HB hg; have NB707_720 := bnl_ BK707 hg; have NB720_707 := bng_ BK707 hg; have NB713_720 := bnl_ BK713 hg; have NB720_713 := bng_ BK713 hg; have NB719_720 := bnl_ BK719 hg; have NB720_719 := bng_ BK719 hg; replace BK707 := bkb_ BK707 hb; replace BK713 := bkb_ BK713 hb; replace BK719 := bkb_ BK719 hb; replace HB := bls_ HB hb; clear hb hbox hg; have hnb16 := NB719_707.out; have hnc16 := NB707_719.out; have hnb17 := NB719_713.out; have hnc17 := NB713_719.out; have hnb18 := NB719_720.out; have hnc18 := NB720_719.out; have hcz19_0 := bkc_ BK719 0 (.int .i64 0) rfl; have hcz19_1 := bkc_ BK719 1 (.int .i64 0) rfl; have hfz19_0 := blk_frozen BK719.out 0; have hfz19_1 := blk_frozen BK719.out 1; have hnb20 := NB720_707.out; have hnc20 := NB707_720.out; have hnb21 := NB720_713.out; have hnc21 := NB713_720.out; have hcz22_0 := bkc_ BK720 0 (.int .i64 0) rfl; have hcz22_1 := bkc_ BK720 1 (.int .i64 0) rfl; have hfz22_0 := blk_frozen BK720.out 0; have hfz22_1 := blk_frozen BK720.out 1))
   repeat (go_quiet (first | ((with_reducible refine gate_dst (N := 2) rfl ?_); (try (refine gate_guard (by rfl) ?_; dsimp only)); refine box_event ?hg (N := 2) ?hd (cs := #[.int .u8 a0_0, .int .u8 a0_1, .int .u8 a0_2, .int .u8 a0_3, .int .u8 a0_4]) (t := 86) ?hr ?_; (case hd => rfl); (case hg => rfl); (case hr => first | (go_simp; done) | (go_simp; rfl)); intro gb707 hg w7 hbox hb; have BK707 := Aside0.mk (hbox); have GW707 := bgw_ HB hg; have GE707 := bgw_ HB hg; replace HB := bls_ HB hb; clear hb hbox hg; have hcz8_0 := bkc_ BK707 0 (.int .u8 a0_0) rfl; have hcz8_1 := bkc_ BK707 1 (.int .u8 a0_1) rfl; have hcz8_2 := bkc_ BK707 2 (.int .u8 a0_2) rfl; have hcz8_3 := bkc_ BK707 3 (.int .u8 a0_3) rfl; have hcz8_4 := bkc_ BK707 4 (.int .u8 a0_4) rfl; have hfz8_0 := blk_frozen BK707.out 0; have hfz8_1 := blk_frozen BK707.out 1; have hfz8_2 := blk_frozen BK707.out 2; have hfz8_3 := blk_frozen BK707.out 3; have hfz8_4 := blk_frozen BK707.out 4) | (go_at_call 42; (with_reducible refine (pianolalaw03_Sheet_made.calls a0_0 a0_1 a0_2 a0_3 a0_4 t708 t709 t710 t711 t712 _ A3.out).mono ?_); rintro e w9 ⟨rfl, hb⟩; replace BK707 := bkb_ BK707 hb; replace HB := bls_ HB hb; (try clear hb); (try clear hb2); (try clear hk); (try clear hi)) | ((with_reducible refine gate_dst (N := 5) rfl ?_); (try (refine gate_guard (by rfl) ?_; dsimp only)); refine box_event ?hg (N := 5) ?hd (cs := #[.int .i64 0, .int .i64 0, .int .i64 0, .int .i64 0, .int .i64 0]) (t := 57) ?hr ?_; (case hd => rfl); (case hg => rfl); (case hr => first | (go_simp; done) | (go_simp; rfl)); intro gb713 hg w10 hbox hb; have BK713 := Aside0.mk (hbox); have GW713 := bgw_ HB hg; have GE713 := bgw_ HB hg; have NB707_713 := bnl_ BK707 hg; have NB713_707 := bng_ BK707 hg; replace BK707 := bkb_ BK707 hb; replace HB := bls_ HB hb; clear hb hbox hg; have hnb11 := NB713_707.out; have hnc11 := NB707_713.out; have hcz12_0 := bkc_ BK713 0 (.int .i64 0) rfl; have hcz12_1 := bkc_ BK713 1 (.int .i64 0) rfl; have hcz12_2 := bkc_ BK713 2 (.int .i64 0) rfl; have hcz12_3 := bkc_ BK713 3 (.int .i64 0) rfl; have hcz12_4 := bkc_ BK713 4 (.int .i64 0) rfl; have hfz12_0 := blk_frozen BK713.out 0; have hfz12_1 := blk_frozen BK713.out 1; have hfz12_2 := blk_frozen BK713.out 2; have hfz12_3 := blk_frozen BK713.out 3; have hfz12_4 := blk_frozen BK713.out 4) | (go_at_call 30; (with_reducible refine (punch_Bars.calls t708 t709 t710 t711 t712 t714 t715 t716 t717 t718 _ A4.out).mono ?_); rintro e w13 ⟨rfl, hb⟩; have n0_ := bkb_ BK707 hb; have n1_ := Aside0.mk (blk_below (g := gb713) (o := .cells #[.int .i64 t708, .int .i64 t709, .int .i64 t710, .int .i64 t711, .int .i64 t712] 57 (0, 0)) (by (with_reducible repeat (first | refine blk_drewN ?_ _ | refine blk_drew ?_ | refine blk_alloc ?_ _)); refine blk_put (cs := #[.int .i64 t708, .int .i64 t709, .int .i64 t710, .int .i64 t711, .int .i64 0]) ?_ 4 _ rfl; (with_reducible repeat (first | refine blk_drewN ?_ _ | refine blk_drew ?_ | refine blk_alloc ?_ _)); refine blk_put (cs := #[.int .i64 t708, .int .i64 t709, .int .i64 t710, .int .i64 0, .int .i64 0]) ?_ 3 _ rfl; (with_reducible repeat (first | refine blk_drewN ?_ _ | refine blk_drew ?_ | refine blk_alloc ?_ _)); refine blk_put (cs := #[.int .i64 t708, .int .i64 t709, .int .i64 0, .int .i64 0, .int .i64 0]) ?_ 2 _ rfl; (with_reducible repeat (first | refine blk_drewN ?_ _ | refine blk_drew ?_ | refine blk_alloc ?_ _)); refine blk_put (cs := #[.int .i64 t708, .int .i64 0, .int .i64 0, .int .i64 0, .int .i64 0]) ?_ 1 _ rfl; (with_reducible repeat (first | refine blk_drewN ?_ _ | refine blk_drew ?_ | refine blk_alloc ?_ _)); refine blk_put (cs := #[.int .i64 0, .int .i64 0, .int .i64 0, .int .i64 0, .int .i64 0]) ?_ 0 _ rfl; (with_reducible repeat (first | refine blk_drewN ?_ _ | refine blk_drew ?_ | refine blk_alloc ?_ _)); exact BK713.out) hb); have n2_ := bls_ HB hb; clear BK707; clear BK713; clear HB; have BK707 := n0_; have BK713 := n1_; have HB := n2_; clear n0_ n1_ n2_; (try clear hb); (try clear hb2); (try clear hk); (try clear hi)) | ((with_reducible refine gate_dst (N := 6) rfl ?_); (try (refine gate_guard (by rfl) ?_; dsimp only)); refine box_event ?hg (N := 6) ?hd (cs := #[.int .i64 0, .int .i64 0]) (t := 55) ?hr ?_; (case hd => rfl); (case hg => rfl); (case hr => first | (go_simp; done) | (go_simp; rfl)); intro gb719 hg w14 hbox hb; have BK719 := Aside0.mk (hbox); have GW719 := bgw_ HB hg; have GE719 := bgw_ HB hg; have NB707_719 := bnl_ BK707 hg; have NB719_707 := bng_ BK707 hg; have NB713_719 := bnl_ BK713 hg; have NB719_713 := bng_ BK713 hg; replace BK707 := bkb_ BK707 hb; replace BK713 := bkb_ BK713 hb; replace HB := bls_ HB hb; clear hb hbox hg) | ((with_reducible refine gate_dst (N := 7) rfl ?_); (try (refine gate_guard (by rfl) ?_; dsimp only)); refine box_event ?hg (N := 7) ?hd (cs := #[.int .i64 0, .int .i64 0]) (t := 55) ?hr ?_; (case hd => rfl); (case hg => rfl); (case hr => first | (go_simp; done) | (go_simp; rfl)); intro gb720 hg w15 hbox hb; have BK720 := Aside0.mk (hbox); have GW720 := bgw_ HB hg; have GE720 := bgw_ HB hg; have NB707_720 := bnl_ BK707 hg; have NB720_707 := bng_ BK707 hg; have NB713_720 := bnl_ BK713 hg; have NB720_713 := bng_ BK713 hg; have NB719_720 := bnl_ BK719 hg; have NB720_719 := bng_ BK719 hg; replace BK707 := bkb_ BK707 hb; replace BK713 := bkb_ BK713 hb; replace BK719 := bkb_ BK719 hb; replace HB := bls_ HB hb; clear hb hbox hg; have hnb16 := NB719_707.out; have hnc16 := NB707_719.out; have hnb17 := NB719_713.out; have hnc17 := NB713_719.out; have hnb18 := NB719_720.out; have hnc18 := NB720_719.out; have hcz19_0 := bkc_ BK719 0 (.int .i64 0) rfl; have hcz19_1 := bkc_ BK719 1 (.int .i64 0) rfl; have hfz19_0 := blk_frozen BK719.out 0; have hfz19_1 := blk_frozen BK719.out 1; have hnb20 := NB720_707.out; have hnc20 := NB707_720.out; have hnb21 := NB720_713.out; have hnc21 := NB713_720.out; have hcz22_0 := bkc_ BK720 0 (.int .i64 0) rfl; have hcz22_1 := bkc_ BK720 1 (.int .i64 0) rfl; have hfz22_0 := blk_frozen BK720.out 0; have hfz22_1 := blk_frozen BK720.out 1)); go_upto_region 5 with (first | ((with_reducible refine gate_dst (N := 2) rfl ?_); (try (refine gate_guard (by rfl) ?_; dsimp only)); refine box_event ?hg (N := 2) ?hd (cs := #[.int .u8 a0_0, .int .u8 a0_1, .int .u8 a0_2, .int .u8 a0_3, .int .u8 a0_4]) (t := 86) ?hr ?_; (case hd => rfl); (case hg => rfl); (case hr => first | (go_simp; done) | (go_simp; rfl)); intro gb707 hg w7 hbox hb; have BK707 := Aside0.mk (hbox); have GW707 := bgw_ HB hg; have GE707 := bgw_ HB hg; replace HB := bls_ HB hb; clear hb hbox hg; have hcz8_0 := bkc_ BK707 0 (.int .u8 a0_0) rfl; have hcz8_1 := bkc_ BK707 1 (.int .u8 a0_1) rfl; have hcz8_2 := bkc_ BK707 2 (.int .u8 a0_2) rfl; have hcz8_3 := bkc_ BK707 3 (.int .u8 a0_3) rfl; have hcz8_4 := bkc_ BK707 4 (.int .u8 a0_4) rfl; have hfz8_0 := blk_frozen BK707.out 0; have hfz8_1 := blk_frozen BK707.out 1; have hfz8_2 := blk_frozen BK707.out 2; have hfz8_3 := blk_frozen BK707.out 3; have hfz8_4 := blk_frozen BK707.out 4) | (go_at_call 42; (with_reducible refine (pianolalaw03_Sheet_made.calls a0_0 a0_1 a0_2 a0_3 a0_4 t708 t709 t710 t711 t712 _ A3.out).mono ?_); rintro e w9 ⟨rfl, hb⟩; replace BK707 := bkb_ BK707 hb; replace HB := bls_ HB hb; (try clear hb); (try clear hb2); (try clear hk); (try clear hi)) | ((with_reducible refine gate_dst (N := 5) rfl ?_); (try (refine gate_guard (by rfl) ?_; dsimp only)); refine box_event ?hg (N := 5) ?hd (cs := #[.int .i64 0, .int .i64 0, .int .i64 0, .int .i64 0, .int .i64 0]) (t := 57) ?hr ?_; (case hd => rfl); (case hg => rfl); (case hr => first | (go_simp; done) | (go_simp; rfl)); intro gb713 hg w10 hbox hb; have BK713 := Aside0.mk (hbox); have GW713 := bgw_ HB hg; have GE713 := bgw_ HB hg; have NB707_713 := bnl_ BK707 hg; have NB713_707 := bng_ BK707 hg; replace BK707 := bkb_ BK707 hb; replace HB := bls_ HB hb; clear hb hbox hg; have hnb11 := NB713_707.out; have hnc11 := NB707_713.out; have hcz12_0 := bkc_ BK713 0 (.int .i64 0) rfl; have hcz12_1 := bkc_ BK713 1 (.int .i64 0) rfl; have hcz12_2 := bkc_ BK713 2 (.int .i64 0) rfl; have hcz12_3 := bkc_ BK713 3 (.int .i64 0) rfl; have hcz12_4 := bkc_ BK713 4 (.int .i64 0) rfl; have hfz12_0 := blk_frozen BK713.out 0; have hfz12_1 := blk_frozen BK713.out 1; have hfz12_2 := blk_frozen BK713.out 2; have hfz12_3 := blk_frozen BK713.out 3; have hfz12_4 := blk_frozen BK713.out 4) | (go_at_call 30; (with_reducible refine (punch_Bars.calls t708 t709 t710 t711 t712 t714 t715 t716 t717 t718 _ A4.out).mono ?_); rintro e w13 ⟨rfl, hb⟩; have n0_ := bkb_ BK707 hb; have n1_ := Aside0.mk (blk_below (g := gb713) (o := .cells #[.int .i64 t708, .int .i64 t709, .int .i64 t710, .int .i64 t711, .int .i64 t712] 57 (0, 0)) (by (with_reducible repeat (first | refine blk_drewN ?_ _ | refine blk_drew ?_ | refine blk_alloc ?_ _)); refine blk_put (cs := #[.int .i64 t708, .int .i64 t709, .int .i64 t710, .int .i64 t711, .int .i64 0]) ?_ 4 _ rfl; (with_reducible repeat (first | refine blk_drewN ?_ _ | refine blk_drew ?_ | refine blk_alloc ?_ _)); refine blk_put (cs := #[.int .i64 t708, .int .i64 t709, .int .i64 t710, .int .i64 0, .int .i64 0]) ?_ 3 _ rfl; (with_reducible repeat (first | refine blk_drewN ?_ _ | refine blk_drew ?_ | refine blk_alloc ?_ _)); refine blk_put (cs := #[.int .i64 t708, .int .i64 t709, .int .i64 0, .int .i64 0, .int .i64 0]) ?_ 2 _ rfl; (with_reducible repeat (first | refine blk_drewN ?_ _ | refine blk_drew ?_ | refine blk_alloc ?_ _)); refine blk_put (cs := #[.int .i64 t708, .int .i64 0, .int .i64 0, .int .i64 0, .int .i64 0]) ?_ 1 _ rfl; (with_reducible repeat (first | refine blk_drewN ?_ _ | refine blk_drew ?_ | refine blk_alloc ?_ _)); refine blk_put (cs := #[.int .i64 0, .int .i64 0, .int .i64 0, .int .i64 0, .int .i64 0]) ?_ 0 _ rfl; (with_reducible repeat (first | refine blk_drewN ?_ _ | refine blk_drew ?_ | refine blk_alloc ?_ _)); exact BK713.out) hb); have n2_ := bls_ HB hb; clear BK707; clear BK713; clear HB; have BK707 := n0_; have BK713 := n1_; have HB := n2_; clear n0_ n1_ n2_; (try clear hb); (try clear hb2); (try clear hk); (try clear hi)) | ((with_reducible refine gate_dst (N := 6) rfl ?_); (try (refine gate_guard (by rfl) ?_; dsimp only)); refine box_event ?hg (N := 6) ?hd (cs := #[.int .i64 0, .int .i64 0]) (t := 55) ?hr ?_; (case hd => rfl); (case hg => rfl); (case hr => first | (go_simp; done) | (go_simp; rfl)); intro gb719 hg w14 hbox hb; have BK719 := Aside0.mk (hbox); have GW719 := bgw_ HB hg; have GE719 := bgw_ HB hg; have NB707_719 := bnl_ BK707 hg; have NB719_707 := bng_ BK707 hg; have NB713_719 := bnl_ BK713 hg; have NB719_713 := bng_ BK713 hg; replace BK707 := bkb_ BK707 hb; replace BK713 := bkb_ BK713 hb; replace HB := bls_ HB hb; clear hb hbox hg) | ((with_reducible refine gate_dst (N := 7) rfl ?_); (try (refine gate_guard (by rfl) ?_; dsimp only)); refine box_event ?hg (N := 7) ?hd (cs := #[.int .i64 0, .int .i64 0]) (t := 55) ?hr ?_; (case hd => rfl); (case hg => rfl); (case hr => first | (go_simp; done) | (go_simp; rfl)); intro gb720 hg w15 hbox hb; have BK720 := Aside0.mk (hbox); have GW720 := bgw_ HB hg; have GE720 := bgw_ HB hg; have NB707_720 := bnl_ BK707 hg; have NB720_707 := bng_ BK707 hg; have NB713_720 := bnl_ BK713 hg; have NB720_713 := bng_ BK713 hg; have NB719_720 := bnl_ BK719 hg; have NB720_719 := bng_ BK719 hg; replace BK707 := bkb_ BK707 hb; replace BK713 := bkb_ BK713 hb; replace BK719 := bkb_ BK719 hb; replace HB := bls_ HB hb; clear hb hbox hg; have hnb16 := NB719_707.out; have hnc16 := NB707_719.out; have hnb17 := NB719_713.out; have hnc17 := NB713_719.out; have hnb18 := NB719_720.out; have hnc18 := NB720_719.out; have hcz19_0 := bkc_ BK719 0 (.int .i64 0) rfl; have hcz19_1 := bkc_ BK719 1 (.int .i64 0) rfl; have hfz19_0 := blk_frozen BK719.out 0; have hfz19_1 := blk_frozen BK719.out 1; have hnb20 := NB720_707.out; have hnc20 := NB707_720.out; have hnb21 := NB720_713.out; have hnc21 := NB713_720.out; have hcz22_0 := bkc_ BK720 0 (.int .i64 0) rfl; have hcz22_1 := bkc_ BK720 1 (.int .i64 0) rfl; have hfz22_0 := blk_frozen BK720.out 0; have hfz22_1 := blk_frozen BK720.out 1)))
   (try simp only [Act.put, List.setIfInBounds_toArray, List.set_cons_zero, List.set_cons_succ])
   go_cut [48] (fun v48 wc => ∃ (kq : Nat) (x48_5 : Bool), v48 = .bool x48_5 ∧ Aside0 (pianolalaw03_PunchFewest.j0 kq a1 x48_5 t708 t709 t710 t711 t712 t714 t715 t716 t717 = some r) ∧ Aside0 (kq ≤ k) ∧ Aside0 (wc.heap[gb707]? = some (.cells #[.int .u8 a0_0, .int .u8 a0_1, .int .u8 a0_2, .int .u8 a0_3, .int .u8 a0_4] 86 (0, 0))) ∧ Aside0 (wc.heap[gb713]? = some (.cells #[.int .i64 t708, .int .i64 t709, .int .i64 t710, .int .i64 t711, .int .i64 t712] 57 (0, 0))) ∧ Aside0 (wc.heap[gb719]? = some (.cells #[.int .i64 t714, .int .i64 t715] 55 (0, 0))) ∧ Aside0 (wc.heap[gb720]? = some (.cells #[.int .i64 t716, .int .i64 t717] 55 (0, 0))) ∧ Aside0 (Below w.heap.size w wc))
   case first =>
    have H := HC6.out
    clear HC6
    by_cases c23 : t714 = 1
    · rw [if_pos c23] at H
      have c23b0 : (t714 == 1) = true := beq_iff_eq.mpr c23
      have c23b1 : (t714 != 1) = false := bne_eq_false_iff_eq.mpr c23
      clear c23
      (first | rw [c23b0] | (simp only [i64_w, i32_w]; rw [c23b0]) | skip)
      by_cases c24 : t715 > 20
      · rw [if_pos c24] at H
        have c24b0 : decide (20 < t715) = true := decide_eq_true c24
        clear c24
        have H' := Aside0.mk H
        clear H
        have hnb25 := NB719_707.out
        have hnc25 := NB707_719.out
        have hnb26 := NB719_713.out
        have hnc26 := NB713_719.out
        have hnb27 := NB719_720.out
        have hnc27 := NB720_719.out
        have hcz28_0 := bkc_ BK719 0 (.int .i64 0) rfl
        have hcz28_1 := bkc_ BK719 1 (.int .i64 0) rfl
        have hfz28_0 := blk_frozen BK719.out 0
        have hfz28_1 := blk_frozen BK719.out 1
        go_wp2
        repeat (go_quiet (fail); try go_wp2)
        go_meet
        case rel => exact ⟨_, (true), (by first | rfl | (simp; done) | (simp [*]; done)), H', ⟨by first | omega | exact Nat.le_refl _⟩, bkx_ BK707, bkx_ BK713, ⟨by (with_reducible repeat (first | refine blk_drewN ?_ _ | refine blk_drew ?_ | refine blk_alloc ?_ _)); refine blk_far ?_ NB719_720.out _; (with_reducible repeat (first | refine blk_drewN ?_ _ | refine blk_drew ?_ | refine blk_alloc ?_ _)); refine blk_far ?_ NB719_720.out _; (with_reducible repeat (first | refine blk_drewN ?_ _ | refine blk_drew ?_ | refine blk_alloc ?_ _)); refine blk_put (cs := #[.int .i64 t714, .int .i64 0]) ?_ 1 _ rfl; (with_reducible repeat (first | refine blk_drewN ?_ _ | refine blk_drew ?_ | refine blk_alloc ?_ _)); refine blk_put (cs := #[.int .i64 0, .int .i64 0]) ?_ 0 _ rfl; (with_reducible repeat (first | refine blk_drewN ?_ _ | refine blk_drew ?_ | refine blk_alloc ?_ _)); exact BK719.out⟩, ⟨by (with_reducible repeat (first | refine blk_drewN ?_ _ | refine blk_drew ?_ | refine blk_alloc ?_ _)); refine blk_put (cs := #[.int .i64 t716, .int .i64 0]) ?_ 1 _ rfl; (with_reducible repeat (first | refine blk_drewN ?_ _ | refine blk_drew ?_ | refine blk_alloc ?_ _)); refine blk_put (cs := #[.int .i64 0, .int .i64 0]) ?_ 0 _ rfl; (with_reducible repeat (first | refine blk_drewN ?_ _ | refine blk_drew ?_ | refine blk_alloc ?_ _)); refine blk_far ?_ NB720_719.out _; (with_reducible repeat (first | refine blk_drewN ?_ _ | refine blk_drew ?_ | refine blk_alloc ?_ _)); refine blk_far ?_ NB720_719.out _; (with_reducible repeat (first | refine blk_drewN ?_ _ | refine blk_drew ?_ | refine blk_alloc ?_ _)); exact BK720.out⟩, blx_ HB⟩
      · rw [if_neg c24] at H
        have c24b0 : decide (20 < t715) = false := decide_eq_false c24
        clear c24
        by_cases c29 : t717 > 20
        · rw [if_pos c29] at H
          have c29b0 : decide (20 < t717) = true := decide_eq_true c29
          clear c29
          have H' := Aside0.mk H
          clear H
          have hnb30 := NB719_707.out
          have hnc30 := NB707_719.out
          have hnb31 := NB719_713.out
          have hnc31 := NB713_719.out
          have hnb32 := NB719_720.out
          have hnc32 := NB720_719.out
          have hcz33_0 := bkc_ BK719 0 (.int .i64 0) rfl
          have hcz33_1 := bkc_ BK719 1 (.int .i64 0) rfl
          have hfz33_0 := blk_frozen BK719.out 0
          have hfz33_1 := blk_frozen BK719.out 1
          have hnb34 := NB720_707.out
          have hnc34 := NB707_720.out
          have hnb35 := NB720_713.out
          have hnc35 := NB713_720.out
          have hcz36_0 := bkc_ BK720 0 (.int .i64 0) rfl
          have hcz36_1 := bkc_ BK720 1 (.int .i64 0) rfl
          have hfz36_0 := blk_frozen BK720.out 0
          have hfz36_1 := blk_frozen BK720.out 1
          go_wp2
          repeat (go_quiet (fail); try go_wp2)
          go_meet
          case rel => exact ⟨_, (true), (by first | rfl | (simp; done) | (simp [*]; done)), H', ⟨by first | omega | exact Nat.le_refl _⟩, bkx_ BK707, bkx_ BK713, ⟨by (with_reducible repeat (first | refine blk_drewN ?_ _ | refine blk_drew ?_ | refine blk_alloc ?_ _)); refine blk_far ?_ NB719_720.out _; (with_reducible repeat (first | refine blk_drewN ?_ _ | refine blk_drew ?_ | refine blk_alloc ?_ _)); refine blk_far ?_ NB719_720.out _; (with_reducible repeat (first | refine blk_drewN ?_ _ | refine blk_drew ?_ | refine blk_alloc ?_ _)); refine blk_put (cs := #[.int .i64 t714, .int .i64 0]) ?_ 1 _ rfl; (with_reducible repeat (first | refine blk_drewN ?_ _ | refine blk_drew ?_ | refine blk_alloc ?_ _)); refine blk_put (cs := #[.int .i64 0, .int .i64 0]) ?_ 0 _ rfl; (with_reducible repeat (first | refine blk_drewN ?_ _ | refine blk_drew ?_ | refine blk_alloc ?_ _)); exact BK719.out⟩, ⟨by (with_reducible repeat (first | refine blk_drewN ?_ _ | refine blk_drew ?_ | refine blk_alloc ?_ _)); refine blk_put (cs := #[.int .i64 t716, .int .i64 0]) ?_ 1 _ rfl; (with_reducible repeat (first | refine blk_drewN ?_ _ | refine blk_drew ?_ | refine blk_alloc ?_ _)); refine blk_put (cs := #[.int .i64 0, .int .i64 0]) ?_ 0 _ rfl; (with_reducible repeat (first | refine blk_drewN ?_ _ | refine blk_drew ?_ | refine blk_alloc ?_ _)); refine blk_far ?_ NB720_719.out _; (with_reducible repeat (first | refine blk_drewN ?_ _ | refine blk_drew ?_ | refine blk_alloc ?_ _)); refine blk_far ?_ NB720_719.out _; (with_reducible repeat (first | refine blk_drewN ?_ _ | refine blk_drew ?_ | refine blk_alloc ?_ _)); exact BK720.out⟩, blx_ HB⟩
        · rw [if_neg c29] at H
          have c29b0 : decide (20 < t717) = false := decide_eq_false c29
          clear c29
          have H' := Aside0.mk H
          clear H
          have hnb37 := NB719_707.out
          have hnc37 := NB707_719.out
          have hnb38 := NB719_713.out
          have hnc38 := NB713_719.out
          have hnb39 := NB719_720.out
          have hnc39 := NB720_719.out
          have hcz40_0 := bkc_ BK719 0 (.int .i64 0) rfl
          have hcz40_1 := bkc_ BK719 1 (.int .i64 0) rfl
          have hfz40_0 := blk_frozen BK719.out 0
          have hfz40_1 := blk_frozen BK719.out 1
          have hnb41 := NB720_707.out
          have hnc41 := NB707_720.out
          have hnb42 := NB720_713.out
          have hnc42 := NB713_720.out
          have hcz43_0 := bkc_ BK720 0 (.int .i64 0) rfl
          have hcz43_1 := bkc_ BK720 1 (.int .i64 0) rfl
          have hfz43_0 := blk_frozen BK720.out 0
          have hfz43_1 := blk_frozen BK720.out 1
          go_wp2
          repeat (go_quiet (fail); try go_wp2)
          go_meet
          case rel => exact ⟨_, (decide (t716 < 0)), (by first | rfl | (simp; done) | (simp [*]; done)), H', ⟨by first | omega | exact Nat.le_refl _⟩, bkx_ BK707, bkx_ BK713, ⟨by (with_reducible repeat (first | refine blk_drewN ?_ _ | refine blk_drew ?_ | refine blk_alloc ?_ _)); refine blk_far ?_ NB719_720.out _; (with_reducible repeat (first | refine blk_drewN ?_ _ | refine blk_drew ?_ | refine blk_alloc ?_ _)); refine blk_far ?_ NB719_720.out _; (with_reducible repeat (first | refine blk_drewN ?_ _ | refine blk_drew ?_ | refine blk_alloc ?_ _)); refine blk_put (cs := #[.int .i64 t714, .int .i64 0]) ?_ 1 _ rfl; (with_reducible repeat (first | refine blk_drewN ?_ _ | refine blk_drew ?_ | refine blk_alloc ?_ _)); refine blk_put (cs := #[.int .i64 0, .int .i64 0]) ?_ 0 _ rfl; (with_reducible repeat (first | refine blk_drewN ?_ _ | refine blk_drew ?_ | refine blk_alloc ?_ _)); exact BK719.out⟩, ⟨by (with_reducible repeat (first | refine blk_drewN ?_ _ | refine blk_drew ?_ | refine blk_alloc ?_ _)); refine blk_put (cs := #[.int .i64 t716, .int .i64 0]) ?_ 1 _ rfl; (with_reducible repeat (first | refine blk_drewN ?_ _ | refine blk_drew ?_ | refine blk_alloc ?_ _)); refine blk_put (cs := #[.int .i64 0, .int .i64 0]) ?_ 0 _ rfl; (with_reducible repeat (first | refine blk_drewN ?_ _ | refine blk_drew ?_ | refine blk_alloc ?_ _)); refine blk_far ?_ NB720_719.out _; (with_reducible repeat (first | refine blk_drewN ?_ _ | refine blk_drew ?_ | refine blk_alloc ?_ _)); refine blk_far ?_ NB720_719.out _; (with_reducible repeat (first | refine blk_drewN ?_ _ | refine blk_drew ?_ | refine blk_alloc ?_ _)); exact BK720.out⟩, blx_ HB⟩
    · rw [if_neg c23] at H
      have c23b0 : (t714 == 1) = false := beq_eq_false_iff_ne.mpr c23
      have c23b1 : (t714 != 1) = true := bne_iff_ne.mpr c23
      (first | rw [c23b0] | (simp only [i64_w, i32_w]; rw [c23b0]) | skip)
      have H' := Aside0.mk H
      clear H
      have hnb44 := NB719_707.out
      have hnc44 := NB707_719.out
      have hnb45 := NB719_713.out
      have hnc45 := NB713_719.out
      have hnb46 := NB719_720.out
      have hnc46 := NB720_719.out
      have hcz47_0 := bkc_ BK719 0 (.int .i64 0) rfl
      have hcz47_1 := bkc_ BK719 1 (.int .i64 0) rfl
      have hfz47_0 := blk_frozen BK719.out 0
      have hfz47_1 := blk_frozen BK719.out 1
      go_wp2
      repeat (go_quiet (fail); try go_wp2)
      go_meet
      case rel => exact ⟨_, (true), (by first | rfl | (simp; done) | (simp [*]; done)), H', ⟨by first | omega | exact Nat.le_refl _⟩, bkx_ BK707, bkx_ BK713, ⟨by (with_reducible repeat (first | refine blk_drewN ?_ _ | refine blk_drew ?_ | refine blk_alloc ?_ _)); refine blk_far ?_ NB719_720.out _; (with_reducible repeat (first | refine blk_drewN ?_ _ | refine blk_drew ?_ | refine blk_alloc ?_ _)); refine blk_far ?_ NB719_720.out _; (with_reducible repeat (first | refine blk_drewN ?_ _ | refine blk_drew ?_ | refine blk_alloc ?_ _)); refine blk_put (cs := #[.int .i64 t714, .int .i64 0]) ?_ 1 _ rfl; (with_reducible repeat (first | refine blk_drewN ?_ _ | refine blk_drew ?_ | refine blk_alloc ?_ _)); refine blk_put (cs := #[.int .i64 0, .int .i64 0]) ?_ 0 _ rfl; (with_reducible repeat (first | refine blk_drewN ?_ _ | refine blk_drew ?_ | refine blk_alloc ?_ _)); exact BK719.out⟩, ⟨by (with_reducible repeat (first | refine blk_drewN ?_ _ | refine blk_drew ?_ | refine blk_alloc ?_ _)); refine blk_put (cs := #[.int .i64 t716, .int .i64 0]) ?_ 1 _ rfl; (with_reducible repeat (first | refine blk_drewN ?_ _ | refine blk_drew ?_ | refine blk_alloc ?_ _)); refine blk_put (cs := #[.int .i64 0, .int .i64 0]) ?_ 0 _ rfl; (with_reducible repeat (first | refine blk_drewN ?_ _ | refine blk_drew ?_ | refine blk_alloc ?_ _)); refine blk_far ?_ NB720_719.out _; (with_reducible repeat (first | refine blk_drewN ?_ _ | refine blk_drew ?_ | refine blk_alloc ?_ _)); refine blk_far ?_ NB720_719.out _; (with_reducible repeat (first | refine blk_drewN ?_ _ | refine blk_drew ?_ | refine blk_alloc ?_ _)); exact BK720.out⟩, blx_ HB⟩
   case rest =>
    clear HC6
    try clear c1
    try clear c2
    try clear p2
    try clear c3
    try clear c4
    try clear c5
    try clear c5b0
    try clear c5b1
    try clear c11
    try clear c13
    try clear c16
    try clear c17
    try clear c18
    try clear c20
    try clear c21
    try clear c23
    try clear c23b0
    try clear c23b1
    try clear c24
    try clear c24b0
    try clear c25
    try clear c26
    try clear c27
    try clear c29
    try clear c29b0
    try clear c30
    try clear c31
    try clear c32
    try clear c34
    try clear c35
    try clear c37
    try clear c38
    try clear c39
    try clear c41
    try clear c42
    try clear c44
    try clear c45
    try clear c46
    try clear hcz12_0
    try clear hcz12_1
    try clear hcz12_2
    try clear hcz12_3
    try clear hcz12_4
    try clear hcz19_0
    try clear hcz19_1
    try clear hcz22_0
    try clear hcz22_1
    try clear hcz28_0
    try clear hcz28_1
    try clear hcz33_0
    try clear hcz33_1
    try clear hcz36_0
    try clear hcz36_1
    try clear hcz40_0
    try clear hcz40_1
    try clear hcz43_0
    try clear hcz43_1
    try clear hcz47_0
    try clear hcz47_1
    try clear hcz8_0
    try clear hcz8_1
    try clear hcz8_2
    try clear hcz8_3
    try clear hcz8_4
    try clear hfz12_0
    try clear hfz12_1
    try clear hfz12_2
    try clear hfz12_3
    try clear hfz12_4
    try clear hfz19_0
    try clear hfz19_1
    try clear hfz22_0
    try clear hfz22_1
    try clear hfz28_0
    try clear hfz28_1
    try clear hfz33_0
    try clear hfz33_1
    try clear hfz36_0
    try clear hfz36_1
    try clear hfz40_0
    try clear hfz40_1
    try clear hfz43_0
    try clear hfz43_1
    try clear hfz47_0
    try clear hfz47_1
    try clear hfz8_0
    try clear hfz8_1
    try clear hfz8_2
    try clear hfz8_3
    try clear hfz8_4
    obtain ⟨kq, x48_5, rfl, HA, HJ5, BK707, BK713, BK719, BK720, HB⟩ := hcut
    cases kq with
    | zero => exact absurd HA.out (by simp [pianolalaw03_PunchFewest.j0])
    | succ kj5 =>
     have H := HA.out
     clear HA
     simp only [pianolalaw03_PunchFewest.j0] at H
     by_cases c48 : x48_5 = true
     · subst c48
       have H1 : (none) = some r := by rw [if_pos rfl] at H; exact H
       clear H
       have H := H1
       clear H1
       exact absurd H (by simp)
     · replace c48 := Bool.eq_false_iff.mpr c48
       subst c48
       have H1 : ((punch_Bridge.f kj5 t708 t709 t710 t711 t712 3 (wrap64 (3 + (wrap64 (1 + (Int.tmod (wrap64 (a1)) 26)))))).bind fun bt723 => (pianolalaw03_PunchFewest.l0 kj5 (wrap64 (1 + (Int.tmod (wrap64 (a1)) 26))) bt723.1 bt723.2 1 t708 t709 t710 t711 t712 t714 t715 t716 t717 3 (wrap64 (3 + (wrap64 (1 + (Int.tmod (wrap64 (a1)) 26))))))) = some r := by rw [if_neg (show ¬ (false = true) by decide)] at H; exact H
       clear H
       have H := H1
       clear H1
       replace H := Option.bind_eq_some_iff.mp H
       obtain ⟨⟨t723, t726⟩, A490, H⟩ := H
       replace H : (pianolalaw03_PunchFewest.l0 kj5 (wrap64 (1 + (Int.tmod (wrap64 (a1)) 26))) t723 t726 1 t708 t709 t710 t711 t712 t714 t715 t716 t717 3 (wrap64 (3 + (wrap64 (1 + (Int.tmod (wrap64 (a1)) 26)))))) = some r := H
       have A49 := Aside0.mk A490
       clear A490
       have H' := Aside0.mk H
       clear H
       go_wp2_with (first | ((with_reducible refine gate_dst (N := 10) rfl ?_); (try (refine gate_guard (by rfl) ?_; dsimp only)); refine box_event ?hg (N := 10) ?hd (cs := #[.int .i64 0, .int .i64 0]) (t := 47) ?hr ?_; (case hd => rfl); (case hg => rfl); (case hr => first | (go_simp; done) | (go_simp; rfl)); intro gb722 hg w50 hbox hb; have BK722 := Aside0.mk (hbox); have GW722 := bgw_ HB hg; have GE722 := bgw_ HB hg; have NB707_722 := bnl_ BK707 hg; have NB722_707 := bng_ BK707 hg; have NB713_722 := bnl_ BK713 hg; have NB722_713 := bng_ BK713 hg; have NB719_722 := bnl_ BK719 hg; have NB722_719 := bng_ BK719 hg; have NB720_722 := bnl_ BK720 hg; have NB722_720 := bng_ BK720 hg; replace BK707 := bkb_ BK707 hb; replace BK713 := bkb_ BK713 hb; replace BK719 := bkb_ BK719 hb; replace BK720 := bkb_ BK720 hb; replace HB := bls_ HB hb; clear hb hbox hg; have hnb51 := NB722_707.out; have hnc51 := NB707_722.out; have hnb52 := NB722_713.out; have hnc52 := NB713_722.out; have hnb53 := NB722_719.out; have hnc53 := NB719_722.out; have hnb54 := NB722_720.out; have hnc54 := NB720_722.out; have hcz55_0 := bkc_ BK722 0 (.int .i64 0) rfl; have hcz55_1 := bkc_ BK722 1 (.int .i64 0) rfl; have hfz55_0 := blk_frozen BK722.out 0; have hfz55_1 := blk_frozen BK722.out 1; have hnb56 := NB713_707.out; have hnc56 := NB707_713.out; have hnb57 := NB713_719.out; have hnc57 := NB719_713.out; have hnb58 := NB713_720.out; have hnc58 := NB720_713.out; have hcz59_0 := bkc_ BK713 0 (.int .i64 t708) rfl; have hcz59_1 := bkc_ BK713 1 (.int .i64 t709) rfl; have hcz59_2 := bkc_ BK713 2 (.int .i64 t710) rfl; have hcz59_3 := bkc_ BK713 3 (.int .i64 t711) rfl; have hcz59_4 := bkc_ BK713 4 (.int .i64 t712) rfl; have hfz59_0 := blk_frozen BK713.out 0; have hfz59_1 := blk_frozen BK713.out 1; have hfz59_2 := blk_frozen BK713.out 2; have hfz59_3 := blk_frozen BK713.out 3; have hfz59_4 := blk_frozen BK713.out 4) | (go_at_call 32; (with_reducible refine (punch_Bridge.calls kj5 t708 t709 t710 t711 t712 3 (wrap64 (3 + (wrap64 (1 + (Int.tmod (wrap64 (a1)) 26))))) t723 t726 _ A49.out).mono ?_); rintro e w60 ⟨v724, rfl, ho0, hb⟩; have n0_ := Aside0.mk (Kd.R_lower (Kd.R_newB ho0 (g := gb722) (o := .cells #[.int .i64 3, .int .i64 (wrap64 (3 + (wrap64 (1 + (Int.tmod (wrap64 (a1)) 26)))))] 47 (0, 0)) (by (with_reducible repeat (first | refine blk_drewN ?_ _ | refine blk_drew ?_ | refine blk_alloc ?_ _)); refine blk_put (cs := #[.int .i64 3, .int .i64 0]) ?_ 1 _ rfl; (with_reducible repeat (first | refine blk_drewN ?_ _ | refine blk_drew ?_ | refine blk_alloc ?_ _)); refine blk_put (cs := #[.int .i64 0, .int .i64 0]) ?_ 0 _ rfl; (with_reducible repeat (first | refine blk_drewN ?_ _ | refine blk_drew ?_ | refine blk_alloc ?_ _)); exact BK722.out)) (below_size (blx_ HB).out)); have n1_ := bkb_ BK707 hb; have n2_ := bkb_ BK713 hb; have n3_ := bkb_ BK719 hb; have n4_ := bkb_ BK720 hb; have n5_ := Aside0.mk (blk_below (g := gb722) (o := .cells #[.int .i64 3, .int .i64 (wrap64 (3 + (wrap64 (1 + (Int.tmod (wrap64 (a1)) 26)))))] 47 (0, 0)) (by (with_reducible repeat (first | refine blk_drewN ?_ _ | refine blk_drew ?_ | refine blk_alloc ?_ _)); refine blk_put (cs := #[.int .i64 3, .int .i64 0]) ?_ 1 _ rfl; (with_reducible repeat (first | refine blk_drewN ?_ _ | refine blk_drew ?_ | refine blk_alloc ?_ _)); refine blk_put (cs := #[.int .i64 0, .int .i64 0]) ?_ 0 _ rfl; (with_reducible repeat (first | refine blk_drewN ?_ _ | refine blk_drew ?_ | refine blk_alloc ?_ _)); exact BK722.out) hb); have n6_ := bls_ HB hb; clear BK707; clear BK713; clear BK719; clear BK720; clear BK722; clear HB; have HO725 := n0_; have BK707 := n1_; have BK713 := n2_; have BK719 := n3_; have BK720 := n4_; have BK722 := n5_; have HB := n6_; clear n0_ n1_ n2_ n3_ n4_ n5_ n6_; (try clear hb); (try clear hb2); (try clear hk); (try clear hi); (try clear ho0)))
       repeat (go_quiet (first | ((with_reducible refine gate_dst (N := 10) rfl ?_); (try (refine gate_guard (by rfl) ?_; dsimp only)); refine box_event ?hg (N := 10) ?hd (cs := #[.int .i64 0, .int .i64 0]) (t := 47) ?hr ?_; (case hd => rfl); (case hg => rfl); (case hr => first | (go_simp; done) | (go_simp; rfl)); intro gb722 hg w50 hbox hb; have BK722 := Aside0.mk (hbox); have GW722 := bgw_ HB hg; have GE722 := bgw_ HB hg; have NB707_722 := bnl_ BK707 hg; have NB722_707 := bng_ BK707 hg; have NB713_722 := bnl_ BK713 hg; have NB722_713 := bng_ BK713 hg; have NB719_722 := bnl_ BK719 hg; have NB722_719 := bng_ BK719 hg; have NB720_722 := bnl_ BK720 hg; have NB722_720 := bng_ BK720 hg; replace BK707 := bkb_ BK707 hb; replace BK713 := bkb_ BK713 hb; replace BK719 := bkb_ BK719 hb; replace BK720 := bkb_ BK720 hb; replace HB := bls_ HB hb; clear hb hbox hg; have hnb51 := NB722_707.out; have hnc51 := NB707_722.out; have hnb52 := NB722_713.out; have hnc52 := NB713_722.out; have hnb53 := NB722_719.out; have hnc53 := NB719_722.out; have hnb54 := NB722_720.out; have hnc54 := NB720_722.out; have hcz55_0 := bkc_ BK722 0 (.int .i64 0) rfl; have hcz55_1 := bkc_ BK722 1 (.int .i64 0) rfl; have hfz55_0 := blk_frozen BK722.out 0; have hfz55_1 := blk_frozen BK722.out 1; have hnb56 := NB713_707.out; have hnc56 := NB707_713.out; have hnb57 := NB713_719.out; have hnc57 := NB719_713.out; have hnb58 := NB713_720.out; have hnc58 := NB720_713.out; have hcz59_0 := bkc_ BK713 0 (.int .i64 t708) rfl; have hcz59_1 := bkc_ BK713 1 (.int .i64 t709) rfl; have hcz59_2 := bkc_ BK713 2 (.int .i64 t710) rfl; have hcz59_3 := bkc_ BK713 3 (.int .i64 t711) rfl; have hcz59_4 := bkc_ BK713 4 (.int .i64 t712) rfl; have hfz59_0 := blk_frozen BK713.out 0; have hfz59_1 := blk_frozen BK713.out 1; have hfz59_2 := blk_frozen BK713.out 2; have hfz59_3 := blk_frozen BK713.out 3; have hfz59_4 := blk_frozen BK713.out 4) | (go_at_call 32; (with_reducible refine (punch_Bridge.calls kj5 t708 t709 t710 t711 t712 3 (wrap64 (3 + (wrap64 (1 + (Int.tmod (wrap64 (a1)) 26))))) t723 t726 _ A49.out).mono ?_); rintro e w60 ⟨v724, rfl, ho0, hb⟩; have n0_ := Aside0.mk (Kd.R_lower (Kd.R_newB ho0 (g := gb722) (o := .cells #[.int .i64 3, .int .i64 (wrap64 (3 + (wrap64 (1 + (Int.tmod (wrap64 (a1)) 26)))))] 47 (0, 0)) (by (with_reducible repeat (first | refine blk_drewN ?_ _ | refine blk_drew ?_ | refine blk_alloc ?_ _)); refine blk_put (cs := #[.int .i64 3, .int .i64 0]) ?_ 1 _ rfl; (with_reducible repeat (first | refine blk_drewN ?_ _ | refine blk_drew ?_ | refine blk_alloc ?_ _)); refine blk_put (cs := #[.int .i64 0, .int .i64 0]) ?_ 0 _ rfl; (with_reducible repeat (first | refine blk_drewN ?_ _ | refine blk_drew ?_ | refine blk_alloc ?_ _)); exact BK722.out)) (below_size (blx_ HB).out)); have n1_ := bkb_ BK707 hb; have n2_ := bkb_ BK713 hb; have n3_ := bkb_ BK719 hb; have n4_ := bkb_ BK720 hb; have n5_ := Aside0.mk (blk_below (g := gb722) (o := .cells #[.int .i64 3, .int .i64 (wrap64 (3 + (wrap64 (1 + (Int.tmod (wrap64 (a1)) 26)))))] 47 (0, 0)) (by (with_reducible repeat (first | refine blk_drewN ?_ _ | refine blk_drew ?_ | refine blk_alloc ?_ _)); refine blk_put (cs := #[.int .i64 3, .int .i64 0]) ?_ 1 _ rfl; (with_reducible repeat (first | refine blk_drewN ?_ _ | refine blk_drew ?_ | refine blk_alloc ?_ _)); refine blk_put (cs := #[.int .i64 0, .int .i64 0]) ?_ 0 _ rfl; (with_reducible repeat (first | refine blk_drewN ?_ _ | refine blk_drew ?_ | refine blk_alloc ?_ _)); exact BK722.out) hb); have n6_ := bls_ HB hb; clear BK707; clear BK713; clear BK719; clear BK720; clear BK722; clear HB; have HO725 := n0_; have BK707 := n1_; have BK713 := n2_; have BK719 := n3_; have BK720 := n4_; have BK722 := n5_; have HB := n6_; clear n0_ n1_ n2_ n3_ n4_ n5_ n6_; (try clear hb); (try clear hb2); (try clear hk); (try clear hi); (try clear ho0))); try go_wp2_with (first | ((with_reducible refine gate_dst (N := 10) rfl ?_); (try (refine gate_guard (by rfl) ?_; dsimp only)); refine box_event ?hg (N := 10) ?hd (cs := #[.int .i64 0, .int .i64 0]) (t := 47) ?hr ?_; (case hd => rfl); (case hg => rfl); (case hr => first | (go_simp; done) | (go_simp; rfl)); intro gb722 hg w50 hbox hb; have BK722 := Aside0.mk (hbox); have GW722 := bgw_ HB hg; have GE722 := bgw_ HB hg; have NB707_722 := bnl_ BK707 hg; have NB722_707 := bng_ BK707 hg; have NB713_722 := bnl_ BK713 hg; have NB722_713 := bng_ BK713 hg; have NB719_722 := bnl_ BK719 hg; have NB722_719 := bng_ BK719 hg; have NB720_722 := bnl_ BK720 hg; have NB722_720 := bng_ BK720 hg; replace BK707 := bkb_ BK707 hb; replace BK713 := bkb_ BK713 hb; replace BK719 := bkb_ BK719 hb; replace BK720 := bkb_ BK720 hb; replace HB := bls_ HB hb; clear hb hbox hg; have hnb51 := NB722_707.out; have hnc51 := NB707_722.out; have hnb52 := NB722_713.out; have hnc52 := NB713_722.out; have hnb53 := NB722_719.out; have hnc53 := NB719_722.out; have hnb54 := NB722_720.out; have hnc54 := NB720_722.out; have hcz55_0 := bkc_ BK722 0 (.int .i64 0) rfl; have hcz55_1 := bkc_ BK722 1 (.int .i64 0) rfl; have hfz55_0 := blk_frozen BK722.out 0; have hfz55_1 := blk_frozen BK722.out 1; have hnb56 := NB713_707.out; have hnc56 := NB707_713.out; have hnb57 := NB713_719.out; have hnc57 := NB719_713.out; have hnb58 := NB713_720.out; have hnc58 := NB720_713.out; have hcz59_0 := bkc_ BK713 0 (.int .i64 t708) rfl; have hcz59_1 := bkc_ BK713 1 (.int .i64 t709) rfl; have hcz59_2 := bkc_ BK713 2 (.int .i64 t710) rfl; have hcz59_3 := bkc_ BK713 3 (.int .i64 t711) rfl; have hcz59_4 := bkc_ BK713 4 (.int .i64 t712) rfl; have hfz59_0 := blk_frozen BK713.out 0; have hfz59_1 := blk_frozen BK713.out 1; have hfz59_2 := blk_frozen BK713.out 2; have hfz59_3 := blk_frozen BK713.out 3; have hfz59_4 := blk_frozen BK713.out 4) | (go_at_call 32; (with_reducible refine (punch_Bridge.calls kj5 t708 t709 t710 t711 t712 3 (wrap64 (3 + (wrap64 (1 + (Int.tmod (wrap64 (a1)) 26))))) t723 t726 _ A49.out).mono ?_); rintro e w60 ⟨v724, rfl, ho0, hb⟩; have n0_ := Aside0.mk (Kd.R_lower (Kd.R_newB ho0 (g := gb722) (o := .cells #[.int .i64 3, .int .i64 (wrap64 (3 + (wrap64 (1 + (Int.tmod (wrap64 (a1)) 26)))))] 47 (0, 0)) (by (with_reducible repeat (first | refine blk_drewN ?_ _ | refine blk_drew ?_ | refine blk_alloc ?_ _)); refine blk_put (cs := #[.int .i64 3, .int .i64 0]) ?_ 1 _ rfl; (with_reducible repeat (first | refine blk_drewN ?_ _ | refine blk_drew ?_ | refine blk_alloc ?_ _)); refine blk_put (cs := #[.int .i64 0, .int .i64 0]) ?_ 0 _ rfl; (with_reducible repeat (first | refine blk_drewN ?_ _ | refine blk_drew ?_ | refine blk_alloc ?_ _)); exact BK722.out)) (below_size (blx_ HB).out)); have n1_ := bkb_ BK707 hb; have n2_ := bkb_ BK713 hb; have n3_ := bkb_ BK719 hb; have n4_ := bkb_ BK720 hb; have n5_ := Aside0.mk (blk_below (g := gb722) (o := .cells #[.int .i64 3, .int .i64 (wrap64 (3 + (wrap64 (1 + (Int.tmod (wrap64 (a1)) 26)))))] 47 (0, 0)) (by (with_reducible repeat (first | refine blk_drewN ?_ _ | refine blk_drew ?_ | refine blk_alloc ?_ _)); refine blk_put (cs := #[.int .i64 3, .int .i64 0]) ?_ 1 _ rfl; (with_reducible repeat (first | refine blk_drewN ?_ _ | refine blk_drew ?_ | refine blk_alloc ?_ _)); refine blk_put (cs := #[.int .i64 0, .int .i64 0]) ?_ 0 _ rfl; (with_reducible repeat (first | refine blk_drewN ?_ _ | refine blk_drew ?_ | refine blk_alloc ?_ _)); exact BK722.out) hb); have n6_ := bls_ HB hb; clear BK707; clear BK713; clear BK719; clear BK720; clear BK722; clear HB; have HO725 := n0_; have BK707 := n1_; have BK713 := n2_; have BK719 := n3_; have BK720 := n4_; have BK722 := n5_; have HB := n6_; clear n0_ n1_ n2_ n3_ n4_ n5_ n6_; (try clear hb); (try clear hb2); (try clear hk); (try clear hi); (try clear ho0))))
       go_loopg [13] kj5 (fun kq v13 w' => ∃ (x13_2 : Int), v13 = .int .i64 x13_2 ∧ Aside0 (pianolalaw03_PunchFewest.l0 kq (wrap64 (1 + (Int.tmod (wrap64 (a1)) 26))) t723 t726 x13_2 t708 t709 t710 t711 t712 t714 t715 t716 t717 3 (wrap64 (3 + (wrap64 (1 + (Int.tmod (wrap64 (a1)) 26))))) = some r) ∧ Aside0 (kq ≤ kj5) ∧ Aside0 (Kd.R k47 47 w' w.heap.size (fun k_ => k_ ≠ gb722) v724 t723) ∧ Aside0 (w'.heap[gb707]? = some (.cells #[.int .u8 a0_0, .int .u8 a0_1, .int .u8 a0_2, .int .u8 a0_3, .int .u8 a0_4] 86 (0, 0))) ∧ Aside0 (w'.heap[gb713]? = some (.cells #[.int .i64 t708, .int .i64 t709, .int .i64 t710, .int .i64 t711, .int .i64 t712] 57 (0, 0))) ∧ Aside0 (w'.heap[gb719]? = some (.cells #[.int .i64 t714, .int .i64 t715] 55 (0, 0))) ∧ Aside0 (w'.heap[gb720]? = some (.cells #[.int .i64 t716, .int .i64 t717] 55 (0, 0))) ∧ Aside0 (w'.heap[gb722]? = some (.cells #[.int .i64 3, .int .i64 (wrap64 (3 + (wrap64 (1 + (Int.tmod (wrap64 (a1)) 26)))))] 47 (0, 0))) ∧ Aside0 (Below w.heap.size w w'))
       case atStart => exact ⟨(1), (by first | rfl | (simp; done) | (simp [*]; done)), H', ⟨Nat.le_refl _⟩, ⟨by (with_reducible repeat (first | apply Kd.R_alloc | apply Kd.R_drewN | apply Kd.R_drew)); exact Kd.R_mono HO725.out (fun _ hk => hk.2)⟩, bkx_ BK707, bkx_ BK713, bkx_ BK719, bkx_ BK720, bkx_ BK722, blx_ HB⟩
       case round =>
        clear H'
        try clear c1
        try clear c2
        try clear p2
        try clear c3
        try clear c4
        try clear c5
        try clear c5b0
        try clear c5b1
        try clear p6
        try clear c11
        try clear c13
        try clear c16
        try clear c17
        try clear c18
        try clear c20
        try clear c21
        try clear c23
        try clear c23b0
        try clear c23b1
        try clear c24
        try clear c24b0
        try clear c25
        try clear c26
        try clear c27
        try clear c29
        try clear c29b0
        try clear c30
        try clear c31
        try clear c32
        try clear c34
        try clear c35
        try clear c37
        try clear c38
        try clear c39
        try clear c41
        try clear c42
        try clear c44
        try clear c45
        try clear c46
        try clear c48
        try clear c51
        try clear c52
        try clear c53
        try clear c54
        try clear c56
        try clear c57
        try clear c58
        try clear hcz12_0
        try clear hcz12_1
        try clear hcz12_2
        try clear hcz12_3
        try clear hcz12_4
        try clear hcz19_0
        try clear hcz19_1
        try clear hcz22_0
        try clear hcz22_1
        try clear hcz28_0
        try clear hcz28_1
        try clear hcz33_0
        try clear hcz33_1
        try clear hcz36_0
        try clear hcz36_1
        try clear hcz40_0
        try clear hcz40_1
        try clear hcz43_0
        try clear hcz43_1
        try clear hcz47_0
        try clear hcz47_1
        try clear hcz55_0
        try clear hcz55_1
        try clear hcz59_0
        try clear hcz59_1
        try clear hcz59_2
        try clear hcz59_3
        try clear hcz59_4
        try clear hcz8_0
        try clear hcz8_1
        try clear hcz8_2
        try clear hcz8_3
        try clear hcz8_4
        try clear hfz12_0
        try clear hfz12_1
        try clear hfz12_2
        try clear hfz12_3
        try clear hfz12_4
        try clear hfz19_0
        try clear hfz19_1
        try clear hfz22_0
        try clear hfz22_1
        try clear hfz28_0
        try clear hfz28_1
        try clear hfz33_0
        try clear hfz33_1
        try clear hfz36_0
        try clear hfz36_1
        try clear hfz40_0
        try clear hfz40_1
        try clear hfz43_0
        try clear hfz43_1
        try clear hfz47_0
        try clear hfz47_1
        try clear hfz55_0
        try clear hfz55_1
        try clear hfz59_0
        try clear hfz59_1
        try clear hfz59_2
        try clear hfz59_3
        try clear hfz59_4
        try clear hfz8_0
        try clear hfz8_1
        try clear hfz8_2
        try clear hfz8_3
        try clear hfz8_4
        try clear p2
        obtain ⟨x13_2, rfl, HA, HK2, HO_11, BK707, BK713, BK719, BK720, BK722, HB⟩ := hrel
        cases gk with
        | zero => exact absurd HA.out (by simp [pianolalaw03_PunchFewest.l0])
        | succ k2 =>
         have H := HA.out
         clear HA
         simp only [pianolalaw03_PunchFewest.l0] at H
         by_cases c61 : x13_2 ≤ 14
         · rw [if_pos c61] at H
           have c61b0 : decide (x13_2 ≤ 14) = true := decide_eq_true c61
           clear c61
           replace H := Option.bind_eq_some_iff.mp H
           obtain ⟨t728, A620, H⟩ := H
           replace H : (if t728 = true then (if t726 = 0 then (if (t723.length : Int) = x13_2 then ((punch_Holds.f k2 t708 t709 t710 t711 t712 3 (wrap64 (3 + (wrap64 (1 + (Int.tmod (wrap64 (a1)) 26))))) t723).bind fun t729 => (pianolalaw03_PunchFewest.j2 k2 (wrap64 (1 + (Int.tmod (wrap64 (a1)) 26))) t723 x13_2 (t729 != 0) t714 t715 t716 t717)) else (pianolalaw03_PunchFewest.j2 k2 (wrap64 (1 + (Int.tmod (wrap64 (a1)) 26))) t723 x13_2 true t714 t715 t716 t717)) else (pianolalaw03_PunchFewest.j2 k2 (wrap64 (1 + (Int.tmod (wrap64 (a1)) 26))) t723 x13_2 true t714 t715 t716 t717)) else (pianolalaw03_PunchFewest.l0 k2 (wrap64 (1 + (Int.tmod (wrap64 (a1)) 26))) t723 t726 (wrap64 (x13_2 + 1)) t708 t709 t710 t711 t712 t714 t715 t716 t717 3 (wrap64 (3 + (wrap64 (1 + (Int.tmod (wrap64 (a1)) 26))))))) = some r := H
           have A62 := Aside0.mk A620
           clear A620
           by_cases c63 : t728 = true
           · subst c63
             have H1 : (if t726 = 0 then (if (t723.length : Int) = x13_2 then ((punch_Holds.f k2 t708 t709 t710 t711 t712 3 (wrap64 (3 + (wrap64 (1 + (Int.tmod (wrap64 (a1)) 26))))) t723).bind fun t729 => (pianolalaw03_PunchFewest.j2 k2 (wrap64 (1 + (Int.tmod (wrap64 (a1)) 26))) t723 x13_2 (t729 != 0) t714 t715 t716 t717)) else (pianolalaw03_PunchFewest.j2 k2 (wrap64 (1 + (Int.tmod (wrap64 (a1)) 26))) t723 x13_2 true t714 t715 t716 t717)) else (pianolalaw03_PunchFewest.j2 k2 (wrap64 (1 + (Int.tmod (wrap64 (a1)) 26))) t723 x13_2 true t714 t715 t716 t717)) = some r := by rw [if_pos rfl] at H; exact H
             clear H
             have H := H1
             clear H1
             have HC64 := Aside0.mk H
             clear H
             have hnb65 := NB719_707.out
             have hnc65 := NB707_719.out
             have hnb66 := NB719_713.out
             have hnc66 := NB713_719.out
             have hnb67 := NB719_720.out
             have hnc67 := NB720_719.out
             have hnb68 := NB719_722.out
             have hnc68 := NB722_719.out
             have hcz69_0 := bkc_ BK719 0 (.int .i64 t714) rfl
             have hcz69_1 := bkc_ BK719 1 (.int .i64 t715) rfl
             have hfz69_0 := blk_frozen BK719.out 0
             have hfz69_1 := blk_frozen BK719.out 1
             have hnb70 := NB720_707.out
             have hnc70 := NB707_720.out
             have hnb71 := NB720_713.out
             have hnc71 := NB713_720.out
             have hnb72 := NB720_722.out
             have hnc72 := NB722_720.out
             have hcz73_0 := bkc_ BK720 0 (.int .i64 t716) rfl
             have hcz73_1 := bkc_ BK720 1 (.int .i64 t717) rfl
             have hfz73_0 := blk_frozen BK720.out 0
             have hfz73_1 := blk_frozen BK720.out 1
             go_upto_region 14 with (first | (go_at_call 45; (with_reducible refine (pianolalaw03_divided.calls k2 t714 t715 t716 t717 (wrap64 (1 + (Int.tmod (wrap64 (a1)) 26))) x13_2 true _ A62.out).mono ?_); rintro e w74 ⟨rfl, hb⟩; have n0_ := Aside0.mk (Kd.R_below (by (with_reducible repeat (first | apply Kd.R_alloc | apply Kd.R_drewN | apply Kd.R_drew)); exact HO_11.out) hb); have n1_ := bkb_ BK707 hb; have n2_ := bkb_ BK713 hb; have n3_ := bkb_ BK719 hb; have n4_ := bkb_ BK720 hb; have n5_ := bkb_ BK722 hb; have n6_ := bls_ HB hb; clear HO_11; clear BK707; clear BK713; clear BK719; clear BK720; clear BK722; clear HB; have HO_11 := n0_; have BK707 := n1_; have BK713 := n2_; have BK719 := n3_; have BK720 := n4_; have BK722 := n5_; have HB := n6_; clear n0_ n1_ n2_ n3_ n4_ n5_ n6_; (try clear hb); (try clear hb2); (try clear hk); (try clear hi)))
             repeat (go_quiet (first | (go_at_call 45; (with_reducible refine (pianolalaw03_divided.calls k2 t714 t715 t716 t717 (wrap64 (1 + (Int.tmod (wrap64 (a1)) 26))) x13_2 true _ A62.out).mono ?_); rintro e w74 ⟨rfl, hb⟩; have n0_ := Aside0.mk (Kd.R_below (by (with_reducible repeat (first | apply Kd.R_alloc | apply Kd.R_drewN | apply Kd.R_drew)); exact HO_11.out) hb); have n1_ := bkb_ BK707 hb; have n2_ := bkb_ BK713 hb; have n3_ := bkb_ BK719 hb; have n4_ := bkb_ BK720 hb; have n5_ := bkb_ BK722 hb; have n6_ := bls_ HB hb; clear HO_11; clear BK707; clear BK713; clear BK719; clear BK720; clear BK722; clear HB; have HO_11 := n0_; have BK707 := n1_; have BK713 := n2_; have BK719 := n3_; have BK720 := n4_; have BK722 := n5_; have HB := n6_; clear n0_ n1_ n2_ n3_ n4_ n5_ n6_; (try clear hb); (try clear hb2); (try clear hk); (try clear hi))); go_upto_region 14 with (first | (go_at_call 45; (with_reducible refine (pianolalaw03_divided.calls k2 t714 t715 t716 t717 (wrap64 (1 + (Int.tmod (wrap64 (a1)) 26))) x13_2 true _ A62.out).mono ?_); rintro e w74 ⟨rfl, hb⟩; have n0_ := Aside0.mk (Kd.R_below (by (with_reducible repeat (first | apply Kd.R_alloc | apply Kd.R_drewN | apply Kd.R_drew)); exact HO_11.out) hb); have n1_ := bkb_ BK707 hb; have n2_ := bkb_ BK713 hb; have n3_ := bkb_ BK719 hb; have n4_ := bkb_ BK720 hb; have n5_ := bkb_ BK722 hb; have n6_ := bls_ HB hb; clear HO_11; clear BK707; clear BK713; clear BK719; clear BK720; clear BK722; clear HB; have HO_11 := n0_; have BK707 := n1_; have BK713 := n2_; have BK719 := n3_; have BK720 := n4_; have BK722 := n5_; have HB := n6_; clear n0_ n1_ n2_ n3_ n4_ n5_ n6_; (try clear hb); (try clear hb2); (try clear hk); (try clear hi))))
             (try simp only [Act.put, List.setIfInBounds_toArray, List.set_cons_zero, List.set_cons_succ])
             go_cut [86] (fun v86 wc => ∃ (kq : Nat) (x86_63 : Bool), v86 = .bool x86_63 ∧ Aside0 (pianolalaw03_PunchFewest.j2 kq (wrap64 (1 + (Int.tmod (wrap64 (a1)) 26))) t723 x13_2 x86_63 t714 t715 t716 t717 = some r) ∧ Aside0 (kq ≤ k2) ∧ Aside0 (Kd.R k47 47 wc w.heap.size (fun k_ => k_ ≠ gb722) v724 t723) ∧ Aside0 (wc.heap[gb707]? = some (.cells #[.int .u8 a0_0, .int .u8 a0_1, .int .u8 a0_2, .int .u8 a0_3, .int .u8 a0_4] 86 (0, 0))) ∧ Aside0 (wc.heap[gb713]? = some (.cells #[.int .i64 t708, .int .i64 t709, .int .i64 t710, .int .i64 t711, .int .i64 t712] 57 (0, 0))) ∧ Aside0 (wc.heap[gb719]? = some (.cells #[.int .i64 t714, .int .i64 t715] 55 (0, 0))) ∧ Aside0 (wc.heap[gb720]? = some (.cells #[.int .i64 t716, .int .i64 t717] 55 (0, 0))) ∧ Aside0 (wc.heap[gb722]? = some (.cells #[.int .i64 3, .int .i64 (wrap64 (3 + (wrap64 (1 + (Int.tmod (wrap64 (a1)) 26)))))] 47 (0, 0))) ∧ Aside0 (Below w.heap.size w wc))
             case first =>
              have H := HC64.out
              clear HC64
              by_cases c75 : t726 = 0
              · rw [if_pos c75] at H
                have c75b0 : (t726 == 0) = true := beq_iff_eq.mpr c75
                have c75b1 : (t726 != 0) = false := bne_eq_false_iff_eq.mpr c75
                clear c75
                (first | rw [c75b0] | (simp only [i64_w, i32_w]; rw [c75b0]) | skip)
                by_cases c76 : (t723.length : Int) = x13_2
                · rw [if_pos c76] at H
                  have c76b0 : ((t723.length : Int) == x13_2) = true := beq_iff_eq.mpr c76
                  have c76b1 : ((t723.length : Int) != x13_2) = false := bne_eq_false_iff_eq.mpr c76
                  clear c76
                  replace H := Option.bind_eq_some_iff.mp H
                  obtain ⟨t729, A770, H⟩ := H
                  replace H : (pianolalaw03_PunchFewest.j2 k2 (wrap64 (1 + (Int.tmod (wrap64 (a1)) 26))) t723 x13_2 (t729 != 0) t714 t715 t716 t717) = some r := H
                  have A77 := Aside0.mk A770
                  clear A770
                  have H' := Aside0.mk H
                  clear H
                  obtain ⟨Ao78, co78, eo78⟩ := Kd.R_slice HO_11.out
                  subst eo78
                  have hnb79 := NB713_707.out
                  have hnc79 := NB707_713.out
                  have hnb80 := NB713_719.out
                  have hnc80 := NB719_713.out
                  have hnb81 := NB713_720.out
                  have hnc81 := NB720_713.out
                  have hnb82 := NB713_722.out
                  have hnc82 := NB722_713.out
                  have hcz83_0 := bkc_ BK713 0 (.int .i64 t708) rfl
                  have hcz83_1 := bkc_ BK713 1 (.int .i64 t709) rfl
                  have hcz83_2 := bkc_ BK713 2 (.int .i64 t710) rfl
                  have hcz83_3 := bkc_ BK713 3 (.int .i64 t711) rfl
                  have hcz83_4 := bkc_ BK713 4 (.int .i64 t712) rfl
                  have hfz83_0 := blk_frozen BK713.out 0
                  have hfz83_1 := blk_frozen BK713.out 1
                  have hfz83_2 := blk_frozen BK713.out 2
                  have hfz83_3 := blk_frozen BK713.out 3
                  have hfz83_4 := blk_frozen BK713.out 4
                  have hnb84 := NB722_707.out
                  have hnc84 := NB707_722.out
                  have hnb85 := NB722_719.out
                  have hnc85 := NB719_722.out
                  have hnb86 := NB722_720.out
                  have hnc86 := NB720_722.out
                  have hcz87_0 := bkc_ BK722 0 (.int .i64 3) rfl
                  have hcz87_1 : w74.cell? ⟨gb722, 1, none⟩ = some (.int .i64 (wrap64 (3 + (wrap64 (1 + (Int.tmod (wrap64 (a1)) 26)))))) := (blk_cell BK722.out 1).trans rfl
                  have hfz87_0 := blk_frozen BK722.out 0
                  have hfz87_1 := blk_frozen BK722.out 1
                  go_wp2_with (first | (go_at_call 35; (with_reducible refine (punch_Holds.calls k2 t708 t709 t710 t711 t712 3 (wrap64 (3 + (wrap64 (1 + (Int.tmod (wrap64 (a1)) 26))))) _ _ t723 t729 _ ?side1 ?side2 A77.out).mono ?_); (case side1 => repeat (first | exact (Kd.R_reads' HO_11.out).2.2 | (with_reducible refine Kd.C_alloc ?_ _) | (with_reducible refine Kd.C_drewN ?_ _) | (with_reducible refine Kd.C_drew ?_))); (case side2 => exact (Kd.R_reads' HO_11.out).2.1); rintro e w88 ⟨rfl, hb⟩; have n0_ := Aside0.mk (Kd.R_below (by (with_reducible repeat (first | apply Kd.R_alloc | apply Kd.R_drewN | apply Kd.R_drew)); exact HO_11.out) hb); have n1_ := bkb_ BK707 hb; have n2_ := bkb_ BK713 hb; have n3_ := bkb_ BK719 hb; have n4_ := bkb_ BK720 hb; have n5_ := bkb_ BK722 hb; have n6_ := bls_ HB hb; clear HO_11; clear BK707; clear BK713; clear BK719; clear BK720; clear BK722; clear HB; have HO_11 := n0_; have BK707 := n1_; have BK713 := n2_; have BK719 := n3_; have BK720 := n4_; have BK722 := n5_; have HB := n6_; clear n0_ n1_ n2_ n3_ n4_ n5_ n6_; (try clear hb); (try clear hb2); (try clear hk); (try clear hi)))
                  repeat (go_quiet (first | (go_at_call 35; (with_reducible refine (punch_Holds.calls k2 t708 t709 t710 t711 t712 3 (wrap64 (3 + (wrap64 (1 + (Int.tmod (wrap64 (a1)) 26))))) _ _ t723 t729 _ ?side1 ?side2 A77.out).mono ?_); (case side1 => repeat (first | exact (Kd.R_reads' HO_11.out).2.2 | (with_reducible refine Kd.C_alloc ?_ _) | (with_reducible refine Kd.C_drewN ?_ _) | (with_reducible refine Kd.C_drew ?_))); (case side2 => exact (Kd.R_reads' HO_11.out).2.1); rintro e w88 ⟨rfl, hb⟩; have n0_ := Aside0.mk (Kd.R_below (by (with_reducible repeat (first | apply Kd.R_alloc | apply Kd.R_drewN | apply Kd.R_drew)); exact HO_11.out) hb); have n1_ := bkb_ BK707 hb; have n2_ := bkb_ BK713 hb; have n3_ := bkb_ BK719 hb; have n4_ := bkb_ BK720 hb; have n5_ := bkb_ BK722 hb; have n6_ := bls_ HB hb; clear HO_11; clear BK707; clear BK713; clear BK719; clear BK720; clear BK722; clear HB; have HO_11 := n0_; have BK707 := n1_; have BK713 := n2_; have BK719 := n3_; have BK720 := n4_; have BK722 := n5_; have HB := n6_; clear n0_ n1_ n2_ n3_ n4_ n5_ n6_; (try clear hb); (try clear hb2); (try clear hk); (try clear hi))); try go_wp2_with (first | (go_at_call 35; (with_reducible refine (punch_Holds.calls k2 t708 t709 t710 t711 t712 3 (wrap64 (3 + (wrap64 (1 + (Int.tmod (wrap64 (a1)) 26))))) _ _ t723 t729 _ ?side1 ?side2 A77.out).mono ?_); (case side1 => repeat (first | exact (Kd.R_reads' HO_11.out).2.2 | (with_reducible refine Kd.C_alloc ?_ _) | (with_reducible refine Kd.C_drewN ?_ _) | (with_reducible refine Kd.C_drew ?_))); (case side2 => exact (Kd.R_reads' HO_11.out).2.1); rintro e w88 ⟨rfl, hb⟩; have n0_ := Aside0.mk (Kd.R_below (by (with_reducible repeat (first | apply Kd.R_alloc | apply Kd.R_drewN | apply Kd.R_drew)); exact HO_11.out) hb); have n1_ := bkb_ BK707 hb; have n2_ := bkb_ BK713 hb; have n3_ := bkb_ BK719 hb; have n4_ := bkb_ BK720 hb; have n5_ := bkb_ BK722 hb; have n6_ := bls_ HB hb; clear HO_11; clear BK707; clear BK713; clear BK719; clear BK720; clear BK722; clear HB; have HO_11 := n0_; have BK707 := n1_; have BK713 := n2_; have BK719 := n3_; have BK720 := n4_; have BK722 := n5_; have HB := n6_; clear n0_ n1_ n2_ n3_ n4_ n5_ n6_; (try clear hb); (try clear hb2); (try clear hk); (try clear hi))))
                  go_meet
                  case rel => exact ⟨_, ((t729 != 0)), (by first | rfl | (simp; done) | (simp [*]; done)), H', ⟨by have := HJ5.out; have := HK2.out; first | omega | exact Nat.le_refl _⟩, ⟨by (with_reducible repeat (first | apply Kd.R_alloc | apply Kd.R_drewN | apply Kd.R_drew)); exact HO_11.out⟩, bkx_ BK707, bkx_ BK713, bkx_ BK719, bkx_ BK720, bkx_ BK722, blx_ HB⟩
                · rw [if_neg c76] at H
                  have c76b0 : ((t723.length : Int) == x13_2) = false := beq_eq_false_iff_ne.mpr c76
                  have c76b1 : ((t723.length : Int) != x13_2) = true := bne_iff_ne.mpr c76
                  have H' := Aside0.mk H
                  clear H
                  obtain ⟨Ao89, co89, eo89⟩ := Kd.R_slice HO_11.out
                  subst eo89
                  go_wp2
                  repeat (go_quiet (fail); try go_wp2)
                  go_meet
                  case rel => exact ⟨_, (true), (by first | rfl | (simp; done) | (simp [*]; done)), H', ⟨by have := HJ5.out; have := HK2.out; first | omega | exact Nat.le_refl _⟩, ⟨by (with_reducible repeat (first | apply Kd.R_alloc | apply Kd.R_drewN | apply Kd.R_drew)); exact HO_11.out⟩, bkx_ BK707, bkx_ BK713, bkx_ BK719, bkx_ BK720, bkx_ BK722, blx_ HB⟩
              · rw [if_neg c75] at H
                have c75b0 : (t726 == 0) = false := beq_eq_false_iff_ne.mpr c75
                have c75b1 : (t726 != 0) = true := bne_iff_ne.mpr c75
                (first | rw [c75b0] | (simp only [i64_w, i32_w]; rw [c75b0]) | skip)
                have H' := Aside0.mk H
                clear H
                go_wp2
                repeat (go_quiet (fail); try go_wp2)
                go_meet
                case rel => exact ⟨_, (true), (by first | rfl | (simp; done) | (simp [*]; done)), H', ⟨by have := HJ5.out; have := HK2.out; first | omega | exact Nat.le_refl _⟩, ⟨by (with_reducible repeat (first | apply Kd.R_alloc | apply Kd.R_drewN | apply Kd.R_drew)); exact HO_11.out⟩, bkx_ BK707, bkx_ BK713, bkx_ BK719, bkx_ BK720, bkx_ BK722, blx_ HB⟩
             case rest =>
              clear HC64
              try clear c1
              try clear c2
              try clear p2
              try clear c3
              try clear c4
              try clear c5
              try clear c5b0
              try clear c5b1
              try clear c6
              try clear p6
              try clear c7
              try clear c8
              try clear c11
              try clear c13
              try clear c16
              try clear c17
              try clear c18
              try clear c20
              try clear c21
              try clear c23
              try clear c23b0
              try clear c23b1
              try clear c24
              try clear c24b0
              try clear c25
              try clear c26
              try clear c27
              try clear c29
              try clear c29b0
              try clear c30
              try clear c31
              try clear c32
              try clear c34
              try clear c35
              try clear c37
              try clear c38
              try clear c39
              try clear c41
              try clear c42
              try clear c44
              try clear c45
              try clear c46
              try clear c48
              try clear c51
              try clear c52
              try clear c53
              try clear c54
              try clear c56
              try clear c57
              try clear c58
              try clear c61
              try clear c61b0
              try clear c63
              try clear p64
              try clear c65
              try clear c66
              try clear c67
              try clear c68
              try clear c70
              try clear c71
              try clear c72
              try clear c75
              try clear c75b0
              try clear c75b1
              try clear c76
              try clear c76b0
              try clear c76b1
              try clear c79
              try clear c80
              try clear c81
              try clear c82
              try clear c84
              try clear c85
              try clear c86
              try clear hcz12_0
              try clear hcz12_1
              try clear hcz12_2
              try clear hcz12_3
              try clear hcz12_4
              try clear hcz19_0
              try clear hcz19_1
              try clear hcz22_0
              try clear hcz22_1
              try clear hcz28_0
              try clear hcz28_1
              try clear hcz33_0
              try clear hcz33_1
              try clear hcz36_0
              try clear hcz36_1
              try clear hcz40_0
              try clear hcz40_1
              try clear hcz43_0
              try clear hcz43_1
              try clear hcz47_0
              try clear hcz47_1
              try clear hcz55_0
              try clear hcz55_1
              try clear hcz59_0
              try clear hcz59_1
              try clear hcz59_2
              try clear hcz59_3
              try clear hcz59_4
              try clear hcz69_0
              try clear hcz69_1
              try clear hcz73_0
              try clear hcz73_1
              try clear hcz83_0
              try clear hcz83_1
              try clear hcz83_2
              try clear hcz83_3
              try clear hcz83_4
              try clear hcz87_0
              try clear hcz87_1
              try clear hcz8_0
              try clear hcz8_1
              try clear hcz8_2
              try clear hcz8_3
              try clear hcz8_4
              try clear hfz12_0
              try clear hfz12_1
              try clear hfz12_2
              try clear hfz12_3
              try clear hfz12_4
              try clear hfz19_0
              try clear hfz19_1
              try clear hfz22_0
              try clear hfz22_1
              try clear hfz28_0
              try clear hfz28_1
              try clear hfz33_0
              try clear hfz33_1
              try clear hfz36_0
              try clear hfz36_1
              try clear hfz40_0
              try clear hfz40_1
              try clear hfz43_0
              try clear hfz43_1
              try clear hfz47_0
              try clear hfz47_1
              try clear hfz55_0
              try clear hfz55_1
              try clear hfz59_0
              try clear hfz59_1
              try clear hfz59_2
              try clear hfz59_3
              try clear hfz59_4
              try clear hfz69_0
              try clear hfz69_1
              try clear hfz73_0
              try clear hfz73_1
              try clear hfz83_0
              try clear hfz83_1
              try clear hfz83_2
              try clear hfz83_3
              try clear hfz83_4
              try clear hfz87_0
              try clear hfz87_1
              try clear hfz8_0
              try clear hfz8_1
              try clear hfz8_2
              try clear hfz8_3
              try clear hfz8_4
              try clear p2
              try clear p6
              obtain ⟨kq, x86_63, rfl, HA, HJ63, HO_11, BK707, BK713, BK719, BK720, BK722, HB⟩ := hcut
              cases kq with
              | zero => exact absurd HA.out (by simp [pianolalaw03_PunchFewest.j2])
              | succ kj63 =>
               have H := HA.out
               clear HA
               simp only [pianolalaw03_PunchFewest.j2] at H
               by_cases c90 : x86_63 = true
               · subst c90
                 have H1 : (none) = some r := by rw [if_pos rfl] at H; exact H
                 clear H
                 have H := H1
                 clear H1
                 exact absurd H (by simp)
               · replace c90 := Bool.eq_false_iff.mpr c90
                 subst c90
                 have H1 : (pianolalaw03_PunchFewest.l1 kj63 (wrap64 (1 + (Int.tmod (wrap64 (a1)) 26))) t723 x13_2 t715 t714 t715 t716 t717) = some r := by rw [if_neg (show ¬ (false = true) by decide)] at H; exact H
                 clear H
                 have H := H1
                 clear H1
                 have H' := Aside0.mk H
                 clear H
                 have hnb91 := NB719_707.out
                 have hnc91 := NB707_719.out
                 have hnb92 := NB719_713.out
                 have hnc92 := NB713_719.out
                 have hnb93 := NB719_720.out
                 have hnc93 := NB720_719.out
                 have hnb94 := NB719_722.out
                 have hnc94 := NB722_719.out
                 have hcz95_0 := bkc_ BK719 0 (.int .i64 t714) rfl
                 have hcz95_1 := bkc_ BK719 1 (.int .i64 t715) rfl
                 have hfz95_0 := blk_frozen BK719.out 0
                 have hfz95_1 := blk_frozen BK719.out 1
                 go_wp2
                 repeat (go_quiet (fail); try go_wp2)
                 go_loopg [14] kj63 (fun kq v14 w' => ∃ (x14_4 : Int), v14 = .int .i64 x14_4 ∧ Aside0 (pianolalaw03_PunchFewest.l1 kq (wrap64 (1 + (Int.tmod (wrap64 (a1)) 26))) t723 x13_2 x14_4 t714 t715 t716 t717 = some r) ∧ Aside0 (kq ≤ kj63) ∧ Aside0 (Kd.R k47 47 w' w.heap.size (fun k_ => k_ ≠ gb722) v724 t723) ∧ Aside0 (w'.heap[gb707]? = some (.cells #[.int .u8 a0_0, .int .u8 a0_1, .int .u8 a0_2, .int .u8 a0_3, .int .u8 a0_4] 86 (0, 0))) ∧ Aside0 (w'.heap[gb713]? = some (.cells #[.int .i64 t708, .int .i64 t709, .int .i64 t710, .int .i64 t711, .int .i64 t712] 57 (0, 0))) ∧ Aside0 (w'.heap[gb719]? = some (.cells #[.int .i64 t714, .int .i64 t715] 55 (0, 0))) ∧ Aside0 (w'.heap[gb720]? = some (.cells #[.int .i64 t716, .int .i64 t717] 55 (0, 0))) ∧ Aside0 (w'.heap[gb722]? = some (.cells #[.int .i64 3, .int .i64 (wrap64 (3 + (wrap64 (1 + (Int.tmod (wrap64 (a1)) 26)))))] 47 (0, 0))) ∧ Aside0 (Below w.heap.size w w'))
                 case atStart => exact ⟨(t715), (by first | rfl | (simp; done) | (simp [*]; done)), H', ⟨Nat.le_refl _⟩, ⟨by (with_reducible repeat (first | apply Kd.R_alloc | apply Kd.R_drewN | apply Kd.R_drew)); exact HO_11.out⟩, bkx_ BK707, bkx_ BK713, bkx_ BK719, bkx_ BK720, bkx_ BK722, blx_ HB⟩
                 case round =>
                  clear H'
                  try clear c1
                  try clear c2
                  try clear p2
                  try clear c3
                  try clear c4
                  try clear c5
                  try clear c5b0
                  try clear c5b1
                  try clear c6
                  try clear p6
                  try clear c7
                  try clear c8
                  try clear c9
                  try clear c11
                  try clear c13
                  try clear c16
                  try clear c17
                  try clear c18
                  try clear c20
                  try clear c21
                  try clear c23
                  try clear c23b0
                  try clear c23b1
                  try clear c24
                  try clear c24b0
                  try clear c25
                  try clear c26
                  try clear c27
                  try clear c29
                  try clear c29b0
                  try clear c30
                  try clear c31
                  try clear c32
                  try clear c34
                  try clear c35
                  try clear c37
                  try clear c38
                  try clear c39
                  try clear c41
                  try clear c42
                  try clear c44
                  try clear c45
                  try clear c46
                  try clear c48
                  try clear c51
                  try clear c52
                  try clear c53
                  try clear c54
                  try clear c56
                  try clear c57
                  try clear c58
                  try clear c61
                  try clear c61b0
                  try clear c63
                  try clear p64
                  try clear c65
                  try clear c66
                  try clear c67
                  try clear c68
                  try clear c70
                  try clear c71
                  try clear c72
                  try clear c75
                  try clear c75b0
                  try clear c75b1
                  try clear c76
                  try clear c76b0
                  try clear c76b1
                  try clear c79
                  try clear c80
                  try clear c81
                  try clear c82
                  try clear c84
                  try clear c85
                  try clear c86
                  try clear c90
                  try clear c91
                  try clear c92
                  try clear c93
                  try clear c94
                  try clear hcz12_0
                  try clear hcz12_1
                  try clear hcz12_2
                  try clear hcz12_3
                  try clear hcz12_4
                  try clear hcz19_0
                  try clear hcz19_1
                  try clear hcz22_0
                  try clear hcz22_1
                  try clear hcz28_0
                  try clear hcz28_1
                  try clear hcz33_0
                  try clear hcz33_1
                  try clear hcz36_0
                  try clear hcz36_1
                  try clear hcz40_0
                  try clear hcz40_1
                  try clear hcz43_0
                  try clear hcz43_1
                  try clear hcz47_0
                  try clear hcz47_1
                  try clear hcz55_0
                  try clear hcz55_1
                  try clear hcz59_0
                  try clear hcz59_1
                  try clear hcz59_2
                  try clear hcz59_3
                  try clear hcz59_4
                  try clear hcz69_0
                  try clear hcz69_1
                  try clear hcz73_0
                  try clear hcz73_1
                  try clear hcz83_0
                  try clear hcz83_1
                  try clear hcz83_2
                  try clear hcz83_3
                  try clear hcz83_4
                  try clear hcz87_0
                  try clear hcz87_1
                  try clear hcz8_0
                  try clear hcz8_1
                  try clear hcz8_2
                  try clear hcz8_3
                  try clear hcz8_4
                  try clear hcz95_0
                  try clear hcz95_1
                  try clear hfz12_0
                  try clear hfz12_1
                  try clear hfz12_2
                  try clear hfz12_3
                  try clear hfz12_4
                  try clear hfz19_0
                  try clear hfz19_1
                  try clear hfz22_0
                  try clear hfz22_1
                  try clear hfz28_0
                  try clear hfz28_1
                  try clear hfz33_0
                  try clear hfz33_1
                  try clear hfz36_0
                  try clear hfz36_1
                  try clear hfz40_0
                  try clear hfz40_1
                  try clear hfz43_0
                  try clear hfz43_1
                  try clear hfz47_0
                  try clear hfz47_1
                  try clear hfz55_0
                  try clear hfz55_1
                  try clear hfz59_0
                  try clear hfz59_1
                  try clear hfz59_2
                  try clear hfz59_3
                  try clear hfz59_4
                  try clear hfz69_0
                  try clear hfz69_1
                  try clear hfz73_0
                  try clear hfz73_1
                  try clear hfz83_0
                  try clear hfz83_1
                  try clear hfz83_2
                  try clear hfz83_3
                  try clear hfz83_4
                  try clear hfz87_0
                  try clear hfz87_1
                  try clear hfz8_0
                  try clear hfz8_1
                  try clear hfz8_2
                  try clear hfz8_3
                  try clear hfz8_4
                  try clear hfz95_0
                  try clear hfz95_1
                  try clear p2
                  try clear p6
                  try clear p64
                  obtain ⟨x14_4, rfl, HA, HK4, HO_11, BK707, BK713, BK719, BK720, BK722, HB⟩ := hrel
                  cases gk with
                  | zero => exact absurd HA.out (by simp [pianolalaw03_PunchFewest.l1])
                  | succ k4 =>
                   have H := HA.out
                   clear HA
                   simp only [pianolalaw03_PunchFewest.l1] at H
                   have HC96 := Aside0.mk H
                   clear H
                   go_upto_region 17 with (fail)
                   repeat (go_quiet (fail); go_upto_region 17 with (fail))
                   go_cut [103] (fun v103 wc => ∃ (kq : Nat) (x103_95 : Bool), v103 = .bool x103_95 ∧ Aside0 (pianolalaw03_PunchFewest.j4 kq (wrap64 (1 + (Int.tmod (wrap64 (a1)) 26))) t723 x13_2 x14_4 x103_95 t714 t715 t716 t717 = some r) ∧ Aside0 (kq ≤ k4) ∧ Aside0 (Kd.R k47 47 wc w.heap.size (fun k_ => k_ ≠ gb722) v724 t723) ∧ Aside0 (wc.heap[gb707]? = some (.cells #[.int .u8 a0_0, .int .u8 a0_1, .int .u8 a0_2, .int .u8 a0_3, .int .u8 a0_4] 86 (0, 0))) ∧ Aside0 (wc.heap[gb713]? = some (.cells #[.int .i64 t708, .int .i64 t709, .int .i64 t710, .int .i64 t711, .int .i64 t712] 57 (0, 0))) ∧ Aside0 (wc.heap[gb719]? = some (.cells #[.int .i64 t714, .int .i64 t715] 55 (0, 0))) ∧ Aside0 (wc.heap[gb720]? = some (.cells #[.int .i64 t716, .int .i64 t717] 55 (0, 0))) ∧ Aside0 (wc.heap[gb722]? = some (.cells #[.int .i64 3, .int .i64 (wrap64 (3 + (wrap64 (1 + (Int.tmod (wrap64 (a1)) 26)))))] 47 (0, 0))) ∧ Aside0 (Below w.heap.size w wc))
                   case first =>
                    have H := HC96.out
                    clear HC96
                    by_cases c97 : x13_2 > 1
                    · rw [if_pos c97] at H
                      have c97b0 : decide (1 < x13_2) = true := decide_eq_true c97
                      clear c97
                      (first | rw [c97b0] | (simp only [i64_w, i32_w]; rw [c97b0]) | skip)
                      by_cases c98 : 0 < (t723.length : Int)
                      · rw [if_pos c98] at H
                        have c98b0 : decide (0 < (t723.length : Int)) = true := decide_eq_true c98
                        have c98b1 : decide (0 < t723.length) = true := decide_eq_true (by omega)
                        clear c98
                        have H' := Aside0.mk H
                        clear H
                        obtain ⟨Ao99, co99, eo99⟩ := Kd.R_slice HO_11.out
                        subst eo99
                        have p730 : 0 ≤ (0 : Int) := (by omega)
                        have q730 : 0 < (t723.length : Int) := of_decide_eq_true (by first | (with_reducible assumption) | assumption)
                        obtain ⟨ad730, e730, hx730_0, hx730_1⟩ := at_T47 (Kd.R_reads' HO_11.out).2.2 0 p730 q730
                        cases e730
                        have qi730 : (0 < t723.length) = True := eq_true (by omega)
                        (try rw [show ((0 : Int)).toNat = 0 from rfl] at hx730_0)
                        (try rw [show 0 * 2 = 0 from rfl] at hx730_0)
                        (try rw [Addr.add_zero'] at hx730_0)
                        (try rw [show ((0 : Int)).toNat = 0 from rfl] at hx730_1)
                        (try rw [show 0 * 2 = 0 from rfl] at hx730_1)
                        (try rw [Addr.add_zero'] at hx730_1)
                        replace p730 := eq_true p730
                        replace q730 := eq_true q730
                        have p731 : 0 ≤ (0 : Int) := (by omega)
                        have q731 : 0 < (t723.length : Int) := of_decide_eq_true (by first | (with_reducible assumption) | assumption)
                        obtain ⟨ad731, e731, hx731_0, hx731_1⟩ := at_T47 (Kd.R_reads' HO_11.out).2.2 0 p731 q731
                        obtain rfl : ad730 = ad731 := (by injection e731)
                        have qi731 : (0 < t723.length) = True := eq_true (by omega)
                        (try rw [show ((0 : Int)).toNat = 0 from rfl] at hx731_0)
                        (try rw [show 0 * 2 = 0 from rfl] at hx731_0)
                        (try rw [Addr.add_zero'] at hx731_0)
                        (try rw [show ((0 : Int)).toNat = 0 from rfl] at hx731_1)
                        (try rw [show 0 * 2 = 0 from rfl] at hx731_1)
                        (try rw [Addr.add_zero'] at hx731_1)
                        replace p731 := eq_true p731
                        replace q731 := eq_true q731
                        go_wp2
                        repeat (go_quiet (fail); try go_wp2)
                        go_meet
                        case rel => exact ⟨_, (decide (x14_4 > (wrap64 (((rd_T47 t723 0).f1) - ((rd_T47 t723 0).f0))))), (by first | rfl | (simp; done) | (simp [*]; done)), H', ⟨by have := HJ5.out; have := HK2.out; have := HJ63.out; have := HK4.out; first | omega | exact Nat.le_refl _⟩, ⟨by (with_reducible repeat (first | apply Kd.R_alloc | apply Kd.R_drewN | apply Kd.R_drew)); exact HO_11.out⟩, bkx_ BK707, bkx_ BK713, bkx_ BK719, bkx_ BK720, bkx_ BK722, blx_ HB⟩
                      · rw [if_neg c98] at H
                        exact absurd H (by simp)
                    · rw [if_neg c97] at H
                      have c97b0 : decide (1 < x13_2) = false := decide_eq_false c97
                      clear c97
                      (first | rw [c97b0] | (simp only [i64_w, i32_w]; rw [c97b0]) | skip)
                      have H' := Aside0.mk H
                      clear H
                      go_wp2
                      repeat (go_quiet (fail); try go_wp2)
                      go_meet
                      case rel => exact ⟨_, (false), (by first | rfl | (simp; done) | (simp [*]; done)), H', ⟨by have := HJ5.out; have := HK2.out; have := HJ63.out; have := HK4.out; first | omega | exact Nat.le_refl _⟩, ⟨by (with_reducible repeat (first | apply Kd.R_alloc | apply Kd.R_drewN | apply Kd.R_drew)); exact HO_11.out⟩, bkx_ BK707, bkx_ BK713, bkx_ BK719, bkx_ BK720, bkx_ BK722, blx_ HB⟩
                   case rest =>
                    clear HC96
                    try clear c1
                    try clear c2
                    try clear p2
                    try clear c3
                    try clear c4
                    try clear c5
                    try clear c5b0
                    try clear c5b1
                    try clear c6
                    try clear p6
                    try clear c7
                    try clear p7
                    try clear q7
                    try clear hx7
                    try clear qi7
                    try clear c8
                    try clear c9
                    try clear c11
                    try clear c13
                    try clear c16
                    try clear c17
                    try clear c18
                    try clear c20
                    try clear c21
                    try clear c23
                    try clear c23b0
                    try clear c23b1
                    try clear c24
                    try clear c24b0
                    try clear c25
                    try clear c26
                    try clear c27
                    try clear c29
                    try clear c29b0
                    try clear c30
                    try clear c31
                    try clear c32
                    try clear c34
                    try clear c35
                    try clear c37
                    try clear c38
                    try clear c39
                    try clear c41
                    try clear c42
                    try clear c44
                    try clear c45
                    try clear c46
                    try clear c48
                    try clear c51
                    try clear c52
                    try clear c53
                    try clear c54
                    try clear c56
                    try clear c57
                    try clear c58
                    try clear c61
                    try clear c61b0
                    try clear c63
                    try clear p64
                    try clear c65
                    try clear c66
                    try clear c67
                    try clear c68
                    try clear c70
                    try clear c71
                    try clear c72
                    try clear p73
                    try clear q73
                    try clear hx73
                    try clear qi73
                    try clear c75
                    try clear c75b0
                    try clear c75b1
                    try clear c76
                    try clear c76b0
                    try clear c76b1
                    try clear c79
                    try clear c80
                    try clear c81
                    try clear c82
                    try clear c84
                    try clear c85
                    try clear c86
                    try clear c90
                    try clear c91
                    try clear c92
                    try clear c93
                    try clear c94
                    try clear c97
                    try clear c97b0
                    try clear c98
                    try clear c98b0
                    try clear c98b1
                    try clear hcz12_0
                    try clear hcz12_1
                    try clear hcz12_2
                    try clear hcz12_3
                    try clear hcz12_4
                    try clear hcz19_0
                    try clear hcz19_1
                    try clear hcz22_0
                    try clear hcz22_1
                    try clear hcz28_0
                    try clear hcz28_1
                    try clear hcz33_0
                    try clear hcz33_1
                    try clear hcz36_0
                    try clear hcz36_1
                    try clear hcz40_0
                    try clear hcz40_1
                    try clear hcz43_0
                    try clear hcz43_1
                    try clear hcz47_0
                    try clear hcz47_1
                    try clear hcz55_0
                    try clear hcz55_1
                    try clear hcz59_0
                    try clear hcz59_1
                    try clear hcz59_2
                    try clear hcz59_3
                    try clear hcz59_4
                    try clear hcz69_0
                    try clear hcz69_1
                    try clear hcz73_0
                    try clear hcz73_1
                    try clear hcz83_0
                    try clear hcz83_1
                    try clear hcz83_2
                    try clear hcz83_3
                    try clear hcz83_4
                    try clear hcz87_0
                    try clear hcz87_1
                    try clear hcz8_0
                    try clear hcz8_1
                    try clear hcz8_2
                    try clear hcz8_3
                    try clear hcz8_4
                    try clear hcz95_0
                    try clear hcz95_1
                    try clear hfz12_0
                    try clear hfz12_1
                    try clear hfz12_2
                    try clear hfz12_3
                    try clear hfz12_4
                    try clear hfz19_0
                    try clear hfz19_1
                    try clear hfz22_0
                    try clear hfz22_1
                    try clear hfz28_0
                    try clear hfz28_1
                    try clear hfz33_0
                    try clear hfz33_1
                    try clear hfz36_0
                    try clear hfz36_1
                    try clear hfz40_0
                    try clear hfz40_1
                    try clear hfz43_0
                    try clear hfz43_1
                    try clear hfz47_0
                    try clear hfz47_1
                    try clear hfz55_0
                    try clear hfz55_1
                    try clear hfz59_0
                    try clear hfz59_1
                    try clear hfz59_2
                    try clear hfz59_3
                    try clear hfz59_4
                    try clear hfz69_0
                    try clear hfz69_1
                    try clear hfz73_0
                    try clear hfz73_1
                    try clear hfz83_0
                    try clear hfz83_1
                    try clear hfz83_2
                    try clear hfz83_3
                    try clear hfz83_4
                    try clear hfz87_0
                    try clear hfz87_1
                    try clear hfz8_0
                    try clear hfz8_1
                    try clear hfz8_2
                    try clear hfz8_3
                    try clear hfz8_4
                    try clear hfz95_0
                    try clear hfz95_1
                    try clear hx730_0
                    try clear hx730_1
                    try clear hx731_0
                    try clear hx731_1
                    try clear p2
                    try clear p6
                    try clear p64
                    try clear p730
                    try clear p731
                    try clear q730
                    try clear q731
                    obtain ⟨kq, x103_95, rfl, HA, HJ95, HO_11, BK707, BK713, BK719, BK720, BK722, HB⟩ := hcut
                    cases kq with
                    | zero => exact absurd HA.out (by simp [pianolalaw03_PunchFewest.j4])
                    | succ kj95 =>
                     have H := HA.out
                     clear HA
                     simp only [pianolalaw03_PunchFewest.j4] at H
                     by_cases c100 : x103_95 = true
                     · subst c100
                       have H1 : (pianolalaw03_PunchFewest.l2 kj95 (wrap64 (1 + (Int.tmod (wrap64 (a1)) 26))) t723 x13_2 x14_4 (mx 1 t716) t714 t715 t716 t717) = some r := by rw [if_pos rfl] at H; exact H
                       clear H
                       have H := H1
                       clear H1
                       obtain ⟨ji101, hji101⟩ : ∃ j_ : Int, (mx 1 t716) = j_ := ⟨_, rfl⟩
                       replace H : (pianolalaw03_PunchFewest.l2 kj95 (wrap64 (1 + (Int.tmod (wrap64 (a1)) 26))) t723 x13_2 x14_4 ji101 t714 t715 t716 t717) = some r := by first | (rw [hji101] at H; exact H) | (simp only [hji101] at H ⊢; exact H)
                       have hji101_ : (if 1 < t716 then t716 else 1) = ji101 := hji101
                       have H' := Aside0.mk H
                       clear H
                       have hnb102 := NB720_707.out
                       have hnc102 := NB707_720.out
                       have hnb103 := NB720_713.out
                       have hnc103 := NB713_720.out
                       have hnb104 := NB720_719.out
                       have hnc104 := NB719_720.out
                       have hnb105 := NB720_722.out
                       have hnc105 := NB722_720.out
                       have hcz106_0 := bkc_ BK720 0 (.int .i64 t716) rfl
                       have hcz106_1 := bkc_ BK720 1 (.int .i64 t717) rfl
                       have hfz106_0 := blk_frozen BK720.out 0
                       have hfz106_1 := blk_frozen BK720.out 1
                       go_wp2
                       repeat (go_quiet (fail); try go_wp2)
                       go_loopg [15] kj95 (fun kq v15 w' => ∃ (x15_6 : Int), v15 = .int .i64 x15_6 ∧ Aside0 (pianolalaw03_PunchFewest.l2 kq (wrap64 (1 + (Int.tmod (wrap64 (a1)) 26))) t723 x13_2 x14_4 x15_6 t714 t715 t716 t717 = some r) ∧ Aside0 (kq ≤ kj95) ∧ Aside0 (Kd.R k47 47 w' w.heap.size (fun k_ => k_ ≠ gb722) v724 t723) ∧ Aside0 (w'.heap[gb707]? = some (.cells #[.int .u8 a0_0, .int .u8 a0_1, .int .u8 a0_2, .int .u8 a0_3, .int .u8 a0_4] 86 (0, 0))) ∧ Aside0 (w'.heap[gb713]? = some (.cells #[.int .i64 t708, .int .i64 t709, .int .i64 t710, .int .i64 t711, .int .i64 t712] 57 (0, 0))) ∧ Aside0 (w'.heap[gb719]? = some (.cells #[.int .i64 t714, .int .i64 t715] 55 (0, 0))) ∧ Aside0 (w'.heap[gb720]? = some (.cells #[.int .i64 t716, .int .i64 t717] 55 (0, 0))) ∧ Aside0 (w'.heap[gb722]? = some (.cells #[.int .i64 3, .int .i64 (wrap64 (3 + (wrap64 (1 + (Int.tmod (wrap64 (a1)) 26)))))] 47 (0, 0))) ∧ Aside0 (Below w.heap.size w w'))
                       case atStart => exact ⟨(ji101), (by first | rfl | (simp; done) | (simp only [← hji101] <;> (first | rfl | simp)) | (simp [*]; done)), H', ⟨Nat.le_refl _⟩, ⟨by (with_reducible repeat (first | apply Kd.R_alloc | apply Kd.R_drewN | apply Kd.R_drew)); exact HO_11.out⟩, bkx_ BK707, bkx_ BK713, bkx_ BK719, bkx_ BK720, bkx_ BK722, blx_ HB⟩
                       case round =>
                        clear H'
                        try clear c1
                        try clear c2
                        try clear p2
                        try clear c3
                        try clear c4
                        try clear c5
                        try clear c5b0
                        try clear c5b1
                        try clear c6
                        try clear p6
                        try clear c7
                        try clear p7
                        try clear q7
                        try clear hx7
                        try clear qi7
                        try clear c8
                        try clear c9
                        try clear c10
                        try clear c11
                        try clear c13
                        try clear c16
                        try clear c17
                        try clear c18
                        try clear c20
                        try clear c21
                        try clear c23
                        try clear c23b0
                        try clear c23b1
                        try clear c24
                        try clear c24b0
                        try clear c25
                        try clear c26
                        try clear c27
                        try clear c29
                        try clear c29b0
                        try clear c30
                        try clear c31
                        try clear c32
                        try clear c34
                        try clear c35
                        try clear c37
                        try clear c38
                        try clear c39
                        try clear c41
                        try clear c42
                        try clear c44
                        try clear c45
                        try clear c46
                        try clear c48
                        try clear c51
                        try clear c52
                        try clear c53
                        try clear c54
                        try clear c56
                        try clear c57
                        try clear c58
                        try clear c61
                        try clear c61b0
                        try clear c63
                        try clear p64
                        try clear c65
                        try clear c66
                        try clear c67
                        try clear c68
                        try clear c70
                        try clear c71
                        try clear c72
                        try clear p73
                        try clear q73
                        try clear hx73
                        try clear qi73
                        try clear c75
                        try clear c75b0
                        try clear c75b1
                        try clear c76
                        try clear c76b0
                        try clear c76b1
                        try clear c79
                        try clear c80
                        try clear c81
                        try clear c82
                        try clear c84
                        try clear c85
                        try clear c86
                        try clear c90
                        try clear c91
                        try clear c92
                        try clear c93
                        try clear c94
                        try clear c97
                        try clear c97b0
                        try clear c98
                        try clear c98b0
                        try clear c98b1
                        try clear c100
                        try clear c102
                        try clear c103
                        try clear c104
                        try clear c105
                        try clear hcz106_0
                        try clear hcz106_1
                        try clear hcz12_0
                        try clear hcz12_1
                        try clear hcz12_2
                        try clear hcz12_3
                        try clear hcz12_4
                        try clear hcz19_0
                        try clear hcz19_1
                        try clear hcz22_0
                        try clear hcz22_1
                        try clear hcz28_0
                        try clear hcz28_1
                        try clear hcz33_0
                        try clear hcz33_1
                        try clear hcz36_0
                        try clear hcz36_1
                        try clear hcz40_0
                        try clear hcz40_1
                        try clear hcz43_0
                        try clear hcz43_1
                        try clear hcz47_0
                        try clear hcz47_1
                        try clear hcz55_0
                        try clear hcz55_1
                        try clear hcz59_0
                        try clear hcz59_1
                        try clear hcz59_2
                        try clear hcz59_3
                        try clear hcz59_4
                        try clear hcz69_0
                        try clear hcz69_1
                        try clear hcz73_0
                        try clear hcz73_1
                        try clear hcz83_0
                        try clear hcz83_1
                        try clear hcz83_2
                        try clear hcz83_3
                        try clear hcz83_4
                        try clear hcz87_0
                        try clear hcz87_1
                        try clear hcz8_0
                        try clear hcz8_1
                        try clear hcz8_2
                        try clear hcz8_3
                        try clear hcz8_4
                        try clear hcz95_0
                        try clear hcz95_1
                        try clear hfz106_0
                        try clear hfz106_1
                        try clear hfz12_0
                        try clear hfz12_1
                        try clear hfz12_2
                        try clear hfz12_3
                        try clear hfz12_4
                        try clear hfz19_0
                        try clear hfz19_1
                        try clear hfz22_0
                        try clear hfz22_1
                        try clear hfz28_0
                        try clear hfz28_1
                        try clear hfz33_0
                        try clear hfz33_1
                        try clear hfz36_0
                        try clear hfz36_1
                        try clear hfz40_0
                        try clear hfz40_1
                        try clear hfz43_0
                        try clear hfz43_1
                        try clear hfz47_0
                        try clear hfz47_1
                        try clear hfz55_0
                        try clear hfz55_1
                        try clear hfz59_0
                        try clear hfz59_1
                        try clear hfz59_2
                        try clear hfz59_3
                        try clear hfz59_4
                        try clear hfz69_0
                        try clear hfz69_1
                        try clear hfz73_0
                        try clear hfz73_1
                        try clear hfz83_0
                        try clear hfz83_1
                        try clear hfz83_2
                        try clear hfz83_3
                        try clear hfz83_4
                        try clear hfz87_0
                        try clear hfz87_1
                        try clear hfz8_0
                        try clear hfz8_1
                        try clear hfz8_2
                        try clear hfz8_3
                        try clear hfz8_4
                        try clear hfz95_0
                        try clear hfz95_1
                        try clear hx730_0
                        try clear hx730_1
                        try clear hx731_0
                        try clear hx731_1
                        try clear p2
                        try clear p6
                        try clear p64
                        try clear p7
                        try clear p73
                        try clear p730
                        try clear p731
                        try clear q7
                        try clear q73
                        try clear q730
                        try clear q731
                        obtain ⟨x15_6, rfl, HA, HK6, HO_11, BK707, BK713, BK719, BK720, BK722, HB⟩ := hrel
                        cases gk with
                        | zero => exact absurd HA.out (by simp [pianolalaw03_PunchFewest.l2])
                        | succ k6 =>
                         have H := HA.out
                         clear HA
                         simp only [pianolalaw03_PunchFewest.l2] at H
                         by_cases c107 : x15_6 ≤ t717
                         · rw [if_pos c107] at H
                           have c107b0 : decide (x15_6 ≤ t717) = true := decide_eq_true c107
                           clear c107
                           by_cases c108 : (wrap64 ((wrap64 ((wrap64 (1 + (Int.tmod (wrap64 (a1)) 26))) - x14_4)) - x15_6)) ≥ 1
                           · rw [if_pos c108] at H
                             have c108b0 : decide (1 ≤ (wrap64 ((wrap64 ((wrap64 (1 + (Int.tmod (wrap64 (a1)) 26))) - x14_4)) - x15_6))) = true := decide_eq_true c108
                             clear c108
                             replace H := Option.bind_eq_some_iff.mp H
                             obtain ⟨t733, A1090, H⟩ := H
                             replace H : (if t733 = true then (none) else (pianolalaw03_PunchFewest.l2 k6 (wrap64 (1 + (Int.tmod (wrap64 (a1)) 26))) t723 x13_2 x14_4 (wrap64 (x15_6 + 1)) t714 t715 t716 t717)) = some r := H
                             have A109 := Aside0.mk A1090
                             clear A1090
                             by_cases c110 : t733 = true
                             · subst c110
                               have H1 : (none) = some r := by rw [if_pos rfl] at H; exact H
                               clear H
                               have H := H1
                               clear H1
                               exact absurd H (by simp)
                             · replace c110 := Bool.eq_false_iff.mpr c110
                               subst c110
                               have H1 : (pianolalaw03_PunchFewest.l2 k6 (wrap64 (1 + (Int.tmod (wrap64 (a1)) 26))) t723 x13_2 x14_4 (wrap64 (x15_6 + 1)) t714 t715 t716 t717) = some r := by rw [if_neg (show ¬ (false = true) by decide)] at H; exact H
                               clear H
                               have H := H1
                               clear H1
                               have H' := Aside0.mk H
                               clear H
                               have hnb111 := NB720_707.out
                               have hnc111 := NB707_720.out
                               have hnb112 := NB720_713.out
                               have hnc112 := NB713_720.out
                               have hnb113 := NB720_719.out
                               have hnc113 := NB719_720.out
                               have hnb114 := NB720_722.out
                               have hnc114 := NB722_720.out
                               have hcz115_0 := bkc_ BK720 0 (.int .i64 t716) rfl
                               have hcz115_1 := bkc_ BK720 1 (.int .i64 t717) rfl
                               have hfz115_0 := blk_frozen BK720.out 0
                               have hfz115_1 := blk_frozen BK720.out 1
                               have hnb116 := NB719_707.out
                               have hnc116 := NB707_719.out
                               have hnb117 := NB719_713.out
                               have hnc117 := NB713_719.out
                               have hnb118 := NB719_722.out
                               have hnc118 := NB722_719.out
                               have hcz119_0 := bkc_ BK719 0 (.int .i64 t714) rfl
                               have hcz119_1 := bkc_ BK719 1 (.int .i64 t715) rfl
                               have hfz119_0 := blk_frozen BK719.out 0
                               have hfz119_1 := blk_frozen BK719.out 1
                               go_wp2_with (first | (go_at_call 45; (with_reducible refine (pianolalaw03_divided.calls k6 t714 t715 t716 t717 (wrap64 ((wrap64 ((wrap64 (1 + (Int.tmod (wrap64 (a1)) 26))) - x14_4)) - x15_6)) (wrap64 (x13_2 - 1)) false _ A109.out).mono ?_); rintro e w120 ⟨rfl, hb⟩; have n0_ := Aside0.mk (Kd.R_below (by (with_reducible repeat (first | apply Kd.R_alloc | apply Kd.R_drewN | apply Kd.R_drew)); exact HO_11.out) hb); have n1_ := bkb_ BK707 hb; have n2_ := bkb_ BK713 hb; have n3_ := bkb_ BK719 hb; have n4_ := bkb_ BK720 hb; have n5_ := bkb_ BK722 hb; have n6_ := bls_ HB hb; clear HO_11; clear BK707; clear BK713; clear BK719; clear BK720; clear BK722; clear HB; have HO_11 := n0_; have BK707 := n1_; have BK713 := n2_; have BK719 := n3_; have BK720 := n4_; have BK722 := n5_; have HB := n6_; clear n0_ n1_ n2_ n3_ n4_ n5_ n6_; (try clear hb); (try clear hb2); (try clear hk); (try clear hi)))
                               repeat (go_quiet (first | (go_at_call 45; (with_reducible refine (pianolalaw03_divided.calls k6 t714 t715 t716 t717 (wrap64 ((wrap64 ((wrap64 (1 + (Int.tmod (wrap64 (a1)) 26))) - x14_4)) - x15_6)) (wrap64 (x13_2 - 1)) false _ A109.out).mono ?_); rintro e w120 ⟨rfl, hb⟩; have n0_ := Aside0.mk (Kd.R_below (by (with_reducible repeat (first | apply Kd.R_alloc | apply Kd.R_drewN | apply Kd.R_drew)); exact HO_11.out) hb); have n1_ := bkb_ BK707 hb; have n2_ := bkb_ BK713 hb; have n3_ := bkb_ BK719 hb; have n4_ := bkb_ BK720 hb; have n5_ := bkb_ BK722 hb; have n6_ := bls_ HB hb; clear HO_11; clear BK707; clear BK713; clear BK719; clear BK720; clear BK722; clear HB; have HO_11 := n0_; have BK707 := n1_; have BK713 := n2_; have BK719 := n3_; have BK720 := n4_; have BK722 := n5_; have HB := n6_; clear n0_ n1_ n2_ n3_ n4_ n5_ n6_; (try clear hb); (try clear hb2); (try clear hk); (try clear hi))); try go_wp2_with (first | (go_at_call 45; (with_reducible refine (pianolalaw03_divided.calls k6 t714 t715 t716 t717 (wrap64 ((wrap64 ((wrap64 (1 + (Int.tmod (wrap64 (a1)) 26))) - x14_4)) - x15_6)) (wrap64 (x13_2 - 1)) false _ A109.out).mono ?_); rintro e w120 ⟨rfl, hb⟩; have n0_ := Aside0.mk (Kd.R_below (by (with_reducible repeat (first | apply Kd.R_alloc | apply Kd.R_drewN | apply Kd.R_drew)); exact HO_11.out) hb); have n1_ := bkb_ BK707 hb; have n2_ := bkb_ BK713 hb; have n3_ := bkb_ BK719 hb; have n4_ := bkb_ BK720 hb; have n5_ := bkb_ BK722 hb; have n6_ := bls_ HB hb; clear HO_11; clear BK707; clear BK713; clear BK719; clear BK720; clear BK722; clear HB; have HO_11 := n0_; have BK707 := n1_; have BK713 := n2_; have BK719 := n3_; have BK720 := n4_; have BK722 := n5_; have HB := n6_; clear n0_ n1_ n2_ n3_ n4_ n5_ n6_; (try clear hb); (try clear hb2); (try clear hk); (try clear hi))))
                               go_roundg k6
                               case measure => have := HJ5.out; have := HK2.out; have := HJ63.out; have := HK4.out; have := HJ95.out; have := HK6.out; omega
                               case rel => exact ⟨(wrap64 (x15_6 + 1)), (by first | rfl | (simp; done) | (simp [*]; done)), H', ⟨by have := HJ5.out; have := HK2.out; have := HJ63.out; have := HK4.out; have := HJ95.out; have := HK6.out; omega⟩, ⟨by (with_reducible repeat (first | apply Kd.R_alloc | apply Kd.R_drewN | apply Kd.R_drew)); exact HO_11.out⟩, bkx_ BK707, bkx_ BK713, bkx_ BK719, bkx_ BK720, bkx_ BK722, blx_ HB⟩
                           · rw [if_neg c108] at H
                             have c108b0 : decide (1 ≤ (wrap64 ((wrap64 ((wrap64 (1 + (Int.tmod (wrap64 (a1)) 26))) - x14_4)) - x15_6))) = false := decide_eq_false c108
                             clear c108
                             have H' := Aside0.mk H
                             clear H
                             have hnb121 := NB720_707.out
                             have hnc121 := NB707_720.out
                             have hnb122 := NB720_713.out
                             have hnc122 := NB713_720.out
                             have hnb123 := NB720_719.out
                             have hnc123 := NB719_720.out
                             have hnb124 := NB720_722.out
                             have hnc124 := NB722_720.out
                             have hcz125_0 := bkc_ BK720 0 (.int .i64 t716) rfl
                             have hcz125_1 := bkc_ BK720 1 (.int .i64 t717) rfl
                             have hfz125_0 := blk_frozen BK720.out 0
                             have hfz125_1 := blk_frozen BK720.out 1
                             go_wp2
                             repeat (go_quiet (fail); try go_wp2)
                             go_roundg k6
                             case measure => have := HJ5.out; have := HK2.out; have := HJ63.out; have := HK4.out; have := HJ95.out; have := HK6.out; omega
                             case rel => exact ⟨(wrap64 (x15_6 + 1)), (by first | rfl | (simp; done) | (simp [*]; done)), H', ⟨by have := HJ5.out; have := HK2.out; have := HJ63.out; have := HK4.out; have := HJ95.out; have := HK6.out; omega⟩, ⟨by (with_reducible repeat (first | apply Kd.R_alloc | apply Kd.R_drewN | apply Kd.R_drew)); exact HO_11.out⟩, bkx_ BK707, bkx_ BK713, bkx_ BK719, bkx_ BK720, bkx_ BK722, blx_ HB⟩
                         · rw [if_neg c107] at H
                           have c107b0 : decide (x15_6 ≤ t717) = false := decide_eq_false c107
                           clear c107
                           have H' := Aside0.mk H
                           clear H
                           have hnb126 := NB720_707.out
                           have hnc126 := NB707_720.out
                           have hnb127 := NB720_713.out
                           have hnc127 := NB713_720.out
                           have hnb128 := NB720_719.out
                           have hnc128 := NB719_720.out
                           have hnb129 := NB720_722.out
                           have hnc129 := NB722_720.out
                           have hcz130_0 := bkc_ BK720 0 (.int .i64 t716) rfl
                           have hcz130_1 := bkc_ BK720 1 (.int .i64 t717) rfl
                           have hfz130_0 := blk_frozen BK720.out 0
                           have hfz130_1 := blk_frozen BK720.out 1
                           go_wp2
                           repeat (go_quiet (fail); try go_wp2)
                           go_roundg k6
                           case measure => have := HJ5.out; have := HK2.out; have := HJ63.out; have := HK4.out; have := HJ95.out; have := HK6.out; omega
                           case rel => exact ⟨(wrap64 (x14_4 - 1)), (by first | rfl | (simp; done) | (simp [*]; done)), H', ⟨by have := HJ5.out; have := HK2.out; have := HJ63.out; have := HK4.out; have := HJ95.out; have := HK6.out; omega⟩, ⟨by (with_reducible repeat (first | apply Kd.R_alloc | apply Kd.R_drewN | apply Kd.R_drew)); exact HO_11.out⟩, bkx_ BK707, bkx_ BK713, bkx_ BK719, bkx_ BK720, bkx_ BK722, blx_ HB⟩
                     · replace c100 := Bool.eq_false_iff.mpr c100
                       subst c100
                       have H1 : ((pianolalaw03_works.f kj95).bind fun t732 => (some t732)) = some r := by rw [if_neg (show ¬ (false = true) by decide)] at H; exact H
                       clear H
                       have H := H1
                       clear H1
                       replace H := Option.bind_eq_some_iff.mp H
                       obtain ⟨t732, A1310, H⟩ := H
                       replace H : (some t732) = some r := H
                       have A131 := Aside0.mk A1310
                       clear A1310
                       obtain rfl := Option.some.inj H
                       go_wp2_with (first | (go_at_call 15; (with_reducible refine (pianolalaw03_works.calls kj95  t732 _ A131.out).mono ?_); rintro e w132 ⟨rfl, hb⟩; have n0_ := Aside0.mk (Kd.R_below (by (with_reducible repeat (first | apply Kd.R_alloc | apply Kd.R_drewN | apply Kd.R_drew)); exact HO_11.out) hb); have n1_ := bkb_ BK707 hb; have n2_ := bkb_ BK713 hb; have n3_ := bkb_ BK719 hb; have n4_ := bkb_ BK720 hb; have n5_ := bkb_ BK722 hb; have n6_ := bls_ HB hb; clear HO_11; clear BK707; clear BK713; clear BK719; clear BK720; clear BK722; clear HB; have HO_11 := n0_; have BK707 := n1_; have BK713 := n2_; have BK719 := n3_; have BK720 := n4_; have BK722 := n5_; have HB := n6_; clear n0_ n1_ n2_ n3_ n4_ n5_ n6_; (try clear hb); (try clear hb2); (try clear hk); (try clear hi)))
                       repeat (go_quiet (first | (go_at_call 15; (with_reducible refine (pianolalaw03_works.calls kj95  t732 _ A131.out).mono ?_); rintro e w132 ⟨rfl, hb⟩; have n0_ := Aside0.mk (Kd.R_below (by (with_reducible repeat (first | apply Kd.R_alloc | apply Kd.R_drewN | apply Kd.R_drew)); exact HO_11.out) hb); have n1_ := bkb_ BK707 hb; have n2_ := bkb_ BK713 hb; have n3_ := bkb_ BK719 hb; have n4_ := bkb_ BK720 hb; have n5_ := bkb_ BK722 hb; have n6_ := bls_ HB hb; clear HO_11; clear BK707; clear BK713; clear BK719; clear BK720; clear BK722; clear HB; have HO_11 := n0_; have BK707 := n1_; have BK713 := n2_; have BK719 := n3_; have BK720 := n4_; have BK722 := n5_; have HB := n6_; clear n0_ n1_ n2_ n3_ n4_ n5_ n6_; (try clear hb); (try clear hb2); (try clear hk); (try clear hi))); try go_wp2_with (first | (go_at_call 15; (with_reducible refine (pianolalaw03_works.calls kj95  t732 _ A131.out).mono ?_); rintro e w132 ⟨rfl, hb⟩; have n0_ := Aside0.mk (Kd.R_below (by (with_reducible repeat (first | apply Kd.R_alloc | apply Kd.R_drewN | apply Kd.R_drew)); exact HO_11.out) hb); have n1_ := bkb_ BK707 hb; have n2_ := bkb_ BK713 hb; have n3_ := bkb_ BK719 hb; have n4_ := bkb_ BK720 hb; have n5_ := bkb_ BK722 hb; have n6_ := bls_ HB hb; clear HO_11; clear BK707; clear BK713; clear BK719; clear BK720; clear BK722; clear HB; have HO_11 := n0_; have BK707 := n1_; have BK713 := n2_; have BK719 := n3_; have BK720 := n4_; have BK722 := n5_; have HB := n6_; clear n0_ n1_ n2_ n3_ n4_ n5_ n6_; (try clear hb); (try clear hb2); (try clear hk); (try clear hi))))
                       go_ret
                       exact ⟨by first | rfl | (simp [errW_none, errW_some] <;> rfl) | (simp [*, errW_none, errW_some] <;> rfl), by repeat (first | (with_reducible first | exact HB.out | apply below_alloc | apply pw_below_drewN | apply below_drew1 | refine below_set ?_ GE707.out | refine below_set ?_ GE713.out | refine below_set ?_ GE719.out | refine below_set ?_ GE720.out | refine below_set ?_ GE722.out) | exact HB.out)⟩
           · replace c63 := Bool.eq_false_iff.mpr c63
             subst c63
             have H1 : (pianolalaw03_PunchFewest.l0 k2 (wrap64 (1 + (Int.tmod (wrap64 (a1)) 26))) t723 t726 (wrap64 (x13_2 + 1)) t708 t709 t710 t711 t712 t714 t715 t716 t717 3 (wrap64 (3 + (wrap64 (1 + (Int.tmod (wrap64 (a1)) 26)))))) = some r := by rw [if_neg (show ¬ (false = true) by decide)] at H; exact H
             clear H
             have H := H1
             clear H1
             have H' := Aside0.mk H
             clear H
             have hnb133 := NB719_707.out
             have hnc133 := NB707_719.out
             have hnb134 := NB719_713.out
             have hnc134 := NB713_719.out
             have hnb135 := NB719_720.out
             have hnc135 := NB720_719.out
             have hnb136 := NB719_722.out
             have hnc136 := NB722_719.out
             have hcz137_0 := bkc_ BK719 0 (.int .i64 t714) rfl
             have hcz137_1 := bkc_ BK719 1 (.int .i64 t715) rfl
             have hfz137_0 := blk_frozen BK719.out 0
             have hfz137_1 := blk_frozen BK719.out 1
             have hnb138 := NB720_707.out
             have hnc138 := NB707_720.out
             have hnb139 := NB720_713.out
             have hnc139 := NB713_720.out
             have hnb140 := NB720_722.out
             have hnc140 := NB722_720.out
             have hcz141_0 := bkc_ BK720 0 (.int .i64 t716) rfl
             have hcz141_1 := bkc_ BK720 1 (.int .i64 t717) rfl
             have hfz141_0 := blk_frozen BK720.out 0
             have hfz141_1 := blk_frozen BK720.out 1
             go_wp2_with (first | (go_at_call 45; (with_reducible refine (pianolalaw03_divided.calls k2 t714 t715 t716 t717 (wrap64 (1 + (Int.tmod (wrap64 (a1)) 26))) x13_2 false _ A62.out).mono ?_); rintro e w142 ⟨rfl, hb⟩; have n0_ := Aside0.mk (Kd.R_below (by (with_reducible repeat (first | apply Kd.R_alloc | apply Kd.R_drewN | apply Kd.R_drew)); exact HO_11.out) hb); have n1_ := bkb_ BK707 hb; have n2_ := bkb_ BK713 hb; have n3_ := bkb_ BK719 hb; have n4_ := bkb_ BK720 hb; have n5_ := bkb_ BK722 hb; have n6_ := bls_ HB hb; clear HO_11; clear BK707; clear BK713; clear BK719; clear BK720; clear BK722; clear HB; have HO_11 := n0_; have BK707 := n1_; have BK713 := n2_; have BK719 := n3_; have BK720 := n4_; have BK722 := n5_; have HB := n6_; clear n0_ n1_ n2_ n3_ n4_ n5_ n6_; (try clear hb); (try clear hb2); (try clear hk); (try clear hi)))
             repeat (go_quiet (first | (go_at_call 45; (with_reducible refine (pianolalaw03_divided.calls k2 t714 t715 t716 t717 (wrap64 (1 + (Int.tmod (wrap64 (a1)) 26))) x13_2 false _ A62.out).mono ?_); rintro e w142 ⟨rfl, hb⟩; have n0_ := Aside0.mk (Kd.R_below (by (with_reducible repeat (first | apply Kd.R_alloc | apply Kd.R_drewN | apply Kd.R_drew)); exact HO_11.out) hb); have n1_ := bkb_ BK707 hb; have n2_ := bkb_ BK713 hb; have n3_ := bkb_ BK719 hb; have n4_ := bkb_ BK720 hb; have n5_ := bkb_ BK722 hb; have n6_ := bls_ HB hb; clear HO_11; clear BK707; clear BK713; clear BK719; clear BK720; clear BK722; clear HB; have HO_11 := n0_; have BK707 := n1_; have BK713 := n2_; have BK719 := n3_; have BK720 := n4_; have BK722 := n5_; have HB := n6_; clear n0_ n1_ n2_ n3_ n4_ n5_ n6_; (try clear hb); (try clear hb2); (try clear hk); (try clear hi))); try go_wp2_with (first | (go_at_call 45; (with_reducible refine (pianolalaw03_divided.calls k2 t714 t715 t716 t717 (wrap64 (1 + (Int.tmod (wrap64 (a1)) 26))) x13_2 false _ A62.out).mono ?_); rintro e w142 ⟨rfl, hb⟩; have n0_ := Aside0.mk (Kd.R_below (by (with_reducible repeat (first | apply Kd.R_alloc | apply Kd.R_drewN | apply Kd.R_drew)); exact HO_11.out) hb); have n1_ := bkb_ BK707 hb; have n2_ := bkb_ BK713 hb; have n3_ := bkb_ BK719 hb; have n4_ := bkb_ BK720 hb; have n5_ := bkb_ BK722 hb; have n6_ := bls_ HB hb; clear HO_11; clear BK707; clear BK713; clear BK719; clear BK720; clear BK722; clear HB; have HO_11 := n0_; have BK707 := n1_; have BK713 := n2_; have BK719 := n3_; have BK720 := n4_; have BK722 := n5_; have HB := n6_; clear n0_ n1_ n2_ n3_ n4_ n5_ n6_; (try clear hb); (try clear hb2); (try clear hk); (try clear hi))))
             go_roundg k2
             case measure => have := HJ5.out; have := HK2.out; omega
             case rel => exact ⟨(wrap64 (x13_2 + 1)), (by first | rfl | (simp; done) | (simp [*]; done)), H', ⟨by have := HJ5.out; have := HK2.out; omega⟩, ⟨by (with_reducible repeat (first | apply Kd.R_alloc | apply Kd.R_drewN | apply Kd.R_drew)); exact HO_11.out⟩, bkx_ BK707, bkx_ BK713, bkx_ BK719, bkx_ BK720, bkx_ BK722, blx_ HB⟩
         · rw [if_neg c61] at H
           have c61b0 : decide (x13_2 ≤ 14) = false := decide_eq_false c61
           clear c61
           by_cases c143 : t726 = 20
           · rw [if_pos c143] at H
             have c143b0 : (t726 == 20) = true := beq_iff_eq.mpr c143
             have c143b1 : (t726 != 20) = false := bne_eq_false_iff_eq.mpr c143
             clear c143
             by_cases c144 : (t723.length : Int) = 0
             · rw [if_pos c144] at H
               have c144b0 : ((t723.length : Int) == 0) = true := beq_iff_eq.mpr c144
               have c144b1 : ((t723.length : Int) != 0) = false := bne_eq_false_iff_eq.mpr c144
               clear c144
               replace H := Option.bind_eq_some_iff.mp H
               obtain ⟨t727, A1450, H⟩ := H
               replace H : (some t727) = some r := H
               have A145 := Aside0.mk A1450
               clear A1450
               obtain rfl := Option.some.inj H
               obtain ⟨Ao146, co146, eo146⟩ := Kd.R_slice HO_11.out
               subst eo146
               go_wp2_with (first | (go_at_call 15; (with_reducible refine (pianolalaw03_works.calls k2  t727 _ A145.out).mono ?_); rintro e w147 ⟨rfl, hb⟩; have n0_ := Aside0.mk (Kd.R_below (by (with_reducible repeat (first | apply Kd.R_alloc | apply Kd.R_drewN | apply Kd.R_drew)); exact HO_11.out) hb); have n1_ := bkb_ BK707 hb; have n2_ := bkb_ BK713 hb; have n3_ := bkb_ BK719 hb; have n4_ := bkb_ BK720 hb; have n5_ := bkb_ BK722 hb; have n6_ := bls_ HB hb; clear HO_11; clear BK707; clear BK713; clear BK719; clear BK720; clear BK722; clear HB; have HO_11 := n0_; have BK707 := n1_; have BK713 := n2_; have BK719 := n3_; have BK720 := n4_; have BK722 := n5_; have HB := n6_; clear n0_ n1_ n2_ n3_ n4_ n5_ n6_; (try clear hb); (try clear hb2); (try clear hk); (try clear hi)))
               repeat (go_quiet (first | (go_at_call 15; (with_reducible refine (pianolalaw03_works.calls k2  t727 _ A145.out).mono ?_); rintro e w147 ⟨rfl, hb⟩; have n0_ := Aside0.mk (Kd.R_below (by (with_reducible repeat (first | apply Kd.R_alloc | apply Kd.R_drewN | apply Kd.R_drew)); exact HO_11.out) hb); have n1_ := bkb_ BK707 hb; have n2_ := bkb_ BK713 hb; have n3_ := bkb_ BK719 hb; have n4_ := bkb_ BK720 hb; have n5_ := bkb_ BK722 hb; have n6_ := bls_ HB hb; clear HO_11; clear BK707; clear BK713; clear BK719; clear BK720; clear BK722; clear HB; have HO_11 := n0_; have BK707 := n1_; have BK713 := n2_; have BK719 := n3_; have BK720 := n4_; have BK722 := n5_; have HB := n6_; clear n0_ n1_ n2_ n3_ n4_ n5_ n6_; (try clear hb); (try clear hb2); (try clear hk); (try clear hi))); try go_wp2_with (first | (go_at_call 15; (with_reducible refine (pianolalaw03_works.calls k2  t727 _ A145.out).mono ?_); rintro e w147 ⟨rfl, hb⟩; have n0_ := Aside0.mk (Kd.R_below (by (with_reducible repeat (first | apply Kd.R_alloc | apply Kd.R_drewN | apply Kd.R_drew)); exact HO_11.out) hb); have n1_ := bkb_ BK707 hb; have n2_ := bkb_ BK713 hb; have n3_ := bkb_ BK719 hb; have n4_ := bkb_ BK720 hb; have n5_ := bkb_ BK722 hb; have n6_ := bls_ HB hb; clear HO_11; clear BK707; clear BK713; clear BK719; clear BK720; clear BK722; clear HB; have HO_11 := n0_; have BK707 := n1_; have BK713 := n2_; have BK719 := n3_; have BK720 := n4_; have BK722 := n5_; have HB := n6_; clear n0_ n1_ n2_ n3_ n4_ n5_ n6_; (try clear hb); (try clear hb2); (try clear hk); (try clear hi))))
               go_ret
               exact ⟨by first | rfl | (simp [errW_none, errW_some] <;> rfl) | (simp [*, errW_none, errW_some] <;> rfl), by repeat (first | (with_reducible first | exact HB.out | apply below_alloc | apply pw_below_drewN | apply below_drew1 | refine below_set ?_ GE707.out | refine below_set ?_ GE713.out | refine below_set ?_ GE719.out | refine below_set ?_ GE720.out | refine below_set ?_ GE722.out) | exact HB.out)⟩
             · rw [if_neg c144] at H
               exact absurd H (by simp)
           · rw [if_neg c143] at H
             exact absurd H (by simp)
 · rw [if_neg c5] at H
   have c5b0 : (t718 == 0) = false := beq_eq_false_iff_ne.mpr c5
   have c5b1 : (t718 != 0) = true := bne_iff_ne.mpr c5
   by_cases c148 : t718 = 20
   · rw [if_pos c148] at H
     have c148b0 : (t718 == 20) = true := beq_iff_eq.mpr c148
     have c148b1 : (t718 != 20) = false := bne_eq_false_iff_eq.mpr c148
     clear c148
     replace H := Option.bind_eq_some_iff.mp H
     obtain ⟨t721, A1490, H⟩ := H
     replace H : (some t721) = some r := H
     have A149 := Aside0.mk A1490
     clear A1490
     obtain rfl := Option.some.inj H
     go_enter Try.func13, Try.ntmps13
     go_wp2_with (first | ((with_reducible refine gate_dst (N := 2) rfl ?_); (try (refine gate_guard (by rfl) ?_; dsimp only)); refine box_event ?hg (N := 2) ?hd (cs := #[.int .u8 a0_0, .int .u8 a0_1, .int .u8 a0_2, .int .u8 a0_3, .int .u8 a0_4]) (t := 86) ?hr ?_; (case hd => rfl); (case hg => rfl); (case hr => first | (go_simp; done) | (go_simp; rfl)); intro gb707 hg w150 hbox hb; have BK707 := Aside0.mk (hbox); have GW707 := bgw_ HB hg; have GE707 := bgw_ HB hg; replace HB := bls_ HB hb; clear hb hbox hg; have hcz151_0 := bkc_ BK707 0 (.int .u8 a0_0) rfl; have hcz151_1 := bkc_ BK707 1 (.int .u8 a0_1) rfl; have hcz151_2 := bkc_ BK707 2 (.int .u8 a0_2) rfl; have hcz151_3 := bkc_ BK707 3 (.int .u8 a0_3) rfl; have hcz151_4 := bkc_ BK707 4 (.int .u8 a0_4) rfl; have hfz151_0 := blk_frozen BK707.out 0; have hfz151_1 := blk_frozen BK707.out 1; have hfz151_2 := blk_frozen BK707.out 2; have hfz151_3 := blk_frozen BK707.out 3; have hfz151_4 := blk_frozen BK707.out 4) | (go_at_call 42; (with_reducible refine (pianolalaw03_Sheet_made.calls a0_0 a0_1 a0_2 a0_3 a0_4 t708 t709 t710 t711 t712 _ A3.out).mono ?_); rintro e w152 ⟨rfl, hb⟩; replace BK707 := bkb_ BK707 hb; replace HB := bls_ HB hb; (try clear hb); (try clear hb2); (try clear hk); (try clear hi)) | ((with_reducible refine gate_dst (N := 5) rfl ?_); (try (refine gate_guard (by rfl) ?_; dsimp only)); refine box_event ?hg (N := 5) ?hd (cs := #[.int .i64 0, .int .i64 0, .int .i64 0, .int .i64 0, .int .i64 0]) (t := 57) ?hr ?_; (case hd => rfl); (case hg => rfl); (case hr => first | (go_simp; done) | (go_simp; rfl)); intro gb713 hg w153 hbox hb; have BK713 := Aside0.mk (hbox); have GW713 := bgw_ HB hg; have GE713 := bgw_ HB hg; have NB707_713 := bnl_ BK707 hg; have NB713_707 := bng_ BK707 hg; replace BK707 := bkb_ BK707 hb; replace HB := bls_ HB hb; clear hb hbox hg; have hnb154 := NB713_707.out; have hnc154 := NB707_713.out; have hcz155_0 := bkc_ BK713 0 (.int .i64 0) rfl; have hcz155_1 := bkc_ BK713 1 (.int .i64 0) rfl; have hcz155_2 := bkc_ BK713 2 (.int .i64 0) rfl; have hcz155_3 := bkc_ BK713 3 (.int .i64 0) rfl; have hcz155_4 := bkc_ BK713 4 (.int .i64 0) rfl; have hfz155_0 := blk_frozen BK713.out 0; have hfz155_1 := blk_frozen BK713.out 1; have hfz155_2 := blk_frozen BK713.out 2; have hfz155_3 := blk_frozen BK713.out 3; have hfz155_4 := blk_frozen BK713.out 4) | (go_at_call 30; (with_reducible refine (punch_Bars.calls t708 t709 t710 t711 t712 t714 t715 t716 t717 t718 _ A4.out).mono ?_); rintro e w156 ⟨rfl, hb⟩; have n0_ := bkb_ BK707 hb; have n1_ := Aside0.mk (blk_below (g := gb713) (o := .cells #[.int .i64 t708, .int .i64 t709, .int .i64 t710, .int .i64 t711, .int .i64 t712] 57 (0, 0)) (by (with_reducible repeat (first | refine blk_drewN ?_ _ | refine blk_drew ?_ | refine blk_alloc ?_ _)); refine blk_put (cs := #[.int .i64 t708, .int .i64 t709, .int .i64 t710, .int .i64 t711, .int .i64 0]) ?_ 4 _ rfl; (with_reducible repeat (first | refine blk_drewN ?_ _ | refine blk_drew ?_ | refine blk_alloc ?_ _)); refine blk_put (cs := #[.int .i64 t708, .int .i64 t709, .int .i64 t710, .int .i64 0, .int .i64 0]) ?_ 3 _ rfl; (with_reducible repeat (first | refine blk_drewN ?_ _ | refine blk_drew ?_ | refine blk_alloc ?_ _)); refine blk_put (cs := #[.int .i64 t708, .int .i64 t709, .int .i64 0, .int .i64 0, .int .i64 0]) ?_ 2 _ rfl; (with_reducible repeat (first | refine blk_drewN ?_ _ | refine blk_drew ?_ | refine blk_alloc ?_ _)); refine blk_put (cs := #[.int .i64 t708, .int .i64 0, .int .i64 0, .int .i64 0, .int .i64 0]) ?_ 1 _ rfl; (with_reducible repeat (first | refine blk_drewN ?_ _ | refine blk_drew ?_ | refine blk_alloc ?_ _)); refine blk_put (cs := #[.int .i64 0, .int .i64 0, .int .i64 0, .int .i64 0, .int .i64 0]) ?_ 0 _ rfl; (with_reducible repeat (first | refine blk_drewN ?_ _ | refine blk_drew ?_ | refine blk_alloc ?_ _)); exact BK713.out) hb); have n2_ := bls_ HB hb; clear BK707; clear BK713; clear HB; have BK707 := n0_; have BK713 := n1_; have HB := n2_; clear n0_ n1_ n2_; (try clear hb); (try clear hb2); (try clear hk); (try clear hi)) | ((with_reducible refine gate_dst (N := 6) rfl ?_); (try (refine gate_guard (by rfl) ?_; dsimp only)); refine box_event ?hg (N := 6) ?hd (cs := #[.int .i64 0, .int .i64 0]) (t := 55) ?hr ?_; (case hd => rfl); (case hg => rfl); (case hr => first | (go_simp; done) | (go_simp; rfl)); intro gb719 hg w157 hbox hb; have BK719 := Aside0.mk (hbox); have GW719 := bgw_ HB hg; have GE719 := bgw_ HB hg; have NB707_719 := bnl_ BK707 hg; have NB719_707 := bng_ BK707 hg; have NB713_719 := bnl_ BK713 hg; have NB719_713 := bng_ BK713 hg; replace BK707 := bkb_ BK707 hb; replace BK713 := bkb_ BK713 hb; replace HB := bls_ HB hb; clear hb hbox hg) | ((with_reducible refine gate_dst (N := 7) rfl ?_); (try (refine gate_guard (by rfl) ?_; dsimp only)); refine box_event ?hg (N := 7) ?hd (cs := #[.int .i64 0, .int .i64 0]) (t := 55) ?hr ?_; (case hd => rfl); (case hg => rfl); (case hr => first | (go_simp; done) | (go_simp; rfl)); intro gb720 hg w158 hbox hb; have BK720 := Aside0.mk (hbox); have GW720 := bgw_ HB hg; have GE720 := bgw_ HB hg; have NB707_720 := bnl_ BK707 hg; have NB720_707 := bng_ BK707 hg; have NB713_720 := bnl_ BK713 hg; have NB720_713 := bng_ BK713 hg; have NB719_720 := bnl_ BK719 hg; have NB720_719 := bng_ BK719 hg; replace BK707 := bkb_ BK707 hb; replace BK713 := bkb_ BK713 hb; replace BK719 := bkb_ BK719 hb; replace HB := bls_ HB hb; clear hb hbox hg; have hnb159 := NB719_707.out; have hnc159 := NB707_719.out; have hnb160 := NB719_713.out; have hnc160 := NB713_719.out; have hnb161 := NB719_720.out; have hnc161 := NB720_719.out; have hcz162_0 := bkc_ BK719 0 (.int .i64 0) rfl; have hcz162_1 := bkc_ BK719 1 (.int .i64 0) rfl; have hfz162_0 := blk_frozen BK719.out 0; have hfz162_1 := blk_frozen BK719.out 1; have hnb163 := NB720_707.out; have hnc163 := NB707_720.out; have hnb164 := NB720_713.out; have hnc164 := NB713_720.out; have hcz165_0 := bkc_ BK720 0 (.int .i64 0) rfl; have hcz165_1 := bkc_ BK720 1 (.int .i64 0) rfl; have hfz165_0 := blk_frozen BK720.out 0; have hfz165_1 := blk_frozen BK720.out 1) | (go_at_call 15; (with_reducible refine (pianolalaw03_works.calls k  t721 _ A149.out).mono ?_); rintro e w166 ⟨rfl, hb⟩; have n0_ := bkb_ BK707 hb; have n1_ := bkb_ BK713 hb; have n2_ := Aside0.mk (blk_below (g := gb719) (o := .cells #[.int .i64 t714, .int .i64 t715] 55 (0, 0)) (by (with_reducible repeat (first | refine blk_drewN ?_ _ | refine blk_drew ?_ | refine blk_alloc ?_ _)); refine blk_far ?_ NB719_720.out _; (with_reducible repeat (first | refine blk_drewN ?_ _ | refine blk_drew ?_ | refine blk_alloc ?_ _)); refine blk_far ?_ NB719_720.out _; (with_reducible repeat (first | refine blk_drewN ?_ _ | refine blk_drew ?_ | refine blk_alloc ?_ _)); refine blk_put (cs := #[.int .i64 t714, .int .i64 0]) ?_ 1 _ rfl; (with_reducible repeat (first | refine blk_drewN ?_ _ | refine blk_drew ?_ | refine blk_alloc ?_ _)); refine blk_put (cs := #[.int .i64 0, .int .i64 0]) ?_ 0 _ rfl; (with_reducible repeat (first | refine blk_drewN ?_ _ | refine blk_drew ?_ | refine blk_alloc ?_ _)); exact BK719.out) hb); have n3_ := Aside0.mk (blk_below (g := gb720) (o := .cells #[.int .i64 t716, .int .i64 t717] 55 (0, 0)) (by (with_reducible repeat (first | refine blk_drewN ?_ _ | refine blk_drew ?_ | refine blk_alloc ?_ _)); refine blk_put (cs := #[.int .i64 t716, .int .i64 0]) ?_ 1 _ rfl; (with_reducible repeat (first | refine blk_drewN ?_ _ | refine blk_drew ?_ | refine blk_alloc ?_ _)); refine blk_put (cs := #[.int .i64 0, .int .i64 0]) ?_ 0 _ rfl; (with_reducible repeat (first | refine blk_drewN ?_ _ | refine blk_drew ?_ | refine blk_alloc ?_ _)); refine blk_far ?_ NB720_719.out _; (with_reducible repeat (first | refine blk_drewN ?_ _ | refine blk_drew ?_ | refine blk_alloc ?_ _)); refine blk_far ?_ NB720_719.out _; (with_reducible repeat (first | refine blk_drewN ?_ _ | refine blk_drew ?_ | refine blk_alloc ?_ _)); exact BK720.out) hb); have n4_ := bls_ HB hb; clear BK707; clear BK713; clear BK719; clear BK720; clear HB; have BK707 := n0_; have BK713 := n1_; have BK719 := n2_; have BK720 := n3_; have HB := n4_; clear n0_ n1_ n2_ n3_ n4_; (try clear hb); (try clear hb2); (try clear hk); (try clear hi)))
     repeat (go_quiet (first | ((with_reducible refine gate_dst (N := 2) rfl ?_); (try (refine gate_guard (by rfl) ?_; dsimp only)); refine box_event ?hg (N := 2) ?hd (cs := #[.int .u8 a0_0, .int .u8 a0_1, .int .u8 a0_2, .int .u8 a0_3, .int .u8 a0_4]) (t := 86) ?hr ?_; (case hd => rfl); (case hg => rfl); (case hr => first | (go_simp; done) | (go_simp; rfl)); intro gb707 hg w150 hbox hb; have BK707 := Aside0.mk (hbox); have GW707 := bgw_ HB hg; have GE707 := bgw_ HB hg; replace HB := bls_ HB hb; clear hb hbox hg; have hcz151_0 := bkc_ BK707 0 (.int .u8 a0_0) rfl; have hcz151_1 := bkc_ BK707 1 (.int .u8 a0_1) rfl; have hcz151_2 := bkc_ BK707 2 (.int .u8 a0_2) rfl; have hcz151_3 := bkc_ BK707 3 (.int .u8 a0_3) rfl; have hcz151_4 := bkc_ BK707 4 (.int .u8 a0_4) rfl; have hfz151_0 := blk_frozen BK707.out 0; have hfz151_1 := blk_frozen BK707.out 1; have hfz151_2 := blk_frozen BK707.out 2; have hfz151_3 := blk_frozen BK707.out 3; have hfz151_4 := blk_frozen BK707.out 4) | (go_at_call 42; (with_reducible refine (pianolalaw03_Sheet_made.calls a0_0 a0_1 a0_2 a0_3 a0_4 t708 t709 t710 t711 t712 _ A3.out).mono ?_); rintro e w152 ⟨rfl, hb⟩; replace BK707 := bkb_ BK707 hb; replace HB := bls_ HB hb; (try clear hb); (try clear hb2); (try clear hk); (try clear hi)) | ((with_reducible refine gate_dst (N := 5) rfl ?_); (try (refine gate_guard (by rfl) ?_; dsimp only)); refine box_event ?hg (N := 5) ?hd (cs := #[.int .i64 0, .int .i64 0, .int .i64 0, .int .i64 0, .int .i64 0]) (t := 57) ?hr ?_; (case hd => rfl); (case hg => rfl); (case hr => first | (go_simp; done) | (go_simp; rfl)); intro gb713 hg w153 hbox hb; have BK713 := Aside0.mk (hbox); have GW713 := bgw_ HB hg; have GE713 := bgw_ HB hg; have NB707_713 := bnl_ BK707 hg; have NB713_707 := bng_ BK707 hg; replace BK707 := bkb_ BK707 hb; replace HB := bls_ HB hb; clear hb hbox hg; have hnb154 := NB713_707.out; have hnc154 := NB707_713.out; have hcz155_0 := bkc_ BK713 0 (.int .i64 0) rfl; have hcz155_1 := bkc_ BK713 1 (.int .i64 0) rfl; have hcz155_2 := bkc_ BK713 2 (.int .i64 0) rfl; have hcz155_3 := bkc_ BK713 3 (.int .i64 0) rfl; have hcz155_4 := bkc_ BK713 4 (.int .i64 0) rfl; have hfz155_0 := blk_frozen BK713.out 0; have hfz155_1 := blk_frozen BK713.out 1; have hfz155_2 := blk_frozen BK713.out 2; have hfz155_3 := blk_frozen BK713.out 3; have hfz155_4 := blk_frozen BK713.out 4) | (go_at_call 30; (with_reducible refine (punch_Bars.calls t708 t709 t710 t711 t712 t714 t715 t716 t717 t718 _ A4.out).mono ?_); rintro e w156 ⟨rfl, hb⟩; have n0_ := bkb_ BK707 hb; have n1_ := Aside0.mk (blk_below (g := gb713) (o := .cells #[.int .i64 t708, .int .i64 t709, .int .i64 t710, .int .i64 t711, .int .i64 t712] 57 (0, 0)) (by (with_reducible repeat (first | refine blk_drewN ?_ _ | refine blk_drew ?_ | refine blk_alloc ?_ _)); refine blk_put (cs := #[.int .i64 t708, .int .i64 t709, .int .i64 t710, .int .i64 t711, .int .i64 0]) ?_ 4 _ rfl; (with_reducible repeat (first | refine blk_drewN ?_ _ | refine blk_drew ?_ | refine blk_alloc ?_ _)); refine blk_put (cs := #[.int .i64 t708, .int .i64 t709, .int .i64 t710, .int .i64 0, .int .i64 0]) ?_ 3 _ rfl; (with_reducible repeat (first | refine blk_drewN ?_ _ | refine blk_drew ?_ | refine blk_alloc ?_ _)); refine blk_put (cs := #[.int .i64 t708, .int .i64 t709, .int .i64 0, .int .i64 0, .int .i64 0]) ?_ 2 _ rfl; (with_reducible repeat (first | refine blk_drewN ?_ _ | refine blk_drew ?_ | refine blk_alloc ?_ _)); refine blk_put (cs := #[.int .i64 t708, .int .i64 0, .int .i64 0, .int .i64 0, .int .i64 0]) ?_ 1 _ rfl; (with_reducible repeat (first | refine blk_drewN ?_ _ | refine blk_drew ?_ | refine blk_alloc ?_ _)); refine blk_put (cs := #[.int .i64 0, .int .i64 0, .int .i64 0, .int .i64 0, .int .i64 0]) ?_ 0 _ rfl; (with_reducible repeat (first | refine blk_drewN ?_ _ | refine blk_drew ?_ | refine blk_alloc ?_ _)); exact BK713.out) hb); have n2_ := bls_ HB hb; clear BK707; clear BK713; clear HB; have BK707 := n0_; have BK713 := n1_; have HB := n2_; clear n0_ n1_ n2_; (try clear hb); (try clear hb2); (try clear hk); (try clear hi)) | ((with_reducible refine gate_dst (N := 6) rfl ?_); (try (refine gate_guard (by rfl) ?_; dsimp only)); refine box_event ?hg (N := 6) ?hd (cs := #[.int .i64 0, .int .i64 0]) (t := 55) ?hr ?_; (case hd => rfl); (case hg => rfl); (case hr => first | (go_simp; done) | (go_simp; rfl)); intro gb719 hg w157 hbox hb; have BK719 := Aside0.mk (hbox); have GW719 := bgw_ HB hg; have GE719 := bgw_ HB hg; have NB707_719 := bnl_ BK707 hg; have NB719_707 := bng_ BK707 hg; have NB713_719 := bnl_ BK713 hg; have NB719_713 := bng_ BK713 hg; replace BK707 := bkb_ BK707 hb; replace BK713 := bkb_ BK713 hb; replace HB := bls_ HB hb; clear hb hbox hg) | ((with_reducible refine gate_dst (N := 7) rfl ?_); (try (refine gate_guard (by rfl) ?_; dsimp only)); refine box_event ?hg (N := 7) ?hd (cs := #[.int .i64 0, .int .i64 0]) (t := 55) ?hr ?_; (case hd => rfl); (case hg => rfl); (case hr => first | (go_simp; done) | (go_simp; rfl)); intro gb720 hg w158 hbox hb; have BK720 := Aside0.mk (hbox); have GW720 := bgw_ HB hg; have GE720 := bgw_ HB hg; have NB707_720 := bnl_ BK707 hg; have NB720_707 := bng_ BK707 hg; have NB713_720 := bnl_ BK713 hg; have NB720_713 := bng_ BK713 hg; have NB719_720 := bnl_ BK719 hg; have NB720_719 := bng_ BK719 hg; replace BK707 := bkb_ BK707 hb; replace BK713 := bkb_ BK713 hb; replace BK719 := bkb_ BK719 hb; replace HB := bls_ HB hb; clear hb hbox hg; have hnb159 := NB719_707.out; have hnc159 := NB707_719.out; have hnb160 := NB719_713.out; have hnc160 := NB713_719.out; have hnb161 := NB719_720.out; have hnc161 := NB720_719.out; have hcz162_0 := bkc_ BK719 0 (.int .i64 0) rfl; have hcz162_1 := bkc_ BK719 1 (.int .i64 0) rfl; have hfz162_0 := blk_frozen BK719.out 0; have hfz162_1 := blk_frozen BK719.out 1; have hnb163 := NB720_707.out; have hnc163 := NB707_720.out; have hnb164 := NB720_713.out; have hnc164 := NB713_720.out; have hcz165_0 := bkc_ BK720 0 (.int .i64 0) rfl; have hcz165_1 := bkc_ BK720 1 (.int .i64 0) rfl; have hfz165_0 := blk_frozen BK720.out 0; have hfz165_1 := blk_frozen BK720.out 1) | (go_at_call 15; (with_reducible refine (pianolalaw03_works.calls k  t721 _ A149.out).mono ?_); rintro e w166 ⟨rfl, hb⟩; have n0_ := bkb_ BK707 hb; have n1_ := bkb_ BK713 hb; have n2_ := Aside0.mk (blk_below (g := gb719) (o := .cells #[.int .i64 t714, .int .i64 t715] 55 (0, 0)) (by (with_reducible repeat (first | refine blk_drewN ?_ _ | refine blk_drew ?_ | refine blk_alloc ?_ _)); refine blk_far ?_ NB719_720.out _; (with_reducible repeat (first | refine blk_drewN ?_ _ | refine blk_drew ?_ | refine blk_alloc ?_ _)); refine blk_far ?_ NB719_720.out _; (with_reducible repeat (first | refine blk_drewN ?_ _ | refine blk_drew ?_ | refine blk_alloc ?_ _)); refine blk_put (cs := #[.int .i64 t714, .int .i64 0]) ?_ 1 _ rfl; (with_reducible repeat (first | refine blk_drewN ?_ _ | refine blk_drew ?_ | refine blk_alloc ?_ _)); refine blk_put (cs := #[.int .i64 0, .int .i64 0]) ?_ 0 _ rfl; (with_reducible repeat (first | refine blk_drewN ?_ _ | refine blk_drew ?_ | refine blk_alloc ?_ _)); exact BK719.out) hb); have n3_ := Aside0.mk (blk_below (g := gb720) (o := .cells #[.int .i64 t716, .int .i64 t717] 55 (0, 0)) (by (with_reducible repeat (first | refine blk_drewN ?_ _ | refine blk_drew ?_ | refine blk_alloc ?_ _)); refine blk_put (cs := #[.int .i64 t716, .int .i64 0]) ?_ 1 _ rfl; (with_reducible repeat (first | refine blk_drewN ?_ _ | refine blk_drew ?_ | refine blk_alloc ?_ _)); refine blk_put (cs := #[.int .i64 0, .int .i64 0]) ?_ 0 _ rfl; (with_reducible repeat (first | refine blk_drewN ?_ _ | refine blk_drew ?_ | refine blk_alloc ?_ _)); refine blk_far ?_ NB720_719.out _; (with_reducible repeat (first | refine blk_drewN ?_ _ | refine blk_drew ?_ | refine blk_alloc ?_ _)); refine blk_far ?_ NB720_719.out _; (with_reducible repeat (first | refine blk_drewN ?_ _ | refine blk_drew ?_ | refine blk_alloc ?_ _)); exact BK720.out) hb); have n4_ := bls_ HB hb; clear BK707; clear BK713; clear BK719; clear BK720; clear HB; have BK707 := n0_; have BK713 := n1_; have BK719 := n2_; have BK720 := n3_; have HB := n4_; clear n0_ n1_ n2_ n3_ n4_; (try clear hb); (try clear hb2); (try clear hk); (try clear hi))); try go_wp2_with (first | ((with_reducible refine gate_dst (N := 2) rfl ?_); (try (refine gate_guard (by rfl) ?_; dsimp only)); refine box_event ?hg (N := 2) ?hd (cs := #[.int .u8 a0_0, .int .u8 a0_1, .int .u8 a0_2, .int .u8 a0_3, .int .u8 a0_4]) (t := 86) ?hr ?_; (case hd => rfl); (case hg => rfl); (case hr => first | (go_simp; done) | (go_simp; rfl)); intro gb707 hg w150 hbox hb; have BK707 := Aside0.mk (hbox); have GW707 := bgw_ HB hg; have GE707 := bgw_ HB hg; replace HB := bls_ HB hb; clear hb hbox hg; have hcz151_0 := bkc_ BK707 0 (.int .u8 a0_0) rfl; have hcz151_1 := bkc_ BK707 1 (.int .u8 a0_1) rfl; have hcz151_2 := bkc_ BK707 2 (.int .u8 a0_2) rfl; have hcz151_3 := bkc_ BK707 3 (.int .u8 a0_3) rfl; have hcz151_4 := bkc_ BK707 4 (.int .u8 a0_4) rfl; have hfz151_0 := blk_frozen BK707.out 0; have hfz151_1 := blk_frozen BK707.out 1; have hfz151_2 := blk_frozen BK707.out 2; have hfz151_3 := blk_frozen BK707.out 3; have hfz151_4 := blk_frozen BK707.out 4) | (go_at_call 42; (with_reducible refine (pianolalaw03_Sheet_made.calls a0_0 a0_1 a0_2 a0_3 a0_4 t708 t709 t710 t711 t712 _ A3.out).mono ?_); rintro e w152 ⟨rfl, hb⟩; replace BK707 := bkb_ BK707 hb; replace HB := bls_ HB hb; (try clear hb); (try clear hb2); (try clear hk); (try clear hi)) | ((with_reducible refine gate_dst (N := 5) rfl ?_); (try (refine gate_guard (by rfl) ?_; dsimp only)); refine box_event ?hg (N := 5) ?hd (cs := #[.int .i64 0, .int .i64 0, .int .i64 0, .int .i64 0, .int .i64 0]) (t := 57) ?hr ?_; (case hd => rfl); (case hg => rfl); (case hr => first | (go_simp; done) | (go_simp; rfl)); intro gb713 hg w153 hbox hb; have BK713 := Aside0.mk (hbox); have GW713 := bgw_ HB hg; have GE713 := bgw_ HB hg; have NB707_713 := bnl_ BK707 hg; have NB713_707 := bng_ BK707 hg; replace BK707 := bkb_ BK707 hb; replace HB := bls_ HB hb; clear hb hbox hg; have hnb154 := NB713_707.out; have hnc154 := NB707_713.out; have hcz155_0 := bkc_ BK713 0 (.int .i64 0) rfl; have hcz155_1 := bkc_ BK713 1 (.int .i64 0) rfl; have hcz155_2 := bkc_ BK713 2 (.int .i64 0) rfl; have hcz155_3 := bkc_ BK713 3 (.int .i64 0) rfl; have hcz155_4 := bkc_ BK713 4 (.int .i64 0) rfl; have hfz155_0 := blk_frozen BK713.out 0; have hfz155_1 := blk_frozen BK713.out 1; have hfz155_2 := blk_frozen BK713.out 2; have hfz155_3 := blk_frozen BK713.out 3; have hfz155_4 := blk_frozen BK713.out 4) | (go_at_call 30; (with_reducible refine (punch_Bars.calls t708 t709 t710 t711 t712 t714 t715 t716 t717 t718 _ A4.out).mono ?_); rintro e w156 ⟨rfl, hb⟩; have n0_ := bkb_ BK707 hb; have n1_ := Aside0.mk (blk_below (g := gb713) (o := .cells #[.int .i64 t708, .int .i64 t709, .int .i64 t710, .int .i64 t711, .int .i64 t712] 57 (0, 0)) (by (with_reducible repeat (first | refine blk_drewN ?_ _ | refine blk_drew ?_ | refine blk_alloc ?_ _)); refine blk_put (cs := #[.int .i64 t708, .int .i64 t709, .int .i64 t710, .int .i64 t711, .int .i64 0]) ?_ 4 _ rfl; (with_reducible repeat (first | refine blk_drewN ?_ _ | refine blk_drew ?_ | refine blk_alloc ?_ _)); refine blk_put (cs := #[.int .i64 t708, .int .i64 t709, .int .i64 t710, .int .i64 0, .int .i64 0]) ?_ 3 _ rfl; (with_reducible repeat (first | refine blk_drewN ?_ _ | refine blk_drew ?_ | refine blk_alloc ?_ _)); refine blk_put (cs := #[.int .i64 t708, .int .i64 t709, .int .i64 0, .int .i64 0, .int .i64 0]) ?_ 2 _ rfl; (with_reducible repeat (first | refine blk_drewN ?_ _ | refine blk_drew ?_ | refine blk_alloc ?_ _)); refine blk_put (cs := #[.int .i64 t708, .int .i64 0, .int .i64 0, .int .i64 0, .int .i64 0]) ?_ 1 _ rfl; (with_reducible repeat (first | refine blk_drewN ?_ _ | refine blk_drew ?_ | refine blk_alloc ?_ _)); refine blk_put (cs := #[.int .i64 0, .int .i64 0, .int .i64 0, .int .i64 0, .int .i64 0]) ?_ 0 _ rfl; (with_reducible repeat (first | refine blk_drewN ?_ _ | refine blk_drew ?_ | refine blk_alloc ?_ _)); exact BK713.out) hb); have n2_ := bls_ HB hb; clear BK707; clear BK713; clear HB; have BK707 := n0_; have BK713 := n1_; have HB := n2_; clear n0_ n1_ n2_; (try clear hb); (try clear hb2); (try clear hk); (try clear hi)) | ((with_reducible refine gate_dst (N := 6) rfl ?_); (try (refine gate_guard (by rfl) ?_; dsimp only)); refine box_event ?hg (N := 6) ?hd (cs := #[.int .i64 0, .int .i64 0]) (t := 55) ?hr ?_; (case hd => rfl); (case hg => rfl); (case hr => first | (go_simp; done) | (go_simp; rfl)); intro gb719 hg w157 hbox hb; have BK719 := Aside0.mk (hbox); have GW719 := bgw_ HB hg; have GE719 := bgw_ HB hg; have NB707_719 := bnl_ BK707 hg; have NB719_707 := bng_ BK707 hg; have NB713_719 := bnl_ BK713 hg; have NB719_713 := bng_ BK713 hg; replace BK707 := bkb_ BK707 hb; replace BK713 := bkb_ BK713 hb; replace HB := bls_ HB hb; clear hb hbox hg) | ((with_reducible refine gate_dst (N := 7) rfl ?_); (try (refine gate_guard (by rfl) ?_; dsimp only)); refine box_event ?hg (N := 7) ?hd (cs := #[.int .i64 0, .int .i64 0]) (t := 55) ?hr ?_; (case hd => rfl); (case hg => rfl); (case hr => first | (go_simp; done) | (go_simp; rfl)); intro gb720 hg w158 hbox hb; have BK720 := Aside0.mk (hbox); have GW720 := bgw_ HB hg; have GE720 := bgw_ HB hg; have NB707_720 := bnl_ BK707 hg; have NB720_707 := bng_ BK707 hg; have NB713_720 := bnl_ BK713 hg; have NB720_713 := bng_ BK713 hg; have NB719_720 := bnl_ BK719 hg; have NB720_719 := bng_ BK719 hg; replace BK707 := bkb_ BK707 hb; replace BK713 := bkb_ BK713 hb; replace BK719 := bkb_ BK719 hb; replace HB := bls_ HB hb; clear hb hbox hg; have hnb159 := NB719_707.out; have hnc159 := NB707_719.out; have hnb160 := NB719_713.out; have hnc160 := NB713_719.out; have hnb161 := NB719_720.out; have hnc161 := NB720_719.out; have hcz162_0 := bkc_ BK719 0 (.int .i64 0) rfl; have hcz162_1 := bkc_ BK719 1 (.int .i64 0) rfl; have hfz162_0 := blk_frozen BK719.out 0; have hfz162_1 := blk_frozen BK719.out 1; have hnb163 := NB720_707.out; have hnc163 := NB707_720.out; have hnb164 := NB720_713.out; have hnc164 := NB713_720.out; have hcz165_0 := bkc_ BK720 0 (.int .i64 0) rfl; have hcz165_1 := bkc_ BK720 1 (.int .i64 0) rfl; have hfz165_0 := blk_frozen BK720.out 0; have hfz165_1 := blk_frozen BK720.out 1) | (go_at_call 15; (with_reducible refine (pianolalaw03_works.calls k  t721 _ A149.out).mono ?_); rintro e w166 ⟨rfl, hb⟩; have n0_ := bkb_ BK707 hb; have n1_ := bkb_ BK713 hb; have n2_ := Aside0.mk (blk_below (g := gb719) (o := .cells #[.int .i64 t714, .int .i64 t715] 55 (0, 0)) (by (with_reducible repeat (first | refine blk_drewN ?_ _ | refine blk_drew ?_ | refine blk_alloc ?_ _)); refine blk_far ?_ NB719_720.out _; (with_reducible repeat (first | refine blk_drewN ?_ _ | refine blk_drew ?_ | refine blk_alloc ?_ _)); refine blk_far ?_ NB719_720.out _; (with_reducible repeat (first | refine blk_drewN ?_ _ | refine blk_drew ?_ | refine blk_alloc ?_ _)); refine blk_put (cs := #[.int .i64 t714, .int .i64 0]) ?_ 1 _ rfl; (with_reducible repeat (first | refine blk_drewN ?_ _ | refine blk_drew ?_ | refine blk_alloc ?_ _)); refine blk_put (cs := #[.int .i64 0, .int .i64 0]) ?_ 0 _ rfl; (with_reducible repeat (first | refine blk_drewN ?_ _ | refine blk_drew ?_ | refine blk_alloc ?_ _)); exact BK719.out) hb); have n3_ := Aside0.mk (blk_below (g := gb720) (o := .cells #[.int .i64 t716, .int .i64 t717] 55 (0, 0)) (by (with_reducible repeat (first | refine blk_drewN ?_ _ | refine blk_drew ?_ | refine blk_alloc ?_ _)); refine blk_put (cs := #[.int .i64 t716, .int .i64 0]) ?_ 1 _ rfl; (with_reducible repeat (first | refine blk_drewN ?_ _ | refine blk_drew ?_ | refine blk_alloc ?_ _)); refine blk_put (cs := #[.int .i64 0, .int .i64 0]) ?_ 0 _ rfl; (with_reducible repeat (first | refine blk_drewN ?_ _ | refine blk_drew ?_ | refine blk_alloc ?_ _)); refine blk_far ?_ NB720_719.out _; (with_reducible repeat (first | refine blk_drewN ?_ _ | refine blk_drew ?_ | refine blk_alloc ?_ _)); refine blk_far ?_ NB720_719.out _; (with_reducible repeat (first | refine blk_drewN ?_ _ | refine blk_drew ?_ | refine blk_alloc ?_ _)); exact BK720.out) hb); have n4_ := bls_ HB hb; clear BK707; clear BK713; clear BK719; clear BK720; clear HB; have BK707 := n0_; have BK713 := n1_; have BK719 := n2_; have BK720 := n3_; have HB := n4_; clear n0_ n1_ n2_ n3_ n4_; (try clear hb); (try clear hb2); (try clear hk); (try clear hi))))
     go_ret
     exact ⟨by first | rfl | (simp [errW_none, errW_some] <;> rfl) | (simp [*, errW_none, errW_some] <;> rfl), by repeat (first | (with_reducible first | exact HB.out | apply below_alloc | apply pw_below_drewN | apply below_drew1 | refine below_set ?_ GE707.out | refine below_set ?_ GE713.out | refine below_set ?_ GE719.out | refine below_set ?_ GE720.out) | exact HB.out)⟩
   · rw [if_neg c148] at H
     exact absurd H (by simp)

end Go.Proofs.Ytaaonhfaoaabbaa.X
