-- Written by a program (the kit's print, some functions told as proved by hand). Not trusted: Lean checks it.
import Derived.Test.YtaaonhfaoaabbaaXx0
import Derived.Test.YtaaonhfaoaabbaaWs
import Derived.Test.YtaaonhfaoaabbaaXx3
import Derived.Test.YtaaonhfaoaabbaaXx4
import Derived.Test.YtaaonhfaoaabbaaXx6
import Derived.Test.YtaaonhfaoaabbaaXx9
import Derived.Test.YtaaonhfaoaabbaaXx19
import Derived.Test.YtaaonhfaoaabbaaXx20
import Derived.Test.YtaaonhfaoaabbaaE7
namespace Go.Proofs.Ytaaonhfaoaabbaa.X
open Go.RowKit Go.Proofs.YtaaonhfaoaabbaaW.PrintWords Go.Proofs.YtaaonhfaoaabbaaW.PrintLast Go.Proofs.YtaaonhfaoaabbaaW.PrintMore
attribute [local go_sem] max2_int min2_int max_two min_two max_three min_three max_four min_four   -- for this text's walks alone
set_option linter.unusedVariables false
set_option linter.unusedSimpArgs false

attribute [local go_sem high] eqA52 eqA55
/-! ### pianolalaw03_same: function 34 -/
def pianolalaw03_same.l0 : Nat → List (S47) → List (S52) → Int → Option (Bool)
 | 0, _, _, _ => none
 | k + 1, x0, x1, x5 => if x5 < (x0.length : Int) then (if 0 ≤ x5 then (if x5 < (x1.length : Int) then (if (!(((rd_T47 x0 x5).f0) == ((rd_T52 x1 x5).f0)) || (!(((rd_T47 x0 x5).f1) == ((rd_T52 x1 x5).f1)))) = true then (some false) else (pianolalaw03_same.l0 k x0 x1 (wrap64 (x5 + 1)))) else (none)) else (none)) else (some true)
def pianolalaw03_same.f (k : Nat) (l0 : List (S47)) (l1 : List (S52)) : Option (Bool) := if (l0.length : Int) = (l1.length : Int) then (pianolalaw03_same.l0 k l0 l1 0) else (some false)
theorem pianolalaw03_same.mono_l : ∀ k, (∀ y0 y1 y2, LeO (pianolalaw03_same.l0 k y0 y1 y2) (pianolalaw03_same.l0 (k + 1) y0 y1 y2))
 | 0 => fun _ _ _ r h => by simp [pianolalaw03_same.l0] at h
 | k + 1 => by
  have ih0 := pianolalaw03_same.mono_l k
  · intro y0 y1 y2
    unfold pianolalaw03_same.l0
    repeat' first
    | (with_reducible exact ih0 _ _ _)
    | (with_reducible exact LeO.refl _)
    | (with_reducible exact LeO.none _)
    | (with_reducible refine LeO.ite ?_ ?_)
    | (with_reducible refine LeO.bind ?_ (fun _ => ?_))
    | exact ih0 _ _ _
    | exact LeO.none _
    | refine LeO.ite ?_ ?_
    | refine LeO.bind ?_ (fun _ => ?_)
theorem pianolalaw03_same.mono : ∀ a0 a1 k, LeO (pianolalaw03_same.f k a0 a1) (pianolalaw03_same.f (k + 1) a0 a1) := by
 intro a0 a1 k
 have ih0 := pianolalaw03_same.mono_l k
 unfold pianolalaw03_same.f
 repeat' first
  | (with_reducible exact ih0 _ _ _)
  | (with_reducible exact LeO.refl _)
  | (with_reducible exact LeO.none _)
  | (with_reducible refine LeO.ite ?_ ?_)
  | (with_reducible refine LeO.bind ?_ (fun _ => ?_))
  | exact ih0 _ _ _
  | exact LeO.none _
  | refine LeO.ite ?_ ?_
  | refine LeO.bind ?_ (fun _ => ?_)
set_option maxHeartbeats 8000000 in
set_option maxRecDepth 100000 in
theorem pianolalaw03_same.calls (k : Nat) (A0 : Option Addr) (c0 : Nat) (l0 : List (S47)) (A1 : Option Addr) (c1 : Nat) (l1 : List (S52)) (r : Bool) (w : World) (hr0 : Kd.C k47 w A0 l0.length l0) (hc0 : l0.length ≤ c0) (hr1 : Kd.C k52 w A1 l1.length l1) (hc1 : l1.length ≤ c1) (h : pianolalaw03_same.f k l0 l1 = some r) :
 Calls Try.prog 34 #[.slice A0 l0.length c0, .slice A1 l1.length c1] w fun e w' => e = .returned (.bool r) ∧ Drawn0 w w' := by
 have hu47 := Try.underlying47
 have hu52 := Try.underlying52
 have HR0 := Aside0.mk hr0
 have HC0 := Aside0.mk hc0
 clear hr0 hc0
 have HR1 := Aside0.mk hr1
 have HC1 := Aside0.mk hc1
 clear hr1 hc1
 have H : (if (l0.length : Int) = (l1.length : Int) then (pianolalaw03_same.l0 k l0 l1 0) else (some false)) = some r := h
 clear h
 by_cases c3 : (l0.length : Int) = (l1.length : Int)
 · rw [if_pos c3] at H
   have c3b0 : ((l0.length : Int) == (l1.length : Int)) = true := beq_iff_eq.mpr c3
   have c3b1 : ((l0.length : Int) != (l1.length : Int)) = false := bne_eq_false_iff_eq.mpr c3
   have c3b2 : (l0.length == l1.length) = true := by first | simpa using c3 | (simp at c3 ⊢; omega)
   clear c3
   have H' := Aside0.mk H
   clear H
   go_enter Try.func34, Try.ntmps34
   go_wp2
   repeat (go_quiet (fail); try go_wp2)
   go_loopg [5] k (fun kq v5 w' => ∃ (x5_1 : Int), v5 = .int .i64 x5_1 ∧ Aside0 (pianolalaw03_same.l0 kq l0 l1 x5_1 = some r) ∧ Aside0 (kq ≤ k) ∧ Drawn0 w w')
   case atStart => exact ⟨(0), (by first | rfl | (simp; done) | (simp [*]; done)), H', ⟨Nat.le_refl _⟩, by repeat (first | exact Drawn0.refl _ | apply Drawn0.step)⟩
   case round =>
    clear H'
    try clear c1
    try clear p2
    try clear c3
    try clear c3b0
    try clear c3b1
    try clear c3b2
    obtain ⟨x5_1, rfl, HA, HK1, ⟨m1, rfl⟩⟩ := hrel
    cases gk with
    | zero => exact absurd HA.out (by simp [pianolalaw03_same.l0])
    | succ k1 =>
     have H := HA.out
     clear HA
     simp only [pianolalaw03_same.l0] at H
     by_cases c4 : x5_1 < (l0.length : Int)
     · rw [if_pos c4] at H
       have c4b0 : decide (x5_1 < (l0.length : Int)) = true := decide_eq_true c4
       clear c4
       by_cases c5 : 0 ≤ x5_1
       · rw [if_pos c5] at H
         have c5b0 : decide (0 ≤ x5_1) = true := decide_eq_true c5
         clear c5
         by_cases c6 : x5_1 < (l1.length : Int)
         · rw [if_pos c6] at H
           have c6b0 : decide (x5_1 < (l1.length : Int)) = true := decide_eq_true c6
           clear c6
           by_cases c7 : (!(((rd_T47 l0 x5_1).f0) == ((rd_T52 l1 x5_1).f0)) || (!(((rd_T47 l0 x5_1).f1) == ((rd_T52 l1 x5_1).f1)))) = true
           · rw [if_pos c7] at H
             have c7b0 : (!(((rd_T47 l0 x5_1).f0) == ((rd_T52 l1 x5_1).f0)) || (!(((rd_T47 l0 x5_1).f1) == ((rd_T52 l1 x5_1).f1)))) = true := c7
             clear c7
             obtain rfl := Option.some.inj H
             have p422 : 0 ≤ (x5_1 : Int) := of_decide_eq_true (by first | (with_reducible assumption) | assumption)
             have q422 : x5_1 < (l0.length : Int) := of_decide_eq_true (by first | (with_reducible assumption) | assumption)
             obtain ⟨ad422, e422, hx422_0, hx422_1⟩ := at_T47 HR0.out x5_1 p422 q422
             cases e422
             replace p422 := eq_true p422
             replace q422 := eq_true q422
             have p423 : 0 ≤ (x5_1 : Int) := of_decide_eq_true (by first | (with_reducible assumption) | assumption)
             have q423 : x5_1 < (l1.length : Int) := of_decide_eq_true (by first | (with_reducible assumption) | assumption)
             obtain ⟨ad423, e423, hx423_0, hx423_1⟩ := at_T52 HR1.out x5_1 p423 q423
             cases e423
             replace p423 := eq_true p423
             replace q423 := eq_true q423
             go_wp2
             repeat (go_quiet (fail); try go_wp2)
             go_ret
             exact ⟨by first | rfl | (simp; done) | (simp [*]; done), by repeat (first | exact Drawn0.refl _ | apply Drawn0.step)⟩
           · rw [if_neg c7] at H
             have c7b0 : (!(((rd_T47 l0 x5_1).f0) == ((rd_T52 l1 x5_1).f0)) || (!(((rd_T47 l0 x5_1).f1) == ((rd_T52 l1 x5_1).f1)))) = false := by simpa using c7
             clear c7
             have H' := Aside0.mk H
             clear H
             have p422 : 0 ≤ (x5_1 : Int) := of_decide_eq_true (by first | (with_reducible assumption) | assumption)
             have q422 : x5_1 < (l0.length : Int) := of_decide_eq_true (by first | (with_reducible assumption) | assumption)
             obtain ⟨ad422, e422, hx422_0, hx422_1⟩ := at_T47 HR0.out x5_1 p422 q422
             cases e422
             replace p422 := eq_true p422
             replace q422 := eq_true q422
             have p423 : 0 ≤ (x5_1 : Int) := of_decide_eq_true (by first | (with_reducible assumption) | assumption)
             have q423 : x5_1 < (l1.length : Int) := of_decide_eq_true (by first | (with_reducible assumption) | assumption)
             obtain ⟨ad423, e423, hx423_0, hx423_1⟩ := at_T52 HR1.out x5_1 p423 q423
             cases e423
             replace p423 := eq_true p423
             replace q423 := eq_true q423
             go_wp2
             repeat (go_quiet (fail); try go_wp2)
             go_roundg k1
             case measure => have := HK1.out; omega
             case rel => exact ⟨(wrap64 (x5_1 + 1)), (by first | rfl | (simp; done) | (simp [*]; done)), H', ⟨by have := HK1.out; omega⟩, by repeat (first | exact Drawn0.refl _ | apply Drawn0.step)⟩
         · rw [if_neg c6] at H
           exact absurd H (by simp)
       · rw [if_neg c5] at H
         exact absurd H (by simp)
     · rw [if_neg c4] at H
       have c4b0 : decide (x5_1 < (l0.length : Int)) = false := decide_eq_false c4
       clear c4
       obtain rfl := Option.some.inj H
       go_wp2
       repeat (go_quiet (fail); try go_wp2)
       go_ret
       exact ⟨by first | rfl | (simp; done) | (simp [*]; done), by repeat (first | exact Drawn0.refl _ | apply Drawn0.step)⟩
 · rw [if_neg c3] at H
   have c3b0 : ((l0.length : Int) == (l1.length : Int)) = false := beq_eq_false_iff_ne.mpr c3
   have c3b1 : ((l0.length : Int) != (l1.length : Int)) = true := bne_iff_ne.mpr c3
   have c3b2 : (l0.length == l1.length) = false := by first | simpa using c3 | (simp at c3 ⊢; omega)
   obtain rfl := Option.some.inj H
   go_enter Try.func34, Try.ntmps34
   go_wp2
   repeat (go_quiet (fail); try go_wp2)
   go_ret
   exact ⟨by first | rfl | (simp; done) | (simp [*]; done), by repeat (first | exact Drawn0.refl _ | apply Drawn0.step)⟩

/-! ### pianolalaw03_PunchBars: function 6 -/
def pianolalaw03_PunchBars.f (k : Nat) (a0_0 : Int) (a0_1 : Int) (a0_2 : Int) (a0_3 : Int) (a0_4 : Int) (a1_0 : Int) (a1_1 : Int) : Option (Bool) := (punch_Bars.f a0_0 a0_1 a0_2 a0_3 a0_4).bind fun bt427 => ((pianolaref03_Bars.f k a0_0 a0_1 a0_2 a0_3 a0_4).bind fun bt434 => ((punch_Bridge.f k a0_0 a0_1 a0_2 a0_3 a0_4 a1_0 a1_1).bind fun bt441 => ((pianolaref03_Bridge.f k a0_0 a0_1 a0_2 a0_3 a0_4 a1_0 a1_1).bind fun bt445 => (if (bt427.1 == bt434.1 && (bt427.2.1 == bt434.2.1)) = true then (if (bt427.2.2.1 == bt434.2.2.1 && (bt427.2.2.2.1 == bt434.2.2.2.1)) = true then (if bt427.2.2.2.2 = bt434.2.2.2.2 then ((pianolalaw03_same.f k bt441.1 bt445.1).bind fun t449 => (if t449 = true then (if bt441.2 = bt445.2 then ((pianolalaw03_works.f k).bind fun t450 => (some t450)) else (none)) else (none))) else (none)) else (none)) else (none)))))
theorem pianolalaw03_PunchBars.mono : ∀ a0 a1 a2 a3 a4 a5 a6 k, LeO (pianolalaw03_PunchBars.f k a0 a1 a2 a3 a4 a5 a6) (pianolalaw03_PunchBars.f (k + 1) a0 a1 a2 a3 a4 a5 a6) := by
 intro a0 a1 a2 a3 a4 a5 a6 k
 unfold pianolalaw03_PunchBars.f
 repeat' first
  | (with_reducible exact pianolalaw03_same.mono _ _ _)
  | (with_reducible exact pianolalaw03_works.mono _)
  | (with_reducible exact pianolaref03_Bars.mono _ _ _ _ _ _)
  | (with_reducible exact pianolaref03_Bridge.mono _ _ _ _ _ _ _ _)
  | (with_reducible exact punch_Bridge.mono _ _ _ _ _ _ _ _)
  | (with_reducible exact LeO.refl _)
  | (with_reducible exact LeO.none _)
  | (with_reducible refine LeO.ite ?_ ?_)
  | (with_reducible refine LeO.bind ?_ (fun _ => ?_))
  | exact pianolalaw03_same.mono _ _ _
  | exact pianolalaw03_works.mono _
  | exact pianolaref03_Bars.mono _ _ _ _ _ _
  | exact pianolaref03_Bridge.mono _ _ _ _ _ _ _ _
  | exact punch_Bridge.mono _ _ _ _ _ _ _ _
  | exact LeO.none _
  | refine LeO.ite ?_ ?_
  | refine LeO.bind ?_ (fun _ => ?_)
set_option maxHeartbeats 8000000 in
set_option maxRecDepth 100000 in
theorem pianolalaw03_PunchBars.calls (k : Nat) (a0_0 : Int) (a0_1 : Int) (a0_2 : Int) (a0_3 : Int) (a0_4 : Int) (a1_0 : Int) (a1_1 : Int) (r : Bool) (w : World) (h : pianolalaw03_PunchBars.f k a0_0 a0_1 a0_2 a0_3 a0_4 a1_0 a1_1 = some r) :
 Calls Try.prog 6 #[.agg #[.int .i64 a0_0, .int .i64 a0_1, .int .i64 a0_2, .int .i64 a0_3, .int .i64 a0_4], .agg #[.int .i64 a1_0, .int .i64 a1_1]] w fun e w' => e = .returned (.bool r) ∧ Below w.heap.size w w' := by
 have hu57 := Try.underlying57
 have hu47 := Try.underlying47
 have hu58 := Try.underlying58
 have hu55 := Try.underlying55
 have HB := Aside0.mk (Below.refl w.heap.size w)
 have H : ((punch_Bars.f a0_0 a0_1 a0_2 a0_3 a0_4).bind fun bt427 => ((pianolaref03_Bars.f k a0_0 a0_1 a0_2 a0_3 a0_4).bind fun bt434 => ((punch_Bridge.f k a0_0 a0_1 a0_2 a0_3 a0_4 a1_0 a1_1).bind fun bt441 => ((pianolaref03_Bridge.f k a0_0 a0_1 a0_2 a0_3 a0_4 a1_0 a1_1).bind fun bt445 => (if (bt427.1 == bt434.1 && (bt427.2.1 == bt434.2.1)) = true then (if (bt427.2.2.1 == bt434.2.2.1 && (bt427.2.2.2.1 == bt434.2.2.2.1)) = true then (if bt427.2.2.2.2 = bt434.2.2.2.2 then ((pianolalaw03_same.f k bt441.1 bt445.1).bind fun t449 => (if t449 = true then (if bt441.2 = bt445.2 then ((pianolalaw03_works.f k).bind fun t450 => (some t450)) else (none)) else (none))) else (none)) else (none)) else (none)))))) = some r := h
 clear h
 replace H := Option.bind_eq_some_iff.mp H
 obtain ⟨⟨t427, t428, t429, t430, t431⟩, A30, H⟩ := H
 replace H : ((pianolaref03_Bars.f k a0_0 a0_1 a0_2 a0_3 a0_4).bind fun bt434 => ((punch_Bridge.f k a0_0 a0_1 a0_2 a0_3 a0_4 a1_0 a1_1).bind fun bt441 => ((pianolaref03_Bridge.f k a0_0 a0_1 a0_2 a0_3 a0_4 a1_0 a1_1).bind fun bt445 => (if (t427 == bt434.1 && (t428 == bt434.2.1)) = true then (if (t429 == bt434.2.2.1 && (t430 == bt434.2.2.2.1)) = true then (if t431 = bt434.2.2.2.2 then ((pianolalaw03_same.f k bt441.1 bt445.1).bind fun t449 => (if t449 = true then (if bt441.2 = bt445.2 then ((pianolalaw03_works.f k).bind fun t450 => (some t450)) else (none)) else (none))) else (none)) else (none)) else (none))))) = some r := H
 have A3 := Aside0.mk A30
 clear A30
 replace H := Option.bind_eq_some_iff.mp H
 obtain ⟨⟨t434, t435, t436, t437, t438⟩, A40, H⟩ := H
 replace H : ((punch_Bridge.f k a0_0 a0_1 a0_2 a0_3 a0_4 a1_0 a1_1).bind fun bt441 => ((pianolaref03_Bridge.f k a0_0 a0_1 a0_2 a0_3 a0_4 a1_0 a1_1).bind fun bt445 => (if (t427 == t434 && (t428 == t435)) = true then (if (t429 == t436 && (t430 == t437)) = true then (if t431 = t438 then ((pianolalaw03_same.f k bt441.1 bt445.1).bind fun t449 => (if t449 = true then (if bt441.2 = bt445.2 then ((pianolalaw03_works.f k).bind fun t450 => (some t450)) else (none)) else (none))) else (none)) else (none)) else (none)))) = some r := H
 have A4 := Aside0.mk A40
 clear A40
 replace H := Option.bind_eq_some_iff.mp H
 obtain ⟨⟨t441, t444⟩, A50, H⟩ := H
 replace H : ((pianolaref03_Bridge.f k a0_0 a0_1 a0_2 a0_3 a0_4 a1_0 a1_1).bind fun bt445 => (if (t427 == t434 && (t428 == t435)) = true then (if (t429 == t436 && (t430 == t437)) = true then (if t431 = t438 then ((pianolalaw03_same.f k t441 bt445.1).bind fun t449 => (if t449 = true then (if t444 = bt445.2 then ((pianolalaw03_works.f k).bind fun t450 => (some t450)) else (none)) else (none))) else (none)) else (none)) else (none))) = some r := H
 have A5 := Aside0.mk A50
 clear A50
 replace H := Option.bind_eq_some_iff.mp H
 obtain ⟨⟨t445, t448⟩, A60, H⟩ := H
 replace H : (if (t427 == t434 && (t428 == t435)) = true then (if (t429 == t436 && (t430 == t437)) = true then (if t431 = t438 then ((pianolalaw03_same.f k t441 t445).bind fun t449 => (if t449 = true then (if t444 = t448 then ((pianolalaw03_works.f k).bind fun t450 => (some t450)) else (none)) else (none))) else (none)) else (none)) else (none)) = some r := H
 have A6 := Aside0.mk A60
 clear A60
 by_cases c7 : (t427 == t434 && (t428 == t435)) = true
 · rw [if_pos c7] at H
   have c7b0 : (t427 == t434 && (t428 == t435)) = true := c7
   (try (have c7b1 : decide (t427 = t434 && (t428 == t435)) = true := by simpa using c7))
   (try (have c7b2 : (t427 == t434 && (t428 == t435)) = true := by simpa using c7))
   clear c7
   by_cases c8 : (t429 == t436 && (t430 == t437)) = true
   · rw [if_pos c8] at H
     have c8b0 : (t429 == t436 && (t430 == t437)) = true := c8
     (try (have c8b1 : decide (t429 = t436 && (t430 == t437)) = true := by simpa using c8))
     (try (have c8b2 : (t429 == t436 && (t430 == t437)) = true := by simpa using c8))
     clear c8
     by_cases c9 : t431 = t438
     · rw [if_pos c9] at H
       have c9b0 : (t431 == t438) = true := beq_iff_eq.mpr c9
       have c9b1 : (t431 != t438) = false := bne_eq_false_iff_eq.mpr c9
       clear c9
       replace H := Option.bind_eq_some_iff.mp H
       obtain ⟨t449, A100, H⟩ := H
       replace H : (if t449 = true then (if t444 = t448 then ((pianolalaw03_works.f k).bind fun t450 => (some t450)) else (none)) else (none)) = some r := H
       have A10 := Aside0.mk A100
       clear A100
       by_cases c11 : t449 = true
       · subst c11
         have H1 : (if t444 = t448 then ((pianolalaw03_works.f k).bind fun t450 => (some t450)) else (none)) = some r := by rw [if_pos rfl] at H; exact H
         clear H
         have H := H1
         clear H1
         by_cases c12 : t444 = t448
         · rw [if_pos c12] at H
           have c12b0 : (t444 == t448) = true := beq_iff_eq.mpr c12
           have c12b1 : (t444 != t448) = false := bne_eq_false_iff_eq.mpr c12
           clear c12
           replace H := Option.bind_eq_some_iff.mp H
           obtain ⟨t450, A130, H⟩ := H
           replace H : (some t450) = some r := H
           have A13 := Aside0.mk A130
           clear A130
           obtain rfl := Option.some.inj H
           go_enter Try.func6, Try.ntmps6
           go_wp2_with (first | ((with_reducible refine gate_dst (N := 2) rfl ?_); refine box_event ?hg (N := 2) ?hd (cs := #[.int .i64 a0_0, .int .i64 a0_1, .int .i64 a0_2, .int .i64 a0_3, .int .i64 a0_4]) (t := 57) ?hr ?_; (case hd => rfl); (case hg => rfl); (case hr => first | (go_simp; done) | (go_simp; rfl)); intro gb424 hg w14 hbox hb; have BK424 := Aside0.mk (hbox); have GW424 := bgw_ HB hg; have GE424 := bgw_ HB hg; replace HB := bls_ HB hb; clear hb hbox hg) | ((with_reducible refine gate_dst (N := 3) rfl ?_); refine box_event ?hg (N := 3) ?hd (cs := #[.int .i64 a1_0, .int .i64 a1_1]) (t := 47) ?hr ?_; (case hd => rfl); (case hg => rfl); (case hr => first | (go_simp; done) | (go_simp; rfl)); intro gb425 hg w15 hbox hb; have BK425 := Aside0.mk (hbox); have GW425 := bgw_ HB hg; have GE425 := bgw_ HB hg; have NB424_425 := bnl_ BK424 hg; have NB425_424 := bng_ BK424 hg; replace BK424 := bkb_ BK424 hb; replace HB := bls_ HB hb; clear hb hbox hg; have hnb16 := NB424_425.out; have hnc16 := NB425_424.out; have hcz17_0 := bkc_ BK424 0 (.int .i64 a0_0) rfl; have hcz17_1 := bkc_ BK424 1 (.int .i64 a0_1) rfl; have hcz17_2 := bkc_ BK424 2 (.int .i64 a0_2) rfl; have hcz17_3 := bkc_ BK424 3 (.int .i64 a0_3) rfl; have hcz17_4 := bkc_ BK424 4 (.int .i64 a0_4) rfl; have hfz17_0 := blk_frozen BK424.out 0; have hfz17_1 := blk_frozen BK424.out 1; have hfz17_2 := blk_frozen BK424.out 2; have hfz17_3 := blk_frozen BK424.out 3; have hfz17_4 := blk_frozen BK424.out 4) | ((with_reducible refine gate_dst (N := 5) rfl ?_); refine box_event ?hg (N := 5) ?hd (cs := #[.int .i64 0, .int .i64 0, .int .i64 0, .int .i64 0, .int .i64 0]) (t := 58) ?hr ?_; (case hd => rfl); (case hg => rfl); (case hr => first | (go_simp; done) | (go_simp; rfl)); intro gb426 hg w18 hbox hb; have BK426 := Aside0.mk (hbox); have GW426 := bgw_ HB hg; have GE426 := bgw_ HB hg; have NB424_426 := bnl_ BK424 hg; have NB426_424 := bng_ BK424 hg; have NB425_426 := bnl_ BK425 hg; have NB426_425 := bng_ BK425 hg; replace BK424 := bkb_ BK424 hb; replace BK425 := bkb_ BK425 hb; replace HB := bls_ HB hb; clear hb hbox hg; have hnb19 := NB426_424.out; have hnc19 := NB424_426.out; have hnb20 := NB426_425.out; have hnc20 := NB425_426.out; have hcz21_0 := bkc_ BK426 0 (.int .i64 0) rfl; have hcz21_1 := bkc_ BK426 1 (.int .i64 0) rfl; have hcz21_2 := bkc_ BK426 2 (.int .i64 0) rfl; have hcz21_3 := bkc_ BK426 3 (.int .i64 0) rfl; have hcz21_4 := bkc_ BK426 4 (.int .i64 0) rfl; have hfz21_0 := blk_frozen BK426.out 0; have hfz21_1 := blk_frozen BK426.out 1; have hfz21_2 := blk_frozen BK426.out 2; have hfz21_3 := blk_frozen BK426.out 3; have hfz21_4 := blk_frozen BK426.out 4; have hcz22_0 := bkc_ BK424 0 (.int .i64 a0_0) rfl; have hcz22_1 := bkc_ BK424 1 (.int .i64 a0_1) rfl; have hcz22_2 := bkc_ BK424 2 (.int .i64 a0_2) rfl; have hcz22_3 := bkc_ BK424 3 (.int .i64 a0_3) rfl; have hcz22_4 := bkc_ BK424 4 (.int .i64 a0_4) rfl; have hfz22_0 := blk_frozen BK424.out 0; have hfz22_1 := blk_frozen BK424.out 1; have hfz22_2 := blk_frozen BK424.out 2; have hfz22_3 := blk_frozen BK424.out 3; have hfz22_4 := blk_frozen BK424.out 4) | ((with_reducible refine gate_callee (f := 30) rfl ?_); refine goesL_ (some 19) rfl rfl Try.func30 (by kernel_rfl) rfl #[.agg #[.int .i64 a0_0, .int .i64 a0_1, .int .i64 a0_2, .int .i64 a0_3, .int .i64 a0_4]] rfl (by (try simp only [List.map_toArray, List.map_cons, List.map_nil]); first | done | rfl | (simp only [List.length_drop, List.length_take]; rfl)) ?_; (with_reducible refine (punch_Bars.calls a0_0 a0_1 a0_2 a0_3 a0_4 t427 t428 t429 t430 t431 _ A3.out).mono ?_); rintro e w23 ⟨rfl, hb⟩; refine ⟨_, rfl, ?_⟩; have n0_ := bkb_ BK424 hb; have n1_ := bkb_ BK425 hb; have n2_ := Aside0.mk (blk_below (g := gb426) (o := .cells #[.int .i64 a0_0, .int .i64 a0_1, .int .i64 a0_2, .int .i64 a0_3, .int .i64 a0_4] 58 (0, 0)) (by (with_reducible repeat (first | refine blk_drewN ?_ _ | refine blk_drew ?_ | refine blk_alloc ?_ _)); refine blk_put (cs := #[.int .i64 a0_0, .int .i64 a0_1, .int .i64 a0_2, .int .i64 a0_3, .int .i64 0]) ?_ 4 _ rfl; (with_reducible repeat (first | refine blk_drewN ?_ _ | refine blk_drew ?_ | refine blk_alloc ?_ _)); refine blk_put (cs := #[.int .i64 a0_0, .int .i64 a0_1, .int .i64 a0_2, .int .i64 0, .int .i64 0]) ?_ 3 _ rfl; (with_reducible repeat (first | refine blk_drewN ?_ _ | refine blk_drew ?_ | refine blk_alloc ?_ _)); refine blk_put (cs := #[.int .i64 a0_0, .int .i64 a0_1, .int .i64 0, .int .i64 0, .int .i64 0]) ?_ 2 _ rfl; (with_reducible repeat (first | refine blk_drewN ?_ _ | refine blk_drew ?_ | refine blk_alloc ?_ _)); refine blk_put (cs := #[.int .i64 a0_0, .int .i64 0, .int .i64 0, .int .i64 0, .int .i64 0]) ?_ 1 _ rfl; (with_reducible repeat (first | refine blk_drewN ?_ _ | refine blk_drew ?_ | refine blk_alloc ?_ _)); refine blk_put (cs := #[.int .i64 0, .int .i64 0, .int .i64 0, .int .i64 0, .int .i64 0]) ?_ 0 _ rfl; (with_reducible repeat (first | refine blk_drewN ?_ _ | refine blk_drew ?_ | refine blk_alloc ?_ _)); exact BK426.out) hb); have n3_ := bls_ HB hb; clear BK424; clear BK425; clear BK426; clear HB; have BK424 := n0_; have BK425 := n1_; have BK426 := n2_; have HB := n3_; clear n0_ n1_ n2_ n3_; (try clear hb); (try clear hb2); (try clear hk); (try clear hi)) | ((with_reducible refine gate_dst (N := 6) rfl ?_); refine box_event ?hg (N := 6) ?hd (cs := #[.int .i64 0, .int .i64 0]) (t := 55) ?hr ?_; (case hd => rfl); (case hg => rfl); (case hr => first | (go_simp; done) | (go_simp; rfl)); intro gb432 hg w24 hbox hb; have BK432 := Aside0.mk (hbox); have GW432 := bgw_ HB hg; have GE432 := bgw_ HB hg; have NB424_432 := bnl_ BK424 hg; have NB432_424 := bng_ BK424 hg; have NB425_432 := bnl_ BK425 hg; have NB432_425 := bng_ BK425 hg; have NB426_432 := bnl_ BK426 hg; have NB432_426 := bng_ BK426 hg; replace BK424 := bkb_ BK424 hb; replace BK425 := bkb_ BK425 hb; replace BK426 := bkb_ BK426 hb; replace HB := bls_ HB hb; clear hb hbox hg) | ((with_reducible refine gate_dst (N := 7) rfl ?_); refine box_event ?hg (N := 7) ?hd (cs := #[.int .i64 0, .int .i64 0]) (t := 55) ?hr ?_; (case hd => rfl); (case hg => rfl); (case hr => first | (go_simp; done) | (go_simp; rfl)); intro gb433 hg w25 hbox hb; have BK433 := Aside0.mk (hbox); have GW433 := bgw_ HB hg; have GE433 := bgw_ HB hg; have NB424_433 := bnl_ BK424 hg; have NB433_424 := bng_ BK424 hg; have NB425_433 := bnl_ BK425 hg; have NB433_425 := bng_ BK425 hg; have NB426_433 := bnl_ BK426 hg; have NB433_426 := bng_ BK426 hg; have NB432_433 := bnl_ BK432 hg; have NB433_432 := bng_ BK432 hg; replace BK424 := bkb_ BK424 hb; replace BK425 := bkb_ BK425 hb; replace BK426 := bkb_ BK426 hb; replace BK432 := bkb_ BK432 hb; replace HB := bls_ HB hb; clear hb hbox hg; have hnb26 := NB432_424.out; have hnc26 := NB424_432.out; have hnb27 := NB432_425.out; have hnc27 := NB425_432.out; have hnb28 := NB432_426.out; have hnc28 := NB426_432.out; have hnb29 := NB432_433.out; have hnc29 := NB433_432.out; have hcz30_0 := bkc_ BK432 0 (.int .i64 0) rfl; have hcz30_1 := bkc_ BK432 1 (.int .i64 0) rfl; have hfz30_0 := blk_frozen BK432.out 0; have hfz30_1 := blk_frozen BK432.out 1; have hnb31 := NB433_424.out; have hnc31 := NB424_433.out; have hnb32 := NB433_425.out; have hnc32 := NB425_433.out; have hnb33 := NB433_426.out; have hnc33 := NB426_433.out; have hcz34_0 := bkc_ BK433 0 (.int .i64 0) rfl; have hcz34_1 := bkc_ BK433 1 (.int .i64 0) rfl; have hfz34_0 := blk_frozen BK433.out 0; have hfz34_1 := blk_frozen BK433.out 1; have hcz35_0 := bkc_ BK426 0 (.int .i64 a0_0) rfl; have hcz35_1 := bkc_ BK426 1 (.int .i64 a0_1) rfl; have hcz35_2 := bkc_ BK426 2 (.int .i64 a0_2) rfl; have hcz35_3 := bkc_ BK426 3 (.int .i64 a0_3) rfl; have hcz35_4 := bkc_ BK426 4 (.int .i64 a0_4) rfl; have hfz35_0 := blk_frozen BK426.out 0; have hfz35_1 := blk_frozen BK426.out 1; have hfz35_2 := blk_frozen BK426.out 2; have hfz35_3 := blk_frozen BK426.out 3; have hfz35_4 := blk_frozen BK426.out 4) | ((with_reducible refine gate_callee (f := 31) rfl ?_); refine goesL_ (some 25) rfl rfl Try.func31 (by kernel_rfl) rfl #[.agg #[.int .i64 a0_0, .int .i64 a0_1, .int .i64 a0_2, .int .i64 a0_3, .int .i64 a0_4]] rfl (by (try simp only [List.map_toArray, List.map_cons, List.map_nil]); first | done | rfl | (simp only [List.length_drop, List.length_take]; rfl)) ?_; (with_reducible refine (pianolaref03_Bars.calls k a0_0 a0_1 a0_2 a0_3 a0_4 t434 t435 t436 t437 t438 _ A4.out).mono ?_); rintro e w36 ⟨rfl, hb⟩; refine ⟨_, rfl, ?_⟩; have n0_ := bkb_ BK424 hb; have n1_ := bkb_ BK425 hb; have n2_ := bkb_ BK426 hb; have n3_ := Aside0.mk (blk_below (g := gb432) (o := .cells #[.int .i64 t427, .int .i64 t428] 55 (0, 0)) (by (with_reducible repeat (first | refine blk_drewN ?_ _ | refine blk_drew ?_ | refine blk_alloc ?_ _)); refine blk_far ?_ NB432_433.out _; (with_reducible repeat (first | refine blk_drewN ?_ _ | refine blk_drew ?_ | refine blk_alloc ?_ _)); refine blk_far ?_ NB432_433.out _; (with_reducible repeat (first | refine blk_drewN ?_ _ | refine blk_drew ?_ | refine blk_alloc ?_ _)); refine blk_put (cs := #[.int .i64 t427, .int .i64 0]) ?_ 1 _ rfl; (with_reducible repeat (first | refine blk_drewN ?_ _ | refine blk_drew ?_ | refine blk_alloc ?_ _)); refine blk_put (cs := #[.int .i64 0, .int .i64 0]) ?_ 0 _ rfl; (with_reducible repeat (first | refine blk_drewN ?_ _ | refine blk_drew ?_ | refine blk_alloc ?_ _)); exact BK432.out) hb); have n4_ := Aside0.mk (blk_below (g := gb433) (o := .cells #[.int .i64 t429, .int .i64 t430] 55 (0, 0)) (by (with_reducible repeat (first | refine blk_drewN ?_ _ | refine blk_drew ?_ | refine blk_alloc ?_ _)); refine blk_put (cs := #[.int .i64 t429, .int .i64 0]) ?_ 1 _ rfl; (with_reducible repeat (first | refine blk_drewN ?_ _ | refine blk_drew ?_ | refine blk_alloc ?_ _)); refine blk_put (cs := #[.int .i64 0, .int .i64 0]) ?_ 0 _ rfl; (with_reducible repeat (first | refine blk_drewN ?_ _ | refine blk_drew ?_ | refine blk_alloc ?_ _)); refine blk_far ?_ NB433_432.out _; (with_reducible repeat (first | refine blk_drewN ?_ _ | refine blk_drew ?_ | refine blk_alloc ?_ _)); refine blk_far ?_ NB433_432.out _; (with_reducible repeat (first | refine blk_drewN ?_ _ | refine blk_drew ?_ | refine blk_alloc ?_ _)); exact BK433.out) hb); have n5_ := bls_ HB hb; clear BK424; clear BK425; clear BK426; clear BK432; clear BK433; clear HB; have BK424 := n0_; have BK425 := n1_; have BK426 := n2_; have BK432 := n3_; have BK433 := n4_; have HB := n5_; clear n0_ n1_ n2_ n3_ n4_ n5_; (try clear hb); (try clear hb2); (try clear hk); (try clear hi)) | ((with_reducible refine gate_dst (N := 9) rfl ?_); refine box_event ?hg (N := 9) ?hd (cs := #[.int .i64 0, .int .i64 0]) (t := 55) ?hr ?_; (case hd => rfl); (case hg => rfl); (case hr => first | (go_simp; done) | (go_simp; rfl)); intro gb439 hg w37 hbox hb; have BK439 := Aside0.mk (hbox); have GW439 := bgw_ HB hg; have GE439 := bgw_ HB hg; have NB424_439 := bnl_ BK424 hg; have NB439_424 := bng_ BK424 hg; have NB425_439 := bnl_ BK425 hg; have NB439_425 := bng_ BK425 hg; have NB426_439 := bnl_ BK426 hg; have NB439_426 := bng_ BK426 hg; have NB432_439 := bnl_ BK432 hg; have NB439_432 := bng_ BK432 hg; have NB433_439 := bnl_ BK433 hg; have NB439_433 := bng_ BK433 hg; replace BK424 := bkb_ BK424 hb; replace BK425 := bkb_ BK425 hb; replace BK426 := bkb_ BK426 hb; replace BK432 := bkb_ BK432 hb; replace BK433 := bkb_ BK433 hb; replace HB := bls_ HB hb; clear hb hbox hg) | ((with_reducible refine gate_dst (N := 10) rfl ?_); refine box_event ?hg (N := 10) ?hd (cs := #[.int .i64 0, .int .i64 0]) (t := 55) ?hr ?_; (case hd => rfl); (case hg => rfl); (case hr => first | (go_simp; done) | (go_simp; rfl)); intro gb440 hg w38 hbox hb; have BK440 := Aside0.mk (hbox); have GW440 := bgw_ HB hg; have GE440 := bgw_ HB hg; have NB424_440 := bnl_ BK424 hg; have NB440_424 := bng_ BK424 hg; have NB425_440 := bnl_ BK425 hg; have NB440_425 := bng_ BK425 hg; have NB426_440 := bnl_ BK426 hg; have NB440_426 := bng_ BK426 hg; have NB432_440 := bnl_ BK432 hg; have NB440_432 := bng_ BK432 hg; have NB433_440 := bnl_ BK433 hg; have NB440_433 := bng_ BK433 hg; have NB439_440 := bnl_ BK439 hg; have NB440_439 := bng_ BK439 hg; replace BK424 := bkb_ BK424 hb; replace BK425 := bkb_ BK425 hb; replace BK426 := bkb_ BK426 hb; replace BK432 := bkb_ BK432 hb; replace BK433 := bkb_ BK433 hb; replace BK439 := bkb_ BK439 hb; replace HB := bls_ HB hb; clear hb hbox hg; have hnb39 := NB439_424.out; have hnc39 := NB424_439.out; have hnb40 := NB439_425.out; have hnc40 := NB425_439.out; have hnb41 := NB439_426.out; have hnc41 := NB426_439.out; have hnb42 := NB439_432.out; have hnc42 := NB432_439.out; have hnb43 := NB439_433.out; have hnc43 := NB433_439.out; have hnb44 := NB439_440.out; have hnc44 := NB440_439.out; have hcz45_0 := bkc_ BK439 0 (.int .i64 0) rfl; have hcz45_1 := bkc_ BK439 1 (.int .i64 0) rfl; have hfz45_0 := blk_frozen BK439.out 0; have hfz45_1 := blk_frozen BK439.out 1; have hnb46 := NB440_424.out; have hnc46 := NB424_440.out; have hnb47 := NB440_425.out; have hnc47 := NB425_440.out; have hnb48 := NB440_426.out; have hnc48 := NB426_440.out; have hnb49 := NB440_432.out; have hnc49 := NB432_440.out; have hnb50 := NB440_433.out; have hnc50 := NB433_440.out; have hcz51_0 := bkc_ BK440 0 (.int .i64 0) rfl; have hcz51_1 := bkc_ BK440 1 (.int .i64 0) rfl; have hfz51_0 := blk_frozen BK440.out 0; have hfz51_1 := blk_frozen BK440.out 1; have hcz52_0 := bkc_ BK424 0 (.int .i64 a0_0) rfl; have hcz52_1 := bkc_ BK424 1 (.int .i64 a0_1) rfl; have hcz52_2 := bkc_ BK424 2 (.int .i64 a0_2) rfl; have hcz52_3 := bkc_ BK424 3 (.int .i64 a0_3) rfl; have hcz52_4 := bkc_ BK424 4 (.int .i64 a0_4) rfl; have hfz52_0 := blk_frozen BK424.out 0; have hfz52_1 := blk_frozen BK424.out 1; have hfz52_2 := blk_frozen BK424.out 2; have hfz52_3 := blk_frozen BK424.out 3; have hfz52_4 := blk_frozen BK424.out 4; have hcz53_0 := bkc_ BK425 0 (.int .i64 a1_0) rfl; have hcz53_1 := bkc_ BK425 1 (.int .i64 a1_1) rfl; have hfz53_0 := blk_frozen BK425.out 0; have hfz53_1 := blk_frozen BK425.out 1) | ((with_reducible refine gate_callee (f := 32) rfl ?_); refine goesL_ (some 32) rfl rfl Try.func32 (by kernel_rfl) rfl #[.agg #[.int .i64 a0_0, .int .i64 a0_1, .int .i64 a0_2, .int .i64 a0_3, .int .i64 a0_4], .agg #[.int .i64 a1_0, .int .i64 a1_1]] rfl (by (try simp only [List.map_toArray, List.map_cons, List.map_nil]); first | done | rfl | (simp only [List.length_drop, List.length_take]; rfl)) ?_; (with_reducible refine (punch_Bridge.calls k a0_0 a0_1 a0_2 a0_3 a0_4 a1_0 a1_1 t441 t444 _ A5.out).mono ?_); rintro e w54 ⟨v442, rfl, ho0, hb⟩; refine ⟨_, rfl, ?_⟩; have n0_ := Aside0.mk (Kd.R_lower (Kd.R_newB ho0 (g := gb425) (o := .cells #[.int .i64 a1_0, .int .i64 a1_1] 47 (0, 0)) (bkx_ BK425).out) (below_size (blx_ HB).out)); have n1_ := bkb_ BK424 hb; have n2_ := bkb_ BK425 hb; have n3_ := bkb_ BK426 hb; have n4_ := bkb_ BK432 hb; have n5_ := bkb_ BK433 hb; have n6_ := Aside0.mk (blk_below (g := gb439) (o := .cells #[.int .i64 t434, .int .i64 t435] 55 (0, 0)) (by (with_reducible repeat (first | refine blk_drewN ?_ _ | refine blk_drew ?_ | refine blk_alloc ?_ _)); refine blk_far ?_ NB439_440.out _; (with_reducible repeat (first | refine blk_drewN ?_ _ | refine blk_drew ?_ | refine blk_alloc ?_ _)); refine blk_far ?_ NB439_440.out _; (with_reducible repeat (first | refine blk_drewN ?_ _ | refine blk_drew ?_ | refine blk_alloc ?_ _)); refine blk_put (cs := #[.int .i64 t434, .int .i64 0]) ?_ 1 _ rfl; (with_reducible repeat (first | refine blk_drewN ?_ _ | refine blk_drew ?_ | refine blk_alloc ?_ _)); refine blk_put (cs := #[.int .i64 0, .int .i64 0]) ?_ 0 _ rfl; (with_reducible repeat (first | refine blk_drewN ?_ _ | refine blk_drew ?_ | refine blk_alloc ?_ _)); exact BK439.out) hb); have n7_ := Aside0.mk (blk_below (g := gb440) (o := .cells #[.int .i64 t436, .int .i64 t437] 55 (0, 0)) (by (with_reducible repeat (first | refine blk_drewN ?_ _ | refine blk_drew ?_ | refine blk_alloc ?_ _)); refine blk_put (cs := #[.int .i64 t436, .int .i64 0]) ?_ 1 _ rfl; (with_reducible repeat (first | refine blk_drewN ?_ _ | refine blk_drew ?_ | refine blk_alloc ?_ _)); refine blk_put (cs := #[.int .i64 0, .int .i64 0]) ?_ 0 _ rfl; (with_reducible repeat (first | refine blk_drewN ?_ _ | refine blk_drew ?_ | refine blk_alloc ?_ _)); refine blk_far ?_ NB440_439.out _; (with_reducible repeat (first | refine blk_drewN ?_ _ | refine blk_drew ?_ | refine blk_alloc ?_ _)); refine blk_far ?_ NB440_439.out _; (with_reducible repeat (first | refine blk_drewN ?_ _ | refine blk_drew ?_ | refine blk_alloc ?_ _)); exact BK440.out) hb); have n8_ := bls_ HB hb; clear BK424; clear BK425; clear BK426; clear BK432; clear BK433; clear BK439; clear BK440; clear HB; have HO443 := n0_; have BK424 := n1_; have BK425 := n2_; have BK426 := n3_; have BK432 := n4_; have BK433 := n5_; have BK439 := n6_; have BK440 := n7_; have HB := n8_; clear n0_ n1_ n2_ n3_ n4_ n5_ n6_ n7_ n8_; (try clear hb); (try clear hb2); (try clear hk); (try clear hi); (try clear ho0); have hcz55_0 := bkc_ BK426 0 (.int .i64 a0_0) rfl; have hcz55_1 := bkc_ BK426 1 (.int .i64 a0_1) rfl; have hcz55_2 := bkc_ BK426 2 (.int .i64 a0_2) rfl; have hcz55_3 := bkc_ BK426 3 (.int .i64 a0_3) rfl; have hcz55_4 := bkc_ BK426 4 (.int .i64 a0_4) rfl; have hfz55_0 := blk_frozen BK426.out 0; have hfz55_1 := blk_frozen BK426.out 1; have hfz55_2 := blk_frozen BK426.out 2; have hfz55_3 := blk_frozen BK426.out 3; have hfz55_4 := blk_frozen BK426.out 4; have hcz56_0 := bkc_ BK425 0 (.int .i64 a1_0) rfl; have hcz56_1 := bkc_ BK425 1 (.int .i64 a1_1) rfl; have hfz56_0 := blk_frozen BK425.out 0; have hfz56_1 := blk_frozen BK425.out 1) | ((with_reducible refine gate_callee (f := 33) rfl ?_); refine goesL_ (some 38) rfl rfl Try.func33 (by kernel_rfl) rfl #[.agg #[.int .i64 a0_0, .int .i64 a0_1, .int .i64 a0_2, .int .i64 a0_3, .int .i64 a0_4], .agg #[.int .i64 a1_0, .int .i64 a1_1]] rfl (by (try simp only [List.map_toArray, List.map_cons, List.map_nil]); first | done | rfl | (simp only [List.length_drop, List.length_take]; rfl)) ?_; (with_reducible refine (pianolaref03_Bridge.calls k a0_0 a0_1 a0_2 a0_3 a0_4 a1_0 a1_1 t445 t448 _ A6.out).mono ?_); rintro e w57 ⟨v446, rfl, ho0, hb⟩; refine ⟨_, rfl, ?_⟩; have n0_ := Aside0.mk (Kd.R_below (by (with_reducible repeat (first | apply Kd.R_alloc | apply Kd.R_drewN | apply Kd.R_drew)); exact HO443.out) hb); have n1_ := Aside0.mk (Kd.R_lower ho0 (below_size (blx_ HB).out)); have n2_ := bkb_ BK424 hb; have n3_ := bkb_ BK425 hb; have n4_ := bkb_ BK426 hb; have n5_ := bkb_ BK432 hb; have n6_ := bkb_ BK433 hb; have n7_ := bkb_ BK439 hb; have n8_ := bkb_ BK440 hb; have n9_ := bls_ HB hb; clear HO443; clear BK424; clear BK425; clear BK426; clear BK432; clear BK433; clear BK439; clear BK440; clear HB; have HO443 := n0_; have HO447 := n1_; have BK424 := n2_; have BK425 := n3_; have BK426 := n4_; have BK432 := n5_; have BK433 := n6_; have BK439 := n7_; have BK440 := n8_; have HB := n9_; clear n0_ n1_ n2_ n3_ n4_ n5_ n6_ n7_ n8_ n9_; (try clear hb); (try clear hb2); (try clear hk); (try clear hi); (try clear ho0); have hcz58_0 := bkc_ BK432 0 (.int .i64 t427) rfl; have hcz58_1 := bkc_ BK432 1 (.int .i64 t428) rfl; have hfz58_0 := blk_frozen BK432.out 0; have hfz58_1 := blk_frozen BK432.out 1; have hcz59_0 := bkc_ BK439 0 (.int .i64 t434) rfl; have hcz59_1 := bkc_ BK439 1 (.int .i64 t435) rfl; have hfz59_0 := blk_frozen BK439.out 0; have hfz59_1 := blk_frozen BK439.out 1; have hcz60_0 := bkc_ BK433 0 (.int .i64 t429) rfl; have hcz60_1 := bkc_ BK433 1 (.int .i64 t430) rfl; have hfz60_0 := blk_frozen BK433.out 0; have hfz60_1 := blk_frozen BK433.out 1; have hcz61_0 := bkc_ BK440 0 (.int .i64 t436) rfl; have hcz61_1 := bkc_ BK440 1 (.int .i64 t437) rfl; have hfz61_0 := blk_frozen BK440.out 0; have hfz61_1 := blk_frozen BK440.out 1; obtain ⟨Ao62, co62, eo62⟩ := Kd.R_slice HO443.out; subst eo62; obtain ⟨Ao63, co63, eo63⟩ := Kd.R_slice HO447.out; subst eo63) | (go_at_call 34; (with_reducible refine (pianolalaw03_same.calls k _ _ t441 _ _ t445 true _ ?side1 ?side2 ?side3 ?side4 A10.out).mono ?_); (case side1 => repeat (first | exact (Kd.R_reads' HO443.out).2.2 | (with_reducible refine Kd.C_alloc ?_ _) | (with_reducible refine Kd.C_drewN ?_ _) | (with_reducible refine Kd.C_drew ?_))); (case side2 => exact (Kd.R_reads' HO443.out).2.1); (case side3 => repeat (first | exact (Kd.R_reads' HO447.out).2.2 | (with_reducible refine Kd.C_alloc ?_ _) | (with_reducible refine Kd.C_drewN ?_ _) | (with_reducible refine Kd.C_drew ?_))); (case side4 => exact (Kd.R_reads' HO447.out).2.1); rintro e w' ⟨rfl, ⟨nd, rfl⟩⟩) | (go_at_call 15; (with_reducible refine (pianolalaw03_works.calls k  t450 _ A13.out).mono ?_); rintro e w64 ⟨rfl, hb⟩; have n0_ := Aside0.mk (Kd.R_below (by (with_reducible repeat (first | apply Kd.R_alloc | apply Kd.R_drewN | apply Kd.R_drew)); exact HO443.out) hb); have n1_ := Aside0.mk (Kd.R_below (by (with_reducible repeat (first | apply Kd.R_alloc | apply Kd.R_drewN | apply Kd.R_drew)); exact HO447.out) hb); have n2_ := bkb_ BK424 hb; have n3_ := bkb_ BK425 hb; have n4_ := bkb_ BK426 hb; have n5_ := bkb_ BK432 hb; have n6_ := bkb_ BK433 hb; have n7_ := bkb_ BK439 hb; have n8_ := bkb_ BK440 hb; have n9_ := bls_ HB hb; clear HO443; clear HO447; clear BK424; clear BK425; clear BK426; clear BK432; clear BK433; clear BK439; clear BK440; clear HB; have HO443 := n0_; have HO447 := n1_; have BK424 := n2_; have BK425 := n3_; have BK426 := n4_; have BK432 := n5_; have BK433 := n6_; have BK439 := n7_; have BK440 := n8_; have HB := n9_; clear n0_ n1_ n2_ n3_ n4_ n5_ n6_ n7_ n8_ n9_; (try clear hb); (try clear hb2); (try clear hk); (try clear hi)))
           go_ret
           exact ⟨by first | rfl | (simp [errW_none, errW_some] <;> rfl) | (simp [*, errW_none, errW_some] <;> rfl), by repeat (first | (with_reducible first | exact HB.out | apply below_alloc | apply pw_below_drewN | apply below_drew1 | refine below_set ?_ GE424.out | refine below_set ?_ GE425.out | refine below_set ?_ GE426.out | refine below_set ?_ GE432.out | refine below_set ?_ GE433.out | refine below_set ?_ GE439.out | refine below_set ?_ GE440.out) | exact HB.out)⟩
         · rw [if_neg c12] at H
           exact absurd H (by simp)
       · replace c11 := Bool.eq_false_iff.mpr c11
         subst c11
         have H1 : (none) = some r := by rw [if_neg (show ¬ (false = true) by decide)] at H; exact H
         clear H
         have H := H1
         clear H1
         exact absurd H (by simp)
     · rw [if_neg c9] at H
       exact absurd H (by simp)
   · rw [if_neg c8] at H
     exact absurd H (by simp)
 · rw [if_neg c7] at H
   exact absurd H (by simp)

-- NOT PRINTED: function 36 (pianolaref03_Holds)

/-! ### pianolalaw03_holes: function 37 -/
def pianolalaw03_holes.l0 : Nat → List (S47) → List (S52) → Int → Option ((List (S52)))
 | 0, _, _, _ => none
 | k + 1, x0, x3, x4 => if x4 < (x0.length : Int) then (if 0 ≤ x4 then (if x3.length < 8796093022208 then (pianolalaw03_holes.l0 k x0 (x3 ++ [(⟨(rd_T47 x0 x4).f0, (rd_T47 x0 x4).f1⟩ : S52)]) (wrap64 (x4 + 1))) else (none)) else (none)) else (some x3)
def pianolalaw03_holes.f (k : Nat) (l0 : List (S47)) : Option ((List (S52))) := pianolalaw03_holes.l0 k l0 ([] : List (S52)) 0
theorem pianolalaw03_holes.mono_l : ∀ k, (∀ y0 y1 y2, LeO (pianolalaw03_holes.l0 k y0 y1 y2) (pianolalaw03_holes.l0 (k + 1) y0 y1 y2))
 | 0 => fun _ _ _ r h => by simp [pianolalaw03_holes.l0] at h
 | k + 1 => by
  have ih0 := pianolalaw03_holes.mono_l k
  · intro y0 y1 y2
    unfold pianolalaw03_holes.l0
    repeat' first
    | (with_reducible exact ih0 _ _ _)
    | (with_reducible exact LeO.refl _)
    | (with_reducible exact LeO.none _)
    | (with_reducible refine LeO.ite ?_ ?_)
    | (with_reducible refine LeO.bind ?_ (fun _ => ?_))
    | exact ih0 _ _ _
    | exact LeO.none _
    | refine LeO.ite ?_ ?_
    | refine LeO.bind ?_ (fun _ => ?_)
theorem pianolalaw03_holes.mono : ∀ a0 k, LeO (pianolalaw03_holes.f k a0) (pianolalaw03_holes.f (k + 1) a0) := by
 intro a0 k
 have ih0 := pianolalaw03_holes.mono_l k
 unfold pianolalaw03_holes.f
 repeat' first
  | (with_reducible exact ih0 _ _ _)
  | (with_reducible exact LeO.refl _)
  | (with_reducible exact LeO.none _)
  | (with_reducible refine LeO.ite ?_ ?_)
  | (with_reducible refine LeO.bind ?_ (fun _ => ?_))
  | exact ih0 _ _ _
  | exact LeO.none _
  | refine LeO.ite ?_ ?_
  | refine LeO.bind ?_ (fun _ => ?_)
set_option maxHeartbeats 8000000 in
set_option maxRecDepth 100000 in
theorem pianolalaw03_holes.calls (k : Nat) (A0 : Option Addr) (c0 : Nat) (l0 : List (S47)) (r : List (S52)) (w : World) (hr0 : Kd.C k47 w A0 l0.length l0) (hc0 : l0.length ≤ c0) (h : pianolalaw03_holes.f k l0 = some r) :
 Calls Try.prog 37 #[.slice A0 l0.length c0] w fun e w' => ∃ v0_ : Value, e = .returned (v0_) ∧ Kd.R k52 52 w' w.heap.size (fun _ => True) v0_ r ∧ Below w.heap.size w w' := by
 have hu47 := Try.underlying47
 have HR0 := Aside0.mk hr0
 have HC0 := Aside0.mk hc0
 clear hr0 hc0
 have HB := Aside0.mk (Below.refl w.heap.size w)
 have H : (pianolalaw03_holes.l0 k l0 ([] : List (S52)) 0) = some r := h
 clear h
 have H' := Aside0.mk H
 clear H
 go_enter Try.func37, Try.ntmps37
 go_wp2
 go_loopg [3, 4] k (fun kq v3 v4 w' => ∃ (x3_1 : List (S52)) (x4_1 : Int), v4 = .int .i64 x4_1 ∧ Aside0 (pianolalaw03_holes.l0 kq l0 x3_1 x4_1 = some r) ∧ Aside0 (kq ≤ k) ∧ Aside0 (Kd.R k52 52 w' w.heap.size (fun _ => True) v3 x3_1) ∧ Aside0 (Below w.heap.size w w'))
 case atStart => exact ⟨(([] : List (S52))), (0), (by first | rfl | (simp; done) | (simp [*]; done)), H', ⟨Nat.le_refl _⟩, ⟨by first | exact Kd.R_nil _ _ _ _ _ | exact Kd.N_nil _ _ _ _ _ | exact Kd.V_nil _ _ _ _ _ | exact Kd.Q_nil _ _ _ _ _ | exact Kd.S_nil _ _ _ _ _⟩, blx_ HB⟩
 case round =>
  clear H'
  obtain ⟨x3_1, x4_1, rfl, HA, HK1, HO_3, HB⟩ := hrel
  cases gk with
  | zero => exact absurd HA.out (by simp [pianolalaw03_holes.l0])
  | succ k1 =>
   have H := HA.out
   clear HA
   simp only [pianolalaw03_holes.l0] at H
   by_cases c2 : x4_1 < (l0.length : Int)
   · rw [if_pos c2] at H
     have c2b0 : decide (x4_1 < (l0.length : Int)) = true := decide_eq_true c2
     clear c2
     by_cases c3 : 0 ≤ x4_1
     · rw [if_pos c3] at H
       have c3b0 : decide (0 ≤ x4_1) = true := decide_eq_true c3
       clear c3
       by_cases c4 : x3_1.length < 8796093022208
       · rw [if_pos c4] at H
         have LMc4 := Aside0.mk c4
         clear c4
         obtain ⟨y468, hy468⟩ : ∃ y_ : List (S52), y_ = (x3_1 ++ [(⟨(rd_T47 l0 x4_1).f0, (rd_T47 l0 x4_1).f1⟩ : S52)]) := ⟨_, rfl⟩
         replace H : (pianolalaw03_holes.l0 k1 l0 y468 (wrap64 (x4_1 + 1))) = some r := by first | (rw [hy468]; with_reducible exact H) | (have H2_ := (Option.bind_some _ _).symm.trans H; rw [hy468]; with_reducible exact H2_) | (have H2_ := (Option.bind_some _ _).symm.trans H; with_reducible exact H2_) | with_reducible exact H | (rw [hy468]; exact H) | exact H
         have Ny468 := Aside0.mk hy468
         clear hy468
         have H' := Aside0.mk H
         clear H
         have p467 : 0 ≤ (x4_1 : Int) := of_decide_eq_true (by first | (with_reducible assumption) | assumption)
         have q467 : x4_1 < (l0.length : Int) := of_decide_eq_true (by first | (with_reducible assumption) | assumption)
         obtain ⟨ad467, e467, hx467_0, hx467_1⟩ := at_T47 HR0.out x4_1 p467 q467
         cases e467
         replace hx467_0 := (HB.out.cell (World.block_lt_of_cell? w _ hx467_0)).trans hx467_0
         replace hx467_1 := (HB.out.cell (World.block_lt_of_cell? w _ hx467_1)).trans hx467_1
         replace p467 := eq_true p467
         replace q467 := eq_true q467
         go_wp2_with (first | ((with_reducible refine gate_builtin (b := .append) (xs := #[.tmp 11, .tmp 16]) rfl ?_); at_builtin; refine Kd.R_append k52 (w0 := w) w.heap.size rfl (.tmp 11) (.tmp 16) 31 52 (.agg #[(.int .i64 0), (.int .i64 0)]) 16 rfl Try.underlying31 info52 rfl (by decide) (by omega) u3 x3_1 (⟨(rd_T47 l0 x4_1).f0, (rd_T47 l0 x4_1).f1⟩ : S52) [.int .i64 ((rd_T47 l0 x4_1).f0), .int .i64 ((rd_T47 l0 x4_1).f1)] (fun _ => True) (fun _ => False) rfl rfl ?aP (fun _ hk => hk.elim) ?aF ?aO ?aB ?aS ?aL ?_; (case aP => exact k52_mkM _ _ _ (⟨(rd_T47 l0 x4_1).f0, (rd_T47 l0 x4_1).f1⟩ : S52)); (case aB => exact (blx_ HB).out); (case aF => exact (fun _ _ => trivial)); (case aO => exact (by (with_reducible repeat (first | apply Kd.R_alloc | apply Kd.R_drewN | apply Kd.R_drew)); exact HO_3.out)); (case aS => exact (below_size (blx_ HB).out)); (case aL => have := LMc4.out; omega); intro v469 w5 ho hb hg hat; rw [← Ny468.out] at ho; have HO470 := Aside0.mk (ho); replace HB := Aside0.mk (hb); clear HO_3; clear ho hb hg hat))
         go_roundg k1
         case measure => have := HK1.out; omega
         case rel => exact ⟨(y468), (wrap64 (x4_1 + 1)), (by first | rfl | (simp; done) | (simp [*]; done)), H', ⟨by have := HK1.out; omega⟩, ⟨by (with_reducible repeat (first | apply Kd.R_alloc | apply Kd.R_drewN | apply Kd.R_drew)); exact HO470.out⟩, blx_ HB⟩
       · rw [if_neg c4] at H
         exact absurd H (by simp)
     · rw [if_neg c3] at H
       exact absurd H (by simp)
   · rw [if_neg c2] at H
     have c2b0 : decide (x4_1 < (l0.length : Int)) = false := decide_eq_false c2
     clear c2
     obtain rfl := Option.some.inj H
     go_wp2
     go_ret
     exact ⟨_, by first | rfl | (simp [errW_none, errW_some] <;> rfl) | (simp [*, errW_none, errW_some] <;> rfl), by (with_reducible repeat (first | apply Kd.R_alloc | apply Kd.R_drewN | apply Kd.R_drew)); exact HO_3.out, by repeat (first | (with_reducible first | exact HB.out | apply below_alloc | apply pw_below_drewN | apply below_drew1) | exact HB.out)⟩

-- NOT PRINTED: function 7 (pianolalaw03_PunchHolds)

end Go.Proofs.Ytaaonhfaoaabbaa.X
