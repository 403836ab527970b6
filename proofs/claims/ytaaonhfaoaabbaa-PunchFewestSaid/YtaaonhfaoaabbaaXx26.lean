-- Written by a program (the kit's print, some functions told as proved by hand). Not trusted: Lean checks it.
import Derived.Test.YtaaonhfaoaabbaaXx0
import Derived.Test.YtaaonhfaoaabbaaWs
namespace Go.Proofs.Ytaaonhfaoaabbaa.X
open Go.RowKit Go.Proofs.YtaaonhfaoaabbaaW.PrintWords Go.Proofs.YtaaonhfaoaabbaaW.PrintLast Go.Proofs.YtaaonhfaoaabbaaW.PrintMore
attribute [local go_sem] max2_int min2_int max_two min_two max_three min_three max_four min_four   -- for this text's walks alone
set_option linter.unusedVariables false
set_option linter.unusedSimpArgs false

/-! ### pianolalaw03_Sheet_made: function 42 -/
def pianolalaw03_Sheet_made.f (a0_0 : Int) (a0_1 : Int) (a0_2 : Int) (a0_3 : Int) (a0_4 : Int) : Option (Int × Int × Int × Int × Int) := some (wrap64 (900 + (Int.tmod (wrap64 (a0_0)) 150)), wrap64 ((wrap64 (900 + (Int.tmod (wrap64 (a0_0)) 150))) + (Int.tmod (wrap64 (a0_1)) 50)), wrap64 (1 + (Int.tmod (wrap64 (a0_2)) 12)), wrap64 (1 + (Int.tmod (wrap64 (a0_3)) 6)), wrap64 (1 + (Int.tmod (wrap64 (a0_4)) 14)))
set_option maxHeartbeats 8000000 in
set_option maxRecDepth 100000 in
theorem pianolalaw03_Sheet_made.calls (a0_0 : Int) (a0_1 : Int) (a0_2 : Int) (a0_3 : Int) (a0_4 : Int) (r1 : Int) (r2 : Int) (r3 : Int) (r4 : Int) (r5 : Int) (w : World) (h : pianolalaw03_Sheet_made.f a0_0 a0_1 a0_2 a0_3 a0_4 = some (r1, r2, r3, r4, r5)) :
 Calls Try.prog 42 #[.agg #[.int .u8 a0_0, .int .u8 a0_1, .int .u8 a0_2, .int .u8 a0_3, .int .u8 a0_4]] w fun e w' => e = .returned (.agg #[.int .i64 r1, .int .i64 r2, .int .i64 r3, .int .i64 r4, .int .i64 r5]) ∧ Below w.heap.size w w' := by
 have hu86 := Try.underlying86
 have hu57 := Try.underlying57
 have hu55 := Try.underlying55
 have HB := Aside0.mk (Below.refl w.heap.size w)
 have H : (some (wrap64 (900 + (Int.tmod (wrap64 (a0_0)) 150)), wrap64 ((wrap64 (900 + (Int.tmod (wrap64 (a0_0)) 150))) + (Int.tmod (wrap64 (a0_1)) 50)), wrap64 (1 + (Int.tmod (wrap64 (a0_2)) 12)), wrap64 (1 + (Int.tmod (wrap64 (a0_3)) 6)), wrap64 (1 + (Int.tmod (wrap64 (a0_4)) 14)))) = some (r1, r2, r3, r4, r5) := h
 clear h
 simp only [Option.some.injEq, Prod.mk.injEq] at H
 obtain ⟨rfl, rfl, rfl, rfl, rfl⟩ := H
 go_enter Try.func42, Try.ntmps42
 go_wp2_with (first | ((with_reducible refine gate_dst (N := 1) rfl ?_); refine box_event ?hg (N := 1) ?hd (cs := #[.int .u8 a0_0, .int .u8 a0_1, .int .u8 a0_2, .int .u8 a0_3, .int .u8 a0_4]) (t := 86) ?hr ?_; (case hd => rfl); (case hg => rfl); (case hr => first | (go_simp; done) | (go_simp; rfl)); intro gb686 hg w2 hbox hb; have BK686 := Aside0.mk (hbox); have GW686 := bgw_ HB hg; have GE686 := bgw_ HB hg; replace HB := bls_ HB hb; clear hb hbox hg) | ((with_reducible refine gate_dst (N := 2) rfl ?_); refine box_event ?hg (N := 2) ?hd (cs := #[.int .i64 0, .int .i64 0, .int .i64 0, .int .i64 0, .int .i64 0]) (t := 57) ?hr ?_; (case hd => rfl); (case hg => rfl); (case hr => first | (go_simp; done) | (go_simp; rfl)); intro gb687 hg w3 hbox hb; have BK687 := Aside0.mk (hbox); have GW687 := bgw_ HB hg; have GE687 := bgw_ HB hg; have NB686_687 := bnl_ BK686 hg; have NB687_686 := bng_ BK686 hg; replace BK686 := bkb_ BK686 hb; replace HB := bls_ HB hb; clear hb hbox hg; have hnb4 := NB686_687.out; have hnc4 := NB687_686.out; have hcz5_0 := bkc_ BK686 0 (.int .u8 a0_0) rfl; have hcz5_1 := bkc_ BK686 1 (.int .u8 a0_1) rfl; have hcz5_2 := bkc_ BK686 2 (.int .u8 a0_2) rfl; have hcz5_3 := bkc_ BK686 3 (.int .u8 a0_3) rfl; have hcz5_4 := bkc_ BK686 4 (.int .u8 a0_4) rfl; have hfz5_0 := blk_frozen BK686.out 0; have hfz5_1 := blk_frozen BK686.out 1; have hfz5_2 := blk_frozen BK686.out 2; have hfz5_3 := blk_frozen BK686.out 3; have hfz5_4 := blk_frozen BK686.out 4; have hcz6_0 := bkc_ BK687 0 (.int .i64 0) rfl; have hcz6_1 := bkc_ BK687 1 (.int .i64 0) rfl; have hcz6_2 := bkc_ BK687 2 (.int .i64 0) rfl; have hcz6_3 := bkc_ BK687 3 (.int .i64 0) rfl; have hcz6_4 := bkc_ BK687 4 (.int .i64 0) rfl; have hfz6_0 := blk_frozen BK687.out 0; have hfz6_1 := blk_frozen BK687.out 1; have hfz6_2 := blk_frozen BK687.out 2; have hfz6_3 := blk_frozen BK687.out 3; have hfz6_4 := blk_frozen BK687.out 4))
 refine bodyPost_ret (results_cell_row rfl _ _ gb687 57 #[.int .i64 (wrap64 (900 + (Int.tmod (wrap64 (a0_0)) 150))), .int .i64 (wrap64 ((wrap64 (900 + (Int.tmod (wrap64 (a0_0)) 150))) + (Int.tmod (wrap64 (a0_1)) 50))), .int .i64 (wrap64 (1 + (Int.tmod (wrap64 (a0_2)) 12))), .int .i64 (wrap64 (1 + (Int.tmod (wrap64 (a0_3)) 6))), .int .i64 (wrap64 (1 + (Int.tmod (wrap64 (a0_4)) 14)))] (0, 0) _ rfl (by (with_reducible repeat (first | refine blk_drewN ?_ _ | refine blk_drew ?_ | refine blk_alloc ?_ _)); refine blk_put (cs := #[.int .i64 (wrap64 (900 + (Int.tmod (wrap64 (a0_0)) 150))), .int .i64 (wrap64 ((wrap64 (900 + (Int.tmod (wrap64 (a0_0)) 150))) + (Int.tmod (wrap64 (a0_1)) 50))), .int .i64 (wrap64 (1 + (Int.tmod (wrap64 (a0_2)) 12))), .int .i64 (wrap64 (1 + (Int.tmod (wrap64 (a0_3)) 6))), .int .i64 0]) ?_ 4 _ rfl; (with_reducible repeat (first | refine blk_drewN ?_ _ | refine blk_drew ?_ | refine blk_alloc ?_ _)); refine blk_put (cs := #[.int .i64 (wrap64 (900 + (Int.tmod (wrap64 (a0_0)) 150))), .int .i64 (wrap64 ((wrap64 (900 + (Int.tmod (wrap64 (a0_0)) 150))) + (Int.tmod (wrap64 (a0_1)) 50))), .int .i64 (wrap64 (1 + (Int.tmod (wrap64 (a0_2)) 12))), .int .i64 0, .int .i64 0]) ?_ 3 _ rfl; (with_reducible repeat (first | refine blk_drewN ?_ _ | refine blk_drew ?_ | refine blk_alloc ?_ _)); refine blk_put (cs := #[.int .i64 (wrap64 (900 + (Int.tmod (wrap64 (a0_0)) 150))), .int .i64 (wrap64 ((wrap64 (900 + (Int.tmod (wrap64 (a0_0)) 150))) + (Int.tmod (wrap64 (a0_1)) 50))), .int .i64 0, .int .i64 0, .int .i64 0]) ?_ 2 _ rfl; (with_reducible repeat (first | refine blk_drewN ?_ _ | refine blk_drew ?_ | refine blk_alloc ?_ _)); refine blk_put (cs := #[.int .i64 (wrap64 (900 + (Int.tmod (wrap64 (a0_0)) 150))), .int .i64 0, .int .i64 0, .int .i64 0, .int .i64 0]) ?_ 1 _ rfl; (with_reducible repeat (first | refine blk_drewN ?_ _ | refine blk_drew ?_ | refine blk_alloc ?_ _)); refine blk_put (cs := #[.int .i64 0, .int .i64 0, .int .i64 0, .int .i64 0, .int .i64 0]) ?_ 0 _ rfl; (with_reducible repeat (first | refine blk_drewN ?_ _ | refine blk_drew ?_ | refine blk_alloc ?_ _)); exact BK687.out) Try.underlying57 rfl (by kernel_rfl)) rfl ?_
 exact ⟨by first | rfl | (simp [errW_none, errW_some] <;> rfl) | (simp [*, errW_none, errW_some] <;> rfl), by repeat (first | (with_reducible first | exact HB.out | apply below_alloc | apply pw_below_drewN | apply below_drew1 | refine below_set ?_ GE686.out | refine below_set ?_ GE687.out) | exact HB.out)⟩

-- NOT PRINTED: function 12 (pianolalaw03_PunchDays)

/-! ### pianolalaw03_divided: function 45 -/
mutual
def pianolalaw03_divided.l0 : Nat → Int → Int → Int → Int → Int → Int → Int → Option (Bool)
 | 0, _, _, _, _, _, _, _ => none
 | k + 1, x2, x3, x9, x703000, x703001, x704000, x704001 => if x9 ≤ x703001 then (pianolalaw03_divided.j1 k x2 x3 x9 (decide (x9 < x2)) x703000 x703001 x704000 x704001) else (pianolalaw03_divided.j1 k x2 x3 x9 false x703000 x703001 x704000 x704001)
def pianolalaw03_divided.j1 : Nat → Int → Int → Int → Bool → Int → Int → Int → Int → Option (Bool)
 | 0, _, _, _, _, _, _, _, _ => none
 | k + 1, x2, x3, x9, x33, x703000, x703001, x704000, x704001 => if x33 = true then (pianolalaw03_divided.l1 k x2 x3 x9 (mx 1 x704000) x703000 x703001 x704000 x704001) else (some false)
def pianolalaw03_divided.l1 : Nat → Int → Int → Int → Int → Int → Int → Int → Int → Option (Bool)
 | 0, _, _, _, _, _, _, _, _ => none
 | k + 1, x2, x3, x9, x10, x703000, x703001, x704000, x704001 => if x10 ≤ x704001 then (pianolalaw03_divided.j3 k x2 x3 x9 x10 (decide ((wrap64 (x9 + x10)) < x2)) x703000 x703001 x704000 x704001) else (pianolalaw03_divided.j3 k x2 x3 x9 x10 false x703000 x703001 x704000 x704001)
def pianolalaw03_divided.j3 : Nat → Int → Int → Int → Int → Bool → Int → Int → Int → Int → Option (Bool)
 | 0, _, _, _, _, _, _, _, _, _ => none
 | k + 1, x2, x3, x9, x10, x49, x703000, x703001, x704000, x704001 => if x49 = true then ((pianolalaw03_divided.f k x703000 x703001 x704000 x704001 (wrap64 ((wrap64 (x2 - x9)) - x10)) (wrap64 (x3 - 1))).bind fun t704 => (if t704 = true then (some true) else (pianolalaw03_divided.l1 k x2 x3 x9 (wrap64 (x10 + 1)) x703000 x703001 x704000 x704001))) else (pianolalaw03_divided.l0 k x2 x3 (wrap64 (x9 + 1)) x703000 x703001 x704000 x704001)
def pianolalaw03_divided.f : Nat → Int → Int → Int → Int → Int → Int → Option (Bool)
 | 0, _, _, _, _, _, _ => none
 | k + 1, a0_0, a0_1, a1_0, a1_1, a2, a3 => if a3 = 1 then (if a2 ≥ a0_0 then (some (decide (a2 ≤ a0_1))) else (some false)) else (pianolalaw03_divided.l0 k a2 a3 a0_0 a0_0 a0_1 a1_0 a1_1)
end
theorem pianolalaw03_divided.mono_l : ∀ k, (∀ y0 y1 y2 y3 y4 y5, LeO (pianolalaw03_divided.f k y0 y1 y2 y3 y4 y5) (pianolalaw03_divided.f (k + 1) y0 y1 y2 y3 y4 y5)) ∧ (∀ y0 y1 y2 y3 y4 y5 y6, LeO (pianolalaw03_divided.l0 k y0 y1 y2 y3 y4 y5 y6) (pianolalaw03_divided.l0 (k + 1) y0 y1 y2 y3 y4 y5 y6)) ∧ (∀ y0 y1 y2 y3 y4 y5 y6 y7, LeO (pianolalaw03_divided.j1 k y0 y1 y2 y3 y4 y5 y6 y7) (pianolalaw03_divided.j1 (k + 1) y0 y1 y2 y3 y4 y5 y6 y7)) ∧ (∀ y0 y1 y2 y3 y4 y5 y6 y7, LeO (pianolalaw03_divided.l1 k y0 y1 y2 y3 y4 y5 y6 y7) (pianolalaw03_divided.l1 (k + 1) y0 y1 y2 y3 y4 y5 y6 y7)) ∧ (∀ y0 y1 y2 y3 y4 y5 y6 y7 y8, LeO (pianolalaw03_divided.j3 k y0 y1 y2 y3 y4 y5 y6 y7 y8) (pianolalaw03_divided.j3 (k + 1) y0 y1 y2 y3 y4 y5 y6 y7 y8))
 | 0 => ⟨fun _ _ _ _ _ _ r h => by simp [pianolalaw03_divided.f] at h, fun _ _ _ _ _ _ _ r h => by simp [pianolalaw03_divided.l0] at h, fun _ _ _ _ _ _ _ _ r h => by simp [pianolalaw03_divided.j1] at h, fun _ _ _ _ _ _ _ _ r h => by simp [pianolalaw03_divided.l1] at h, fun _ _ _ _ _ _ _ _ _ r h => by simp [pianolalaw03_divided.j3] at h⟩
 | k + 1 => by
  obtain ⟨ih0, ih1, ih2, ih3, ih4⟩ := pianolalaw03_divided.mono_l k
  refine ⟨?_, ?_, ?_, ?_, ?_⟩
  · intro y0 y1 y2 y3 y4 y5
    unfold pianolalaw03_divided.f
    repeat' first
    | (with_reducible exact ih0 _ _ _ _ _ _)
    | (with_reducible exact ih1 _ _ _ _ _ _ _)
    | (with_reducible exact ih2 _ _ _ _ _ _ _ _)
    | (with_reducible exact ih3 _ _ _ _ _ _ _ _)
    | (with_reducible exact ih4 _ _ _ _ _ _ _ _ _)
    | (with_reducible exact LeO.refl _)
    | (with_reducible exact LeO.none _)
    | (with_reducible refine LeO.ite ?_ ?_)
    | (with_reducible refine LeO.bind ?_ (fun _ => ?_))
    | exact ih0 _ _ _ _ _ _
    | exact ih1 _ _ _ _ _ _ _
    | exact ih2 _ _ _ _ _ _ _ _
    | exact ih3 _ _ _ _ _ _ _ _
    | exact ih4 _ _ _ _ _ _ _ _ _
    | exact LeO.none _
    | refine LeO.ite ?_ ?_
    | refine LeO.bind ?_ (fun _ => ?_)
  · intro y0 y1 y2 y3 y4 y5 y6
    unfold pianolalaw03_divided.l0
    repeat' first
    | (with_reducible exact ih0 _ _ _ _ _ _)
    | (with_reducible exact ih1 _ _ _ _ _ _ _)
    | (with_reducible exact ih2 _ _ _ _ _ _ _ _)
    | (with_reducible exact ih3 _ _ _ _ _ _ _ _)
    | (with_reducible exact ih4 _ _ _ _ _ _ _ _ _)
    | (with_reducible exact LeO.refl _)
    | (with_reducible exact LeO.none _)
    | (with_reducible refine LeO.ite ?_ ?_)
    | (with_reducible refine LeO.bind ?_ (fun _ => ?_))
    | exact ih0 _ _ _ _ _ _
    | exact ih1 _ _ _ _ _ _ _
    | exact ih2 _ _ _ _ _ _ _ _
    | exact ih3 _ _ _ _ _ _ _ _
    | exact ih4 _ _ _ _ _ _ _ _ _
    | exact LeO.none _
    | refine LeO.ite ?_ ?_
    | refine LeO.bind ?_ (fun _ => ?_)
  · intro y0 y1 y2 y3 y4 y5 y6 y7
    unfold pianolalaw03_divided.j1
    repeat' first
    | (with_reducible exact ih0 _ _ _ _ _ _)
    | (with_reducible exact ih1 _ _ _ _ _ _ _)
    | (with_reducible exact ih2 _ _ _ _ _ _ _ _)
    | (with_reducible exact ih3 _ _ _ _ _ _ _ _)
    | (with_reducible exact ih4 _ _ _ _ _ _ _ _ _)
    | (with_reducible exact LeO.refl _)
    | (with_reducible exact LeO.none _)
    | (with_reducible refine LeO.ite ?_ ?_)
    | (with_reducible refine LeO.bind ?_ (fun _ => ?_))
    | exact ih0 _ _ _ _ _ _
    | exact ih1 _ _ _ _ _ _ _
    | exact ih2 _ _ _ _ _ _ _ _
    | exact ih3 _ _ _ _ _ _ _ _
    | exact ih4 _ _ _ _ _ _ _ _ _
    | exact LeO.none _
    | refine LeO.ite ?_ ?_
    | refine LeO.bind ?_ (fun _ => ?_)
  · intro y0 y1 y2 y3 y4 y5 y6 y7
    unfold pianolalaw03_divided.l1
    repeat' first
    | (with_reducible exact ih0 _ _ _ _ _ _)
    | (with_reducible exact ih1 _ _ _ _ _ _ _)
    | (with_reducible exact ih2 _ _ _ _ _ _ _ _)
    | (with_reducible exact ih3 _ _ _ _ _ _ _ _)
    | (with_reducible exact ih4 _ _ _ _ _ _ _ _ _)
    | (with_reducible exact LeO.refl _)
    | (with_reducible exact LeO.none _)
    | (with_reducible refine LeO.ite ?_ ?_)
    | (with_reducible refine LeO.bind ?_ (fun _ => ?_))
    | exact ih0 _ _ _ _ _ _
    | exact ih1 _ _ _ _ _ _ _
    | exact ih2 _ _ _ _ _ _ _ _
    | exact ih3 _ _ _ _ _ _ _ _
    | exact ih4 _ _ _ _ _ _ _ _ _
    | exact LeO.none _
    | refine LeO.ite ?_ ?_
    | refine LeO.bind ?_ (fun _ => ?_)
  · intro y0 y1 y2 y3 y4 y5 y6 y7 y8
    unfold pianolalaw03_divided.j3
    repeat' first
    | (with_reducible exact ih0 _ _ _ _ _ _)
    | (with_reducible exact ih1 _ _ _ _ _ _ _)
    | (with_reducible exact ih2 _ _ _ _ _ _ _ _)
    | (with_reducible exact ih3 _ _ _ _ _ _ _ _)
    | (with_reducible exact ih4 _ _ _ _ _ _ _ _ _)
    | (with_reducible exact LeO.refl _)
    | (with_reducible exact LeO.none _)
    | (with_reducible refine LeO.ite ?_ ?_)
    | (with_reducible refine LeO.bind ?_ (fun _ => ?_))
    | exact ih0 _ _ _ _ _ _
    | exact ih1 _ _ _ _ _ _ _
    | exact ih2 _ _ _ _ _ _ _ _
    | exact ih3 _ _ _ _ _ _ _ _
    | exact ih4 _ _ _ _ _ _ _ _ _
    | exact LeO.none _
    | refine LeO.ite ?_ ?_
    | refine LeO.bind ?_ (fun _ => ?_)
theorem pianolalaw03_divided.mono : ∀ a0 a1 a2 a3 a4 a5 k, LeO (pianolalaw03_divided.f k a0 a1 a2 a3 a4 a5) (pianolalaw03_divided.f (k + 1) a0 a1 a2 a3 a4 a5) := by
 intro a0 a1 a2 a3 a4 a5 k
 obtain ⟨ih0, ih1, ih2, ih3, ih4⟩ := pianolalaw03_divided.mono_l k
 exact ih0 a0 a1 a2 a3 a4 a5
set_option maxHeartbeats 8000000 in
set_option maxRecDepth 100000 in
theorem pianolalaw03_divided.calls (k : Nat) : ∀ (a0_0 : Int) (a0_1 : Int) (a1_0 : Int) (a1_1 : Int) (a2 : Int) (a3 : Int) (r : Bool) (w : World) (h : pianolalaw03_divided.f k a0_0 a0_1 a1_0 a1_1 a2 a3 = some r),
 Calls Try.prog 45 #[.agg #[.int .i64 a0_0, .int .i64 a0_1], .agg #[.int .i64 a1_0, .int .i64 a1_1], .int .i64 a2, .int .i64 a3] w fun e w' => e = .returned (.bool r) ∧ Below w.heap.size w w' := by
 induction k using Nat.strongRecOn with
 | _ k ih =>
 intro a0_0 a0_1 a1_0 a1_1 a2 a3 r w h
 cases k with
 | zero => exact absurd h (by simp [pianolalaw03_divided.f])
 | succ k =>
 simp only [pianolalaw03_divided.f] at h
 have hu55 := Try.underlying55
 have HB := Aside0.mk (Below.refl w.heap.size w)
 have H : (if a3 = 1 then (if a2 ≥ a0_0 then (some (decide (a2 ≤ a0_1))) else (some false)) else (pianolalaw03_divided.l0 k a2 a3 a0_0 a0_0 a0_1 a1_0 a1_1)) = some r := h
 clear h
 by_cases c5 : a3 = 1
 · rw [if_pos c5] at H
   have c5b0 : (a3 == 1) = true := beq_iff_eq.mpr c5
   have c5b1 : (a3 != 1) = false := bne_eq_false_iff_eq.mpr c5
   clear c5
   by_cases c6 : a2 ≥ a0_0
   · rw [if_pos c6] at H
     have c6b0 : decide (a0_0 ≤ a2) = true := decide_eq_true c6
     clear c6
     obtain rfl := Option.some.inj H
     go_enter Try.func45, Try.ntmps45
     go_wp2_with (first | ((with_reducible refine gate_dst (N := 4) rfl ?_); refine box_event ?hg (N := 4) ?hd (cs := #[.int .i64 a0_0, .int .i64 a0_1]) (t := 55) ?hr ?_; (case hd => rfl); (case hg => rfl); (case hr => first | (go_simp; done) | (go_simp; rfl)); intro gb702 hg w7 hbox hb; have BK702 := Aside0.mk (hbox); have GW702 := bgw_ HB hg; have GE702 := bgw_ HB hg; replace HB := bls_ HB hb; clear hb hbox hg) | ((with_reducible refine gate_dst (N := 5) rfl ?_); refine box_event ?hg (N := 5) ?hd (cs := #[.int .i64 a1_0, .int .i64 a1_1]) (t := 55) ?hr ?_; (case hd => rfl); (case hg => rfl); (case hr => first | (go_simp; done) | (go_simp; rfl)); intro gb703 hg w8 hbox hb; have BK703 := Aside0.mk (hbox); have GW703 := bgw_ HB hg; have GE703 := bgw_ HB hg; have NB702_703 := bnl_ BK702 hg; have NB703_702 := bng_ BK702 hg; replace BK702 := bkb_ BK702 hb; replace HB := bls_ HB hb; clear hb hbox hg; have hnb9 := NB702_703.out; have hnc9 := NB703_702.out; have hcz10_0 := bkc_ BK702 0 (.int .i64 a0_0) rfl; have hcz10_1 := bkc_ BK702 1 (.int .i64 a0_1) rfl; have hfz10_0 := blk_frozen BK702.out 0; have hfz10_1 := blk_frozen BK702.out 1))
     go_ret
     exact ⟨by first | rfl | (simp [errW_none, errW_some] <;> rfl) | (simp [*, errW_none, errW_some] <;> rfl), by repeat (first | (with_reducible first | exact HB.out | apply below_alloc | apply pw_below_drewN | apply below_drew1 | refine below_set ?_ GE702.out | refine below_set ?_ GE703.out) | exact HB.out)⟩
   · rw [if_neg c6] at H
     have c6b0 : decide (a0_0 ≤ a2) = false := decide_eq_false c6
     clear c6
     obtain rfl := Option.some.inj H
     go_enter Try.func45, Try.ntmps45
     go_wp2_with (first | ((with_reducible refine gate_dst (N := 4) rfl ?_); refine box_event ?hg (N := 4) ?hd (cs := #[.int .i64 a0_0, .int .i64 a0_1]) (t := 55) ?hr ?_; (case hd => rfl); (case hg => rfl); (case hr => first | (go_simp; done) | (go_simp; rfl)); intro gb702 hg w11 hbox hb; have BK702 := Aside0.mk (hbox); have GW702 := bgw_ HB hg; have GE702 := bgw_ HB hg; replace HB := bls_ HB hb; clear hb hbox hg) | ((with_reducible refine gate_dst (N := 5) rfl ?_); refine box_event ?hg (N := 5) ?hd (cs := #[.int .i64 a1_0, .int .i64 a1_1]) (t := 55) ?hr ?_; (case hd => rfl); (case hg => rfl); (case hr => first | (go_simp; done) | (go_simp; rfl)); intro gb703 hg w12 hbox hb; have BK703 := Aside0.mk (hbox); have GW703 := bgw_ HB hg; have GE703 := bgw_ HB hg; have NB702_703 := bnl_ BK702 hg; have NB703_702 := bng_ BK702 hg; replace BK702 := bkb_ BK702 hb; replace HB := bls_ HB hb; clear hb hbox hg; have hnb13 := NB702_703.out; have hnc13 := NB703_702.out; have hcz14_0 := bkc_ BK702 0 (.int .i64 a0_0) rfl; have hcz14_1 := bkc_ BK702 1 (.int .i64 a0_1) rfl; have hfz14_0 := blk_frozen BK702.out 0; have hfz14_1 := blk_frozen BK702.out 1))
     go_ret
     exact ⟨by first | rfl | (simp [errW_none, errW_some] <;> rfl) | (simp [*, errW_none, errW_some] <;> rfl), by repeat (first | (with_reducible first | exact HB.out | apply below_alloc | apply pw_below_drewN | apply below_drew1 | refine below_set ?_ GE702.out | refine below_set ?_ GE703.out) | exact HB.out)⟩
 · rw [if_neg c5] at H
   have c5b0 : (a3 == 1) = false := beq_eq_false_iff_ne.mpr c5
   have c5b1 : (a3 != 1) = true := bne_iff_ne.mpr c5
   have H' := Aside0.mk H
   clear H
   go_enter Try.func45, Try.ntmps45
   go_wp2_with (first | ((with_reducible refine gate_dst (N := 4) rfl ?_); refine box_event ?hg (N := 4) ?hd (cs := #[.int .i64 a0_0, .int .i64 a0_1]) (t := 55) ?hr ?_; (case hd => rfl); (case hg => rfl); (case hr => first | (go_simp; done) | (go_simp; rfl)); intro gb702 hg w15 hbox hb; have BK702 := Aside0.mk (hbox); have GW702 := bgw_ HB hg; have GE702 := bgw_ HB hg; replace HB := bls_ HB hb; clear hb hbox hg) | ((with_reducible refine gate_dst (N := 5) rfl ?_); refine box_event ?hg (N := 5) ?hd (cs := #[.int .i64 a1_0, .int .i64 a1_1]) (t := 55) ?hr ?_; (case hd => rfl); (case hg => rfl); (case hr => first | (go_simp; done) | (go_simp; rfl)); intro gb703 hg w16 hbox hb; have BK703 := Aside0.mk (hbox); have GW703 := bgw_ HB hg; have GE703 := bgw_ HB hg; have NB702_703 := bnl_ BK702 hg; have NB703_702 := bng_ BK702 hg; replace BK702 := bkb_ BK702 hb; replace HB := bls_ HB hb; clear hb hbox hg; have hnb17 := NB702_703.out; have hnc17 := NB703_702.out; have hcz18_0 := bkc_ BK702 0 (.int .i64 a0_0) rfl; have hcz18_1 := bkc_ BK702 1 (.int .i64 a0_1) rfl; have hfz18_0 := blk_frozen BK702.out 0; have hfz18_1 := blk_frozen BK702.out 1))
   go_loopg [9] k (fun kq v9 w' => ∃ (x9_1 : Int), v9 = .int .i64 x9_1 ∧ Aside0 (pianolalaw03_divided.l0 kq a2 a3 x9_1 a0_0 a0_1 a1_0 a1_1 = some r) ∧ Aside0 (kq ≤ k) ∧ Aside0 (w'.heap[gb702]? = some (.cells #[.int .i64 a0_0, .int .i64 a0_1] 55 (0, 0))) ∧ Aside0 (w'.heap[gb703]? = some (.cells #[.int .i64 a1_0, .int .i64 a1_1] 55 (0, 0))) ∧ Aside0 (Below w.heap.size w w'))
   case atStart => exact ⟨(a0_0), (by first | rfl | (simp; done) | (simp [*]; done)), H', ⟨Nat.le_refl _⟩, bkx_ BK702, bkx_ BK703, blx_ HB⟩
   case round =>
    clear H'
    try clear c1
    try clear p2
    try clear c4
    try clear c5
    try clear c5b0
    try clear c5b1
    try clear c6
    try clear c6b0
    try clear c9
    try clear c13
    try clear c17
    try clear hcz10_0
    try clear hcz10_1
    try clear hcz14_0
    try clear hcz14_1
    try clear hcz18_0
    try clear hcz18_1
    try clear hfz10_0
    try clear hfz10_1
    try clear hfz14_0
    try clear hfz14_1
    try clear hfz18_0
    try clear hfz18_1
    obtain ⟨x9_1, rfl, HA, HK1, BK702, BK703, HB⟩ := hrel
    cases gk with
    | zero => exact absurd HA.out (by simp [pianolalaw03_divided.l0])
    | succ k1 =>
     have H := HA.out
     clear HA
     simp only [pianolalaw03_divided.l0] at H
     have HC19 := Aside0.mk H
     clear H
     go_upto_region 4 with (fail)
     go_cut [33] (fun v33 wc => ∃ (kq : Nat) (x33_18 : Bool), v33 = .bool x33_18 ∧ Aside0 (pianolalaw03_divided.j1 kq a2 a3 x9_1 x33_18 a0_0 a0_1 a1_0 a1_1 = some r) ∧ Aside0 (kq ≤ k1) ∧ Aside0 (wc.heap[gb702]? = some (.cells #[.int .i64 a0_0, .int .i64 a0_1] 55 (0, 0))) ∧ Aside0 (wc.heap[gb703]? = some (.cells #[.int .i64 a1_0, .int .i64 a1_1] 55 (0, 0))) ∧ Aside0 (Below w.heap.size w wc))
     case first =>
      have H := HC19.out
      clear HC19
      by_cases c20 : x9_1 ≤ a0_1
      · rw [if_pos c20] at H
        have c20b0 : decide (x9_1 ≤ a0_1) = true := decide_eq_true c20
        clear c20
        (first | rw [c20b0] | (simp only [i64_w, i32_w]; rw [c20b0]) | skip)
        have H' := Aside0.mk H
        clear H
        have hnb21 := NB702_703.out
        have hnc21 := NB703_702.out
        have hcz22_0 := bkc_ BK702 0 (.int .i64 a0_0) rfl
        have hcz22_1 := bkc_ BK702 1 (.int .i64 a0_1) rfl
        have hfz22_0 := blk_frozen BK702.out 0
        have hfz22_1 := blk_frozen BK702.out 1
        go_wp2
        go_meet
        case rel => exact ⟨_, (decide (x9_1 < a2)), (by first | rfl | (simp; done) | (simp [*]; done)), H', ⟨by have := HK1.out; first | omega | exact Nat.le_refl _⟩, bkx_ BK702, bkx_ BK703, blx_ HB⟩
      · rw [if_neg c20] at H
        have c20b0 : decide (x9_1 ≤ a0_1) = false := decide_eq_false c20
        clear c20
        (first | rw [c20b0] | (simp only [i64_w, i32_w]; rw [c20b0]) | skip)
        have H' := Aside0.mk H
        clear H
        have hnb23 := NB702_703.out
        have hnc23 := NB703_702.out
        have hcz24_0 := bkc_ BK702 0 (.int .i64 a0_0) rfl
        have hcz24_1 := bkc_ BK702 1 (.int .i64 a0_1) rfl
        have hfz24_0 := blk_frozen BK702.out 0
        have hfz24_1 := blk_frozen BK702.out 1
        go_wp2
        go_meet
        case rel => exact ⟨_, (false), (by first | rfl | (simp; done) | (simp [*]; done)), H', ⟨by have := HK1.out; first | omega | exact Nat.le_refl _⟩, bkx_ BK702, bkx_ BK703, blx_ HB⟩
     case rest =>
      clear HC19
      try clear c1
      try clear c2
      try clear p2
      try clear c4
      try clear c5
      try clear c5b0
      try clear c5b1
      try clear c6
      try clear c6b0
      try clear c9
      try clear c13
      try clear c17
      try clear c20
      try clear c20b0
      try clear c21
      try clear c23
      try clear hcz10_0
      try clear hcz10_1
      try clear hcz14_0
      try clear hcz14_1
      try clear hcz18_0
      try clear hcz18_1
      try clear hcz22_0
      try clear hcz22_1
      try clear hcz24_0
      try clear hcz24_1
      try clear hfz10_0
      try clear hfz10_1
      try clear hfz14_0
      try clear hfz14_1
      try clear hfz18_0
      try clear hfz18_1
      try clear hfz22_0
      try clear hfz22_1
      try clear hfz24_0
      try clear hfz24_1
      try clear p2
      obtain ⟨kq, x33_18, rfl, HA, HJ18, BK702, BK703, HB⟩ := hcut
      cases kq with
      | zero => exact absurd HA.out (by simp [pianolalaw03_divided.j1])
      | succ kj18 =>
       have H := HA.out
       clear HA
       simp only [pianolalaw03_divided.j1] at H
       by_cases c25 : x33_18 = true
       · subst c25
         have H1 : (pianolalaw03_divided.l1 kj18 a2 a3 x9_1 (mx 1 a1_0) a0_0 a0_1 a1_0 a1_1) = some r := by rw [if_pos rfl] at H; exact H
         clear H
         have H := H1
         clear H1
         obtain ⟨ji26, hji26⟩ : ∃ j_ : Int, (mx 1 a1_0) = j_ := ⟨_, rfl⟩
         replace H : (pianolalaw03_divided.l1 kj18 a2 a3 x9_1 ji26 a0_0 a0_1 a1_0 a1_1) = some r := by first | (rw [hji26] at H; exact H) | (simp only [hji26] at H ⊢; exact H)
         have hji26_ : (if 1 < a1_0 then a1_0 else 1) = ji26 := hji26
         have H' := Aside0.mk H
         clear H
         have hnb27 := NB703_702.out
         have hnc27 := NB702_703.out
         have hcz28_0 := bkc_ BK703 0 (.int .i64 a1_0) rfl
         have hcz28_1 := bkc_ BK703 1 (.int .i64 a1_1) rfl
         have hfz28_0 := blk_frozen BK703.out 0
         have hfz28_1 := blk_frozen BK703.out 1
         go_wp2
         go_loopg [10] kj18 (fun kq v10 w' => ∃ (x10_3 : Int), v10 = .int .i64 x10_3 ∧ Aside0 (pianolalaw03_divided.l1 kq a2 a3 x9_1 x10_3 a0_0 a0_1 a1_0 a1_1 = some r) ∧ Aside0 (kq ≤ kj18) ∧ Aside0 (w'.heap[gb702]? = some (.cells #[.int .i64 a0_0, .int .i64 a0_1] 55 (0, 0))) ∧ Aside0 (w'.heap[gb703]? = some (.cells #[.int .i64 a1_0, .int .i64 a1_1] 55 (0, 0))) ∧ Aside0 (Below w.heap.size w w'))
         case atStart => exact ⟨(ji26), (by first | rfl | (simp; done) | (simp only [← hji26] <;> (first | rfl | simp)) | (simp [*]; done)), H', ⟨Nat.le_refl _⟩, bkx_ BK702, bkx_ BK703, blx_ HB⟩
         case round =>
          clear H'
          try clear c1
          try clear c2
          try clear p2
          try clear c4
          try clear c5
          try clear c5b0
          try clear c5b1
          try clear c6
          try clear c6b0
          try clear c9
          try clear c13
          try clear c17
          try clear c20
          try clear c20b0
          try clear c21
          try clear c23
          try clear c25
          try clear c27
          try clear hcz10_0
          try clear hcz10_1
          try clear hcz14_0
          try clear hcz14_1
          try clear hcz18_0
          try clear hcz18_1
          try clear hcz22_0
          try clear hcz22_1
          try clear hcz24_0
          try clear hcz24_1
          try clear hcz28_0
          try clear hcz28_1
          try clear hfz10_0
          try clear hfz10_1
          try clear hfz14_0
          try clear hfz14_1
          try clear hfz18_0
          try clear hfz18_1
          try clear hfz22_0
          try clear hfz22_1
          try clear hfz24_0
          try clear hfz24_1
          try clear hfz28_0
          try clear hfz28_1
          try clear p2
          obtain ⟨x10_3, rfl, HA, HK3, BK702, BK703, HB⟩ := hrel
          cases gk with
          | zero => exact absurd HA.out (by simp [pianolalaw03_divided.l1])
          | succ k3 =>
           have H := HA.out
           clear HA
           simp only [pianolalaw03_divided.l1] at H
           have HC29 := Aside0.mk H
           clear H
           go_upto_region 7 with (fail)
           go_cut [49] (fun v49 wc => ∃ (kq : Nat) (x49_28 : Bool), v49 = .bool x49_28 ∧ Aside0 (pianolalaw03_divided.j3 kq a2 a3 x9_1 x10_3 x49_28 a0_0 a0_1 a1_0 a1_1 = some r) ∧ Aside0 (kq ≤ k3) ∧ Aside0 (wc.heap[gb702]? = some (.cells #[.int .i64 a0_0, .int .i64 a0_1] 55 (0, 0))) ∧ Aside0 (wc.heap[gb703]? = some (.cells #[.int .i64 a1_0, .int .i64 a1_1] 55 (0, 0))) ∧ Aside0 (Below w.heap.size w wc))
           case first =>
            have H := HC29.out
            clear HC29
            by_cases c30 : x10_3 ≤ a1_1
            · rw [if_pos c30] at H
              have c30b0 : decide (x10_3 ≤ a1_1) = true := decide_eq_true c30
              clear c30
              (first | rw [c30b0] | (simp only [i64_w, i32_w]; rw [c30b0]) | skip)
              have H' := Aside0.mk H
              clear H
              have hnb31 := NB703_702.out
              have hnc31 := NB702_703.out
              have hcz32_0 := bkc_ BK703 0 (.int .i64 a1_0) rfl
              have hcz32_1 := bkc_ BK703 1 (.int .i64 a1_1) rfl
              have hfz32_0 := blk_frozen BK703.out 0
              have hfz32_1 := blk_frozen BK703.out 1
              go_wp2
              go_meet
              case rel => exact ⟨_, (decide ((wrap64 (x9_1 + x10_3)) < a2)), (by first | rfl | (simp; done) | (simp [*]; done)), H', ⟨by have := HK1.out; have := HJ18.out; have := HK3.out; first | omega | exact Nat.le_refl _⟩, bkx_ BK702, bkx_ BK703, blx_ HB⟩
            · rw [if_neg c30] at H
              have c30b0 : decide (x10_3 ≤ a1_1) = false := decide_eq_false c30
              clear c30
              (first | rw [c30b0] | (simp only [i64_w, i32_w]; rw [c30b0]) | skip)
              have H' := Aside0.mk H
              clear H
              have hnb33 := NB703_702.out
              have hnc33 := NB702_703.out
              have hcz34_0 := bkc_ BK703 0 (.int .i64 a1_0) rfl
              have hcz34_1 := bkc_ BK703 1 (.int .i64 a1_1) rfl
              have hfz34_0 := blk_frozen BK703.out 0
              have hfz34_1 := blk_frozen BK703.out 1
              go_wp2
              go_meet
              case rel => exact ⟨_, (false), (by first | rfl | (simp; done) | (simp [*]; done)), H', ⟨by have := HK1.out; have := HJ18.out; have := HK3.out; first | omega | exact Nat.le_refl _⟩, bkx_ BK702, bkx_ BK703, blx_ HB⟩
           case rest =>
            clear HC29
            try clear c1
            try clear c2
            try clear p2
            try clear c3
            try clear c4
            try clear c5
            try clear c5b0
            try clear c5b1
            try clear c6
            try clear c6b0
            try clear p6
            try clear c9
            try clear c13
            try clear c17
            try clear c20
            try clear c20b0
            try clear c21
            try clear c23
            try clear c25
            try clear c27
            try clear c30
            try clear c30b0
            try clear c31
            try clear c33
            try clear hcz10_0
            try clear hcz10_1
            try clear hcz14_0
            try clear hcz14_1
            try clear hcz18_0
            try clear hcz18_1
            try clear hcz22_0
            try clear hcz22_1
            try clear hcz24_0
            try clear hcz24_1
            try clear hcz28_0
            try clear hcz28_1
            try clear hcz32_0
            try clear hcz32_1
            try clear hcz34_0
            try clear hcz34_1
            try clear hfz10_0
            try clear hfz10_1
            try clear hfz14_0
            try clear hfz14_1
            try clear hfz18_0
            try clear hfz18_1
            try clear hfz22_0
            try clear hfz22_1
            try clear hfz24_0
            try clear hfz24_1
            try clear hfz28_0
            try clear hfz28_1
            try clear hfz32_0
            try clear hfz32_1
            try clear hfz34_0
            try clear hfz34_1
            try clear p2
            obtain ⟨kq, x49_28, rfl, HA, HJ28, BK702, BK703, HB⟩ := hcut
            cases kq with
            | zero => exact absurd HA.out (by simp [pianolalaw03_divided.j3])
            | succ kj28 =>
             have H := HA.out
             clear HA
             simp only [pianolalaw03_divided.j3] at H
             by_cases c35 : x49_28 = true
             · subst c35
               have H1 : ((pianolalaw03_divided.f kj28 a0_0 a0_1 a1_0 a1_1 (wrap64 ((wrap64 (a2 - x9_1)) - x10_3)) (wrap64 (a3 - 1))).bind fun t704 => (if t704 = true then (some true) else (pianolalaw03_divided.l1 kj28 a2 a3 x9_1 (wrap64 (x10_3 + 1)) a0_0 a0_1 a1_0 a1_1))) = some r := by rw [if_pos rfl] at H; exact H
               clear H
               have H := H1
               clear H1
               replace H := Option.bind_eq_some_iff.mp H
               obtain ⟨t704, A360, H⟩ := H
               replace H : (if t704 = true then (some true) else (pianolalaw03_divided.l1 kj28 a2 a3 x9_1 (wrap64 (x10_3 + 1)) a0_0 a0_1 a1_0 a1_1)) = some r := H
               have A36 := Aside0.mk A360
               clear A360
               by_cases c37 : t704 = true
               · subst c37
                 have H1 : (some true) = some r := by rw [if_pos rfl] at H; exact H
                 clear H
                 have H := H1
                 clear H1
                 obtain rfl := Option.some.inj H
                 have hnb38 := NB702_703.out
                 have hnc38 := NB703_702.out
                 have hcz39_0 := bkc_ BK702 0 (.int .i64 a0_0) rfl
                 have hcz39_1 := bkc_ BK702 1 (.int .i64 a0_1) rfl
                 have hfz39_0 := blk_frozen BK702.out 0
                 have hfz39_1 := blk_frozen BK702.out 1
                 have hcz40_0 := bkc_ BK703 0 (.int .i64 a1_0) rfl
                 have hcz40_1 := bkc_ BK703 1 (.int .i64 a1_1) rfl
                 have hfz40_0 := blk_frozen BK703.out 0
                 have hfz40_1 := blk_frozen BK703.out 1
                 go_wp2_with (first | ((with_reducible refine gate_callee (f := 45) rfl ?_); refine goesL_ (some 61) rfl rfl Try.func45 (by kernel_rfl) rfl #[.agg #[.int .i64 a0_0, .int .i64 a0_1], .agg #[.int .i64 a1_0, .int .i64 a1_1], .int .i64 (wrap64 ((wrap64 (a2 - x9_1)) - x10_3)), .int .i64 (wrap64 (a3 - 1))] rfl (by (try simp only [List.map_toArray, List.map_cons, List.map_nil]); first | done | rfl | (simp only [List.length_drop, List.length_take]; rfl)) ?_; (with_reducible refine (ih kj28 (by have := HK1.out; have := HJ18.out; have := HK3.out; have := HJ28.out; omega) a0_0 a0_1 a1_0 a1_1 (wrap64 ((wrap64 (a2 - x9_1)) - x10_3)) (wrap64 (a3 - 1)) true _ A36.out).mono ?_); rintro e w41 ⟨rfl, hb⟩; refine ⟨_, rfl, ?_⟩; replace BK702 := bkb_ BK702 hb; replace BK703 := bkb_ BK703 hb; replace HB := bls_ HB hb; (try clear hb); (try clear hb2); (try clear hk); (try clear hi)))
                 go_ret
                 exact ⟨by first | rfl | (simp [errW_none, errW_some] <;> rfl) | (simp only [← hji26]; first | rfl | (simp [errW_none, errW_some] <;> rfl)) | (simp [*, errW_none, errW_some] <;> rfl), by repeat (first | (with_reducible first | exact HB.out | apply below_alloc | apply pw_below_drewN | apply below_drew1 | refine below_set ?_ GE702.out | refine below_set ?_ GE703.out) | exact HB.out)⟩
               · replace c37 := Bool.eq_false_iff.mpr c37
                 subst c37
                 have H1 : (pianolalaw03_divided.l1 kj28 a2 a3 x9_1 (wrap64 (x10_3 + 1)) a0_0 a0_1 a1_0 a1_1) = some r := by rw [if_neg (show ¬ (false = true) by decide)] at H; exact H
                 clear H
                 have H := H1
                 clear H1
                 have H' := Aside0.mk H
                 clear H
                 have hnb42 := NB702_703.out
                 have hnc42 := NB703_702.out
                 have hcz43_0 := bkc_ BK702 0 (.int .i64 a0_0) rfl
                 have hcz43_1 := bkc_ BK702 1 (.int .i64 a0_1) rfl
                 have hfz43_0 := blk_frozen BK702.out 0
                 have hfz43_1 := blk_frozen BK702.out 1
                 have hcz44_0 := bkc_ BK703 0 (.int .i64 a1_0) rfl
                 have hcz44_1 := bkc_ BK703 1 (.int .i64 a1_1) rfl
                 have hfz44_0 := blk_frozen BK703.out 0
                 have hfz44_1 := blk_frozen BK703.out 1
                 go_wp2_with (first | ((with_reducible refine gate_callee (f := 45) rfl ?_); refine goesL_ (some 61) rfl rfl Try.func45 (by kernel_rfl) rfl #[.agg #[.int .i64 a0_0, .int .i64 a0_1], .agg #[.int .i64 a1_0, .int .i64 a1_1], .int .i64 (wrap64 ((wrap64 (a2 - x9_1)) - x10_3)), .int .i64 (wrap64 (a3 - 1))] rfl (by (try simp only [List.map_toArray, List.map_cons, List.map_nil]); first | done | rfl | (simp only [List.length_drop, List.length_take]; rfl)) ?_; (with_reducible refine (ih kj28 (by have := HK1.out; have := HJ18.out; have := HK3.out; have := HJ28.out; omega) a0_0 a0_1 a1_0 a1_1 (wrap64 ((wrap64 (a2 - x9_1)) - x10_3)) (wrap64 (a3 - 1)) false _ A36.out).mono ?_); rintro e w45 ⟨rfl, hb⟩; refine ⟨_, rfl, ?_⟩; replace BK702 := bkb_ BK702 hb; replace BK703 := bkb_ BK703 hb; replace HB := bls_ HB hb; (try clear hb); (try clear hb2); (try clear hk); (try clear hi)))
                 go_roundg kj28
                 case measure => have := HK1.out; have := HJ18.out; have := HK3.out; have := HJ28.out; omega
                 case rel => exact ⟨(wrap64 (x10_3 + 1)), (by first | rfl | (simp; done) | (simp [*]; done)), H', ⟨by have := HK1.out; have := HJ18.out; have := HK3.out; have := HJ28.out; omega⟩, bkx_ BK702, bkx_ BK703, blx_ HB⟩
             · replace c35 := Bool.eq_false_iff.mpr c35
               subst c35
               have H1 : (pianolalaw03_divided.l0 kj28 a2 a3 (wrap64 (x9_1 + 1)) a0_0 a0_1 a1_0 a1_1) = some r := by rw [if_neg (show ¬ (false = true) by decide)] at H; exact H
               clear H
               have H := H1
               clear H1
               have H' := Aside0.mk H
               clear H
               go_wp2
               go_roundg kj28
               case measure => have := HK1.out; have := HJ18.out; have := HK3.out; have := HJ28.out; omega
               case rel => exact ⟨(wrap64 (x9_1 + 1)), (by first | rfl | (simp; done) | (simp [*]; done)), H', ⟨by have := HK1.out; have := HJ18.out; have := HK3.out; have := HJ28.out; omega⟩, bkx_ BK702, bkx_ BK703, blx_ HB⟩
       · replace c25 := Bool.eq_false_iff.mpr c25
         subst c25
         have H1 : (some false) = some r := by rw [if_neg (show ¬ (false = true) by decide)] at H; exact H
         clear H
         have H := H1
         clear H1
         obtain rfl := Option.some.inj H
         go_wp2
         go_ret
         exact ⟨by first | rfl | (simp [errW_none, errW_some] <;> rfl) | (simp [*, errW_none, errW_some] <;> rfl), by repeat (first | (with_reducible first | exact HB.out | apply below_alloc | apply pw_below_drewN | apply below_drew1 | refine below_set ?_ GE702.out | refine below_set ?_ GE703.out) | exact HB.out)⟩

-- NOT PRINTED: function 13 (pianolalaw03_PunchFewest)

end Go.Proofs.Ytaaonhfaoaabbaa.X
