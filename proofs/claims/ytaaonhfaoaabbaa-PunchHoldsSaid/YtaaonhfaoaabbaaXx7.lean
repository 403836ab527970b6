-- Written by a program (the kit's print, some functions told as proved by hand). Not trusted: Lean checks it.
import Derived.Test.YtaaonhfaoaabbaaXx0
import Derived.Test.YtaaonhfaoaabbaaWs
import Derived.Test.YtaaonhfaoaabbaaXx1
namespace Go.Proofs.Ytaaonhfaoaabbaa.X
open Go.RowKit Go.Proofs.YtaaonhfaoaabbaaW.PrintWords Go.Proofs.YtaaonhfaoaabbaaW.PrintLast Go.Proofs.YtaaonhfaoaabbaaW.PrintMore
attribute [local go_sem] max2_int min2_int max_two min_two max_three min_three max_four min_four   -- for this text's walks alone
set_option linter.unusedVariables false
set_option linter.unusedSimpArgs false

/-! ### punch_Holds: function 35 -/
mutual
def punch_Holds.j0 : Nat → List (S47) → Bool → Int → Int → Int → Int → Int → Int → Int → Option (Int)
 | 0, _, _, _, _, _, _, _, _, _ => none
 | k + 1, x2, x14, x134000, x134001, x134002, x134003, x134004, x135000, x135001 => if x14 = true then (some 3) else (if (x2.length : Int) > 200 then (some 5) else (if (x2.length : Int) = 0 then (some 6) else (punch_Holds.l0 k x2 x2 (x2.length : Int) 0 x134000 x134001 x134002 x134003 x134004 x135000 x135001)))
def punch_Holds.l0 : Nat → List (S47) → List (S47) → Int → Int → Int → Int → Int → Int → Int → Int → Int → Option (Int)
 | 0, _, _, _, _, _, _, _, _, _, _, _ => none
 | k + 1, x2, x31, x32, x33, x134000, x134001, x134002, x134003, x134004, x135000, x135001 => if x33 < x32 then (if 0 ≤ x33 then (if x33 < (x31.length : Int) then ((punch_Slot_good.f ((rd_T47 x31 x33).f0) ((rd_T47 x31 x33).f1)).bind fun t139 => (if t139 = true then (punch_Holds.l0 k x2 x31 x32 (wrap64 (x33 + 1)) x134000 x134001 x134002 x134003 x134004 x135000 x135001) else (some 6))) else (none)) else (none)) else (if 0 < (x2.length : Int) then (if ((rd_T47 x2 0).f0) = x135000 then (if 0 ≤ (wrap64 ((x2.length : Int) - 1)) then (if (wrap64 ((x2.length : Int) - 1)) < (x2.length : Int) then (punch_Holds.j2 k x2 (((rd_T47 x2 (wrap64 ((x2.length : Int) - 1))).f1) != x135001) x134000 x134001 x134002 x134003 x134004) else (none)) else (none)) else (punch_Holds.j2 k x2 true x134000 x134001 x134002 x134003 x134004)) else (none))
def punch_Holds.j2 : Nat → List (S47) → Bool → Int → Int → Int → Int → Int → Option (Int)
 | 0, _, _, _, _, _, _, _ => none
 | k + 1, x2, x59, x134000, x134001, x134002, x134003, x134004 => if x59 = true then (some 13) else (if 1 ≤ (x2.length : Int) then ((some (x2.drop 1 : List (S47))).bind fun y142 => (punch_Holds.l1 k x2 y142 (y142.length : Int) 0 x134000 x134001 x134002 x134003 x134004)) else (none))
def punch_Holds.l1 : Nat → List (S47) → List (S47) → Int → Int → Int → Int → Int → Int → Int → Option (Int)
 | 0, _, _, _, _, _, _, _, _, _ => none
 | k + 1, x2, x61, x62, x63, x134000, x134001, x134002, x134003, x134004 => if x63 < x62 then (if 0 ≤ x63 then (if x63 < (x61.length : Int) then (if x63 < (x2.length : Int) then (if ((rd_T47 x61 x63).f0) ≤ ((rd_T47 x2 x63).f1) then (some 13) else (punch_Holds.l1 k x2 x61 x62 (wrap64 (x63 + 1)) x134000 x134001 x134002 x134003 x134004)) else (none)) else (none)) else (none)) else (punch_Holds.l2 k x2 x2 (x2.length : Int) 0 x134000 x134001 x134002 x134003 x134004)
def punch_Holds.l2 : Nat → List (S47) → List (S47) → Int → Int → Int → Int → Int → Int → Int → Option (Int)
 | 0, _, _, _, _, _, _, _, _, _ => none
 | k + 1, x2, x77, x78, x79, x134000, x134001, x134002, x134003, x134004 => if x79 < x78 then (if 0 ≤ x79 then (if x79 < (x77.length : Int) then (if (wrap64 ((wrap64 (((rd_T47 x77 x79).f1) - ((rd_T47 x77 x79).f0))) * x134001)) > (wrap64 (1000 * x134002)) then (some 21) else (if x79 = 0 then (punch_Holds.l2 k x2 x77 x78 (wrap64 (x79 + 1)) x134000 x134001 x134002 x134003 x134004) else (if 0 ≤ (wrap64 (x79 - 1)) then (if (wrap64 (x79 - 1)) < (x2.length : Int) then (if (wrap64 ((wrap64 (((rd_T47 x77 x79).f0) - ((rd_T47 x2 (wrap64 (x79 - 1))).f1))) * x134000)) < (wrap64 (1000 * x134003)) then (some 21) else (if (wrap64 ((wrap64 (((rd_T47 x77 x79).f0) - ((rd_T47 x2 (wrap64 (x79 - 1))).f1))) * x134001)) ≥ (wrap64 (1000 * x134004)) then (some 21) else (punch_Holds.l2 k x2 x77 x78 (wrap64 (x79 + 1)) x134000 x134001 x134002 x134003 x134004))) else (none)) else (none)))) else (none)) else (none)) else (some 0)
end
def punch_Holds.f (k : Nat) (a0_0 : Int) (a0_1 : Int) (a0_2 : Int) (a0_3 : Int) (a0_4 : Int) (a1_0 : Int) (a1_1 : Int) (l2 : List (S47)) : Option (Int) := (punch_Paper_good.f a0_0 a0_1 a0_2 a0_3 a0_4).bind fun t135 => (if t135 = true then ((punch_Slot_good.f a1_0 a1_1).bind fun t136 => (punch_Holds.j0 k l2 (!t136) a0_0 a0_1 a0_2 a0_3 a0_4 a1_0 a1_1)) else (punch_Holds.j0 k l2 true a0_0 a0_1 a0_2 a0_3 a0_4 a1_0 a1_1))
theorem punch_Holds.mono_l : ∀ k, (∀ y0 y1 y2 y3 y4 y5 y6 y7 y8, LeO (punch_Holds.j0 k y0 y1 y2 y3 y4 y5 y6 y7 y8) (punch_Holds.j0 (k + 1) y0 y1 y2 y3 y4 y5 y6 y7 y8)) ∧ (∀ y0 y1 y2 y3 y4 y5 y6 y7 y8 y9 y10, LeO (punch_Holds.l0 k y0 y1 y2 y3 y4 y5 y6 y7 y8 y9 y10) (punch_Holds.l0 (k + 1) y0 y1 y2 y3 y4 y5 y6 y7 y8 y9 y10)) ∧ (∀ y0 y1 y2 y3 y4 y5 y6, LeO (punch_Holds.j2 k y0 y1 y2 y3 y4 y5 y6) (punch_Holds.j2 (k + 1) y0 y1 y2 y3 y4 y5 y6)) ∧ (∀ y0 y1 y2 y3 y4 y5 y6 y7 y8, LeO (punch_Holds.l1 k y0 y1 y2 y3 y4 y5 y6 y7 y8) (punch_Holds.l1 (k + 1) y0 y1 y2 y3 y4 y5 y6 y7 y8)) ∧ (∀ y0 y1 y2 y3 y4 y5 y6 y7 y8, LeO (punch_Holds.l2 k y0 y1 y2 y3 y4 y5 y6 y7 y8) (punch_Holds.l2 (k + 1) y0 y1 y2 y3 y4 y5 y6 y7 y8))
 | 0 => ⟨fun _ _ _ _ _ _ _ _ _ r h => by simp [punch_Holds.j0] at h, fun _ _ _ _ _ _ _ _ _ _ _ r h => by simp [punch_Holds.l0] at h, fun _ _ _ _ _ _ _ r h => by simp [punch_Holds.j2] at h, fun _ _ _ _ _ _ _ _ _ r h => by simp [punch_Holds.l1] at h, fun _ _ _ _ _ _ _ _ _ r h => by simp [punch_Holds.l2] at h⟩
 | k + 1 => by
  obtain ⟨ih0, ih1, ih2, ih3, ih4⟩ := punch_Holds.mono_l k
  refine ⟨?_, ?_, ?_, ?_, ?_⟩
  · intro y0 y1 y2 y3 y4 y5 y6 y7 y8
    unfold punch_Holds.j0
    repeat' first
    | (with_reducible exact ih0 _ _ _ _ _ _ _ _ _)
    | (with_reducible exact ih1 _ _ _ _ _ _ _ _ _ _ _)
    | (with_reducible exact ih2 _ _ _ _ _ _ _)
    | (with_reducible exact ih3 _ _ _ _ _ _ _ _ _)
    | (with_reducible exact ih4 _ _ _ _ _ _ _ _ _)
    | (with_reducible exact LeO.refl _)
    | (with_reducible exact LeO.none _)
    | (with_reducible refine LeO.ite ?_ ?_)
    | (with_reducible refine LeO.bind ?_ (fun _ => ?_))
    | exact ih0 _ _ _ _ _ _ _ _ _
    | exact ih1 _ _ _ _ _ _ _ _ _ _ _
    | exact ih2 _ _ _ _ _ _ _
    | exact ih3 _ _ _ _ _ _ _ _ _
    | exact ih4 _ _ _ _ _ _ _ _ _
    | exact LeO.none _
    | refine LeO.ite ?_ ?_
    | refine LeO.bind ?_ (fun _ => ?_)
  · intro y0 y1 y2 y3 y4 y5 y6 y7 y8 y9 y10
    unfold punch_Holds.l0
    repeat' first
    | (with_reducible exact ih0 _ _ _ _ _ _ _ _ _)
    | (with_reducible exact ih1 _ _ _ _ _ _ _ _ _ _ _)
    | (with_reducible exact ih2 _ _ _ _ _ _ _)
    | (with_reducible exact ih3 _ _ _ _ _ _ _ _ _)
    | (with_reducible exact ih4 _ _ _ _ _ _ _ _ _)
    | (with_reducible exact LeO.refl _)
    | (with_reducible exact LeO.none _)
    | (with_reducible refine LeO.ite ?_ ?_)
    | (with_reducible refine LeO.bind ?_ (fun _ => ?_))
    | exact ih0 _ _ _ _ _ _ _ _ _
    | exact ih1 _ _ _ _ _ _ _ _ _ _ _
    | exact ih2 _ _ _ _ _ _ _
    | exact ih3 _ _ _ _ _ _ _ _ _
    | exact ih4 _ _ _ _ _ _ _ _ _
    | exact LeO.none _
    | refine LeO.ite ?_ ?_
    | refine LeO.bind ?_ (fun _ => ?_)
  · intro y0 y1 y2 y3 y4 y5 y6
    unfold punch_Holds.j2
    repeat' first
    | (with_reducible exact ih0 _ _ _ _ _ _ _ _ _)
    | (with_reducible exact ih1 _ _ _ _ _ _ _ _ _ _ _)
    | (with_reducible exact ih2 _ _ _ _ _ _ _)
    | (with_reducible exact ih3 _ _ _ _ _ _ _ _ _)
    | (with_reducible exact ih4 _ _ _ _ _ _ _ _ _)
    | (with_reducible exact LeO.refl _)
    | (with_reducible exact LeO.none _)
    | (with_reducible refine LeO.ite ?_ ?_)
    | (with_reducible refine LeO.bind ?_ (fun _ => ?_))
    | exact ih0 _ _ _ _ _ _ _ _ _
    | exact ih1 _ _ _ _ _ _ _ _ _ _ _
    | exact ih2 _ _ _ _ _ _ _
    | exact ih3 _ _ _ _ _ _ _ _ _
    | exact ih4 _ _ _ _ _ _ _ _ _
    | exact LeO.none _
    | refine LeO.ite ?_ ?_
    | refine LeO.bind ?_ (fun _ => ?_)
  · intro y0 y1 y2 y3 y4 y5 y6 y7 y8
    unfold punch_Holds.l1
    repeat' first
    | (with_reducible exact ih0 _ _ _ _ _ _ _ _ _)
    | (with_reducible exact ih1 _ _ _ _ _ _ _ _ _ _ _)
    | (with_reducible exact ih2 _ _ _ _ _ _ _)
    | (with_reducible exact ih3 _ _ _ _ _ _ _ _ _)
    | (with_reducible exact ih4 _ _ _ _ _ _ _ _ _)
    | (with_reducible exact LeO.refl _)
    | (with_reducible exact LeO.none _)
    | (with_reducible refine LeO.ite ?_ ?_)
    | (with_reducible refine LeO.bind ?_ (fun _ => ?_))
    | exact ih0 _ _ _ _ _ _ _ _ _
    | exact ih1 _ _ _ _ _ _ _ _ _ _ _
    | exact ih2 _ _ _ _ _ _ _
    | exact ih3 _ _ _ _ _ _ _ _ _
    | exact ih4 _ _ _ _ _ _ _ _ _
    | exact LeO.none _
    | refine LeO.ite ?_ ?_
    | refine LeO.bind ?_ (fun _ => ?_)
  · intro y0 y1 y2 y3 y4 y5 y6 y7 y8
    unfold punch_Holds.l2
    repeat' first
    | (with_reducible exact ih0 _ _ _ _ _ _ _ _ _)
    | (with_reducible exact ih1 _ _ _ _ _ _ _ _ _ _ _)
    | (with_reducible exact ih2 _ _ _ _ _ _ _)
    | (with_reducible exact ih3 _ _ _ _ _ _ _ _ _)
    | (with_reducible exact ih4 _ _ _ _ _ _ _ _ _)
    | (with_reducible exact LeO.refl _)
    | (with_reducible exact LeO.none _)
    | (with_reducible refine LeO.ite ?_ ?_)
    | (with_reducible refine LeO.bind ?_ (fun _ => ?_))
    | exact ih0 _ _ _ _ _ _ _ _ _
    | exact ih1 _ _ _ _ _ _ _ _ _ _ _
    | exact ih2 _ _ _ _ _ _ _
    | exact ih3 _ _ _ _ _ _ _ _ _
    | exact ih4 _ _ _ _ _ _ _ _ _
    | exact LeO.none _
    | refine LeO.ite ?_ ?_
    | refine LeO.bind ?_ (fun _ => ?_)
theorem punch_Holds.mono : ∀ a0 a1 a2 a3 a4 a5 a6 a7 k, LeO (punch_Holds.f k a0 a1 a2 a3 a4 a5 a6 a7) (punch_Holds.f (k + 1) a0 a1 a2 a3 a4 a5 a6 a7) := by
 intro a0 a1 a2 a3 a4 a5 a6 a7 k
 obtain ⟨ih0, ih1, ih2, ih3, ih4⟩ := punch_Holds.mono_l k
 unfold punch_Holds.f
 repeat' first
  | (with_reducible exact ih0 _ _ _ _ _ _ _ _ _)
  | (with_reducible exact ih1 _ _ _ _ _ _ _ _ _ _ _)
  | (with_reducible exact ih2 _ _ _ _ _ _ _)
  | (with_reducible exact ih3 _ _ _ _ _ _ _ _ _)
  | (with_reducible exact ih4 _ _ _ _ _ _ _ _ _)
  | (with_reducible exact LeO.refl _)
  | (with_reducible exact LeO.none _)
  | (with_reducible refine LeO.ite ?_ ?_)
  | (with_reducible refine LeO.bind ?_ (fun _ => ?_))
  | exact ih0 _ _ _ _ _ _ _ _ _
  | exact ih1 _ _ _ _ _ _ _ _ _ _ _
  | exact ih2 _ _ _ _ _ _ _
  | exact ih3 _ _ _ _ _ _ _ _ _
  | exact ih4 _ _ _ _ _ _ _ _ _
  | exact LeO.none _
  | refine LeO.ite ?_ ?_
  | refine LeO.bind ?_ (fun _ => ?_)
set_option maxHeartbeats 8000000 in
set_option maxRecDepth 100000 in
theorem punch_Holds.calls (k : Nat) (a0_0 : Int) (a0_1 : Int) (a0_2 : Int) (a0_3 : Int) (a0_4 : Int) (a1_0 : Int) (a1_1 : Int) (A2 : Option Addr) (c2 : Nat) (l2 : List (S47)) (r : Int) (w : World) (hr2 : Kd.C k47 w A2 l2.length l2) (hc2 : l2.length ≤ c2) (h : punch_Holds.f k a0_0 a0_1 a0_2 a0_3 a0_4 a1_0 a1_1 l2 = some r) :
 Calls Try.prog 35 #[.agg #[.int .i64 a0_0, .int .i64 a0_1, .int .i64 a0_2, .int .i64 a0_3, .int .i64 a0_4], .agg #[.int .i64 a1_0, .int .i64 a1_1], .slice A2 l2.length c2] w fun e w' => e = .returned (.int .i64 r) ∧ Below w.heap.size w w' := by
 have hu57 := Try.underlying57
 have hu47 := Try.underlying47
 have HR2 := Aside0.mk hr2
 have HC2 := Aside0.mk hc2
 clear hr2 hc2
 have HB := Aside0.mk (Below.refl w.heap.size w)
 have H : ((punch_Paper_good.f a0_0 a0_1 a0_2 a0_3 a0_4).bind fun t135 => (if t135 = true then ((punch_Slot_good.f a1_0 a1_1).bind fun t136 => (punch_Holds.j0 k l2 (!t136) a0_0 a0_1 a0_2 a0_3 a0_4 a1_0 a1_1)) else (punch_Holds.j0 k l2 true a0_0 a0_1 a0_2 a0_3 a0_4 a1_0 a1_1))) = some r := h
 clear h
 have HC4 := Aside0.mk H
 clear H
 go_enter Try.func35, Try.ntmps35
 go_upto_region 1 with (first | ((with_reducible refine gate_dst (N := 3) rfl ?_); (try (refine gate_guard (by rfl) ?_; dsimp only)); refine box_event ?hg (N := 3) ?hd (cs := #[.int .i64 a0_0, .int .i64 a0_1, .int .i64 a0_2, .int .i64 a0_3, .int .i64 a0_4]) (t := 57) ?hr ?_; (case hd => rfl); (case hg => rfl); (case hr => first | (go_simp; done) | (go_simp; rfl)); intro gb133 hg w5 hbox hb; have BK133 := Aside0.mk (hbox); have GW133 := bgw_ HB hg; have GE133 := bgw_ HB hg; replace HB := bls_ HB hb; clear hb hbox hg) | ((with_reducible refine gate_dst (N := 4) rfl ?_); (try (refine gate_guard (by rfl) ?_; dsimp only)); refine box_event ?hg (N := 4) ?hd (cs := #[.int .i64 a1_0, .int .i64 a1_1]) (t := 47) ?hr ?_; (case hd => rfl); (case hg => rfl); (case hr => first | (go_simp; done) | (go_simp; rfl)); intro gb134 hg w6 hbox hb; have BK134 := Aside0.mk (hbox); have GW134 := bgw_ HB hg; have GE134 := bgw_ HB hg; have NB133_134 := bnl_ BK133 hg; have NB134_133 := bng_ BK133 hg; replace BK133 := bkb_ BK133 hb; replace HB := bls_ HB hb; clear hb hbox hg))
 repeat (go_quiet (first | ((with_reducible refine gate_dst (N := 3) rfl ?_); (try (refine gate_guard (by rfl) ?_; dsimp only)); refine box_event ?hg (N := 3) ?hd (cs := #[.int .i64 a0_0, .int .i64 a0_1, .int .i64 a0_2, .int .i64 a0_3, .int .i64 a0_4]) (t := 57) ?hr ?_; (case hd => rfl); (case hg => rfl); (case hr => first | (go_simp; done) | (go_simp; rfl)); intro gb133 hg w5 hbox hb; have BK133 := Aside0.mk (hbox); have GW133 := bgw_ HB hg; have GE133 := bgw_ HB hg; replace HB := bls_ HB hb; clear hb hbox hg) | ((with_reducible refine gate_dst (N := 4) rfl ?_); (try (refine gate_guard (by rfl) ?_; dsimp only)); refine box_event ?hg (N := 4) ?hd (cs := #[.int .i64 a1_0, .int .i64 a1_1]) (t := 47) ?hr ?_; (case hd => rfl); (case hg => rfl); (case hr => first | (go_simp; done) | (go_simp; rfl)); intro gb134 hg w6 hbox hb; have BK134 := Aside0.mk (hbox); have GW134 := bgw_ HB hg; have GE134 := bgw_ HB hg; have NB133_134 := bnl_ BK133 hg; have NB134_133 := bng_ BK133 hg; replace BK133 := bkb_ BK133 hb; replace HB := bls_ HB hb; clear hb hbox hg)); go_upto_region 1 with (first | ((with_reducible refine gate_dst (N := 3) rfl ?_); (try (refine gate_guard (by rfl) ?_; dsimp only)); refine box_event ?hg (N := 3) ?hd (cs := #[.int .i64 a0_0, .int .i64 a0_1, .int .i64 a0_2, .int .i64 a0_3, .int .i64 a0_4]) (t := 57) ?hr ?_; (case hd => rfl); (case hg => rfl); (case hr => first | (go_simp; done) | (go_simp; rfl)); intro gb133 hg w5 hbox hb; have BK133 := Aside0.mk (hbox); have GW133 := bgw_ HB hg; have GE133 := bgw_ HB hg; replace HB := bls_ HB hb; clear hb hbox hg) | ((with_reducible refine gate_dst (N := 4) rfl ?_); (try (refine gate_guard (by rfl) ?_; dsimp only)); refine box_event ?hg (N := 4) ?hd (cs := #[.int .i64 a1_0, .int .i64 a1_1]) (t := 47) ?hr ?_; (case hd => rfl); (case hg => rfl); (case hr => first | (go_simp; done) | (go_simp; rfl)); intro gb134 hg w6 hbox hb; have BK134 := Aside0.mk (hbox); have GW134 := bgw_ HB hg; have GE134 := bgw_ HB hg; have NB133_134 := bnl_ BK133 hg; have NB134_133 := bng_ BK133 hg; replace BK133 := bkb_ BK133 hb; replace HB := bls_ HB hb; clear hb hbox hg)))
 (try simp only [Act.put, List.setIfInBounds_toArray, List.set_cons_zero, List.set_cons_succ])
 go_cut [14] (fun v14 wc => ∃ (kq : Nat) (x14_3 : Bool), v14 = .bool x14_3 ∧ Aside0 (punch_Holds.j0 kq l2 x14_3 a0_0 a0_1 a0_2 a0_3 a0_4 a1_0 a1_1 = some r) ∧ Aside0 (kq ≤ k) ∧ Aside0 (wc.heap[gb133]? = some (.cells #[.int .i64 a0_0, .int .i64 a0_1, .int .i64 a0_2, .int .i64 a0_3, .int .i64 a0_4] 57 (0, 0))) ∧ Aside0 (wc.heap[gb134]? = some (.cells #[.int .i64 a1_0, .int .i64 a1_1] 47 (0, 0))) ∧ Aside0 (Below w.heap.size w wc))
 case first =>
  have H := HC4.out
  clear HC4
  replace H := Option.bind_eq_some_iff.mp H
  obtain ⟨t135, A70, H⟩ := H
  replace H : (if t135 = true then ((punch_Slot_good.f a1_0 a1_1).bind fun t136 => (punch_Holds.j0 k l2 (!t136) a0_0 a0_1 a0_2 a0_3 a0_4 a1_0 a1_1)) else (punch_Holds.j0 k l2 true a0_0 a0_1 a0_2 a0_3 a0_4 a1_0 a1_1)) = some r := H
  have A7 := Aside0.mk A70
  clear A70
  by_cases c8 : t135 = true
  · subst c8
    have H1 : ((punch_Slot_good.f a1_0 a1_1).bind fun t136 => (punch_Holds.j0 k l2 (!t136) a0_0 a0_1 a0_2 a0_3 a0_4 a1_0 a1_1)) = some r := by rw [if_pos rfl] at H; exact H
    clear H
    have H := H1
    clear H1
    replace H := Option.bind_eq_some_iff.mp H
    obtain ⟨t136, A90, H⟩ := H
    replace H : (punch_Holds.j0 k l2 (!t136) a0_0 a0_1 a0_2 a0_3 a0_4 a1_0 a1_1) = some r := H
    have A9 := Aside0.mk A90
    clear A90
    have H' := Aside0.mk H
    clear H
    have hnb10 := NB133_134.out
    have hnc10 := NB134_133.out
    have hcz11_0 := bkc_ BK133 0 (.int .i64 a0_0) rfl
    have hcz11_1 := bkc_ BK133 1 (.int .i64 a0_1) rfl
    have hcz11_2 := bkc_ BK133 2 (.int .i64 a0_2) rfl
    have hcz11_3 := bkc_ BK133 3 (.int .i64 a0_3) rfl
    have hcz11_4 := bkc_ BK133 4 (.int .i64 a0_4) rfl
    have hfz11_0 := blk_frozen BK133.out 0
    have hfz11_1 := blk_frozen BK133.out 1
    have hfz11_2 := blk_frozen BK133.out 2
    have hfz11_3 := blk_frozen BK133.out 3
    have hfz11_4 := blk_frozen BK133.out 4
    go_wp2_with (first | (go_at_call 70; (with_reducible refine (punch_Paper_good.calls a0_0 a0_1 a0_2 a0_3 a0_4 true _ A7.out).mono ?_); rintro e w12 ⟨rfl, hb⟩; replace BK133 := bkb_ BK133 hb; replace BK134 := bkb_ BK134 hb; replace HB := bls_ HB hb; (try clear hb); (try clear hb2); (try clear hk); (try clear hi); have hcz13_0 := bkc_ BK134 0 (.int .i64 a1_0) rfl; have hcz13_1 := bkc_ BK134 1 (.int .i64 a1_1) rfl; have hfz13_0 := blk_frozen BK134.out 0; have hfz13_1 := blk_frozen BK134.out 1) | (go_at_call 54; (with_reducible refine (punch_Slot_good.calls a1_0 a1_1 t136 _ A9.out).mono ?_); rintro e w14 ⟨rfl, hb⟩; replace BK133 := bkb_ BK133 hb; replace BK134 := bkb_ BK134 hb; replace HB := bls_ HB hb; (try clear hb); (try clear hb2); (try clear hk); (try clear hi)))
    repeat (go_quiet (first | (go_at_call 70; (with_reducible refine (punch_Paper_good.calls a0_0 a0_1 a0_2 a0_3 a0_4 true _ A7.out).mono ?_); rintro e w12 ⟨rfl, hb⟩; replace BK133 := bkb_ BK133 hb; replace BK134 := bkb_ BK134 hb; replace HB := bls_ HB hb; (try clear hb); (try clear hb2); (try clear hk); (try clear hi); have hcz13_0 := bkc_ BK134 0 (.int .i64 a1_0) rfl; have hcz13_1 := bkc_ BK134 1 (.int .i64 a1_1) rfl; have hfz13_0 := blk_frozen BK134.out 0; have hfz13_1 := blk_frozen BK134.out 1) | (go_at_call 54; (with_reducible refine (punch_Slot_good.calls a1_0 a1_1 t136 _ A9.out).mono ?_); rintro e w14 ⟨rfl, hb⟩; replace BK133 := bkb_ BK133 hb; replace BK134 := bkb_ BK134 hb; replace HB := bls_ HB hb; (try clear hb); (try clear hb2); (try clear hk); (try clear hi))); try go_wp2_with (first | (go_at_call 70; (with_reducible refine (punch_Paper_good.calls a0_0 a0_1 a0_2 a0_3 a0_4 true _ A7.out).mono ?_); rintro e w12 ⟨rfl, hb⟩; replace BK133 := bkb_ BK133 hb; replace BK134 := bkb_ BK134 hb; replace HB := bls_ HB hb; (try clear hb); (try clear hb2); (try clear hk); (try clear hi); have hcz13_0 := bkc_ BK134 0 (.int .i64 a1_0) rfl; have hcz13_1 := bkc_ BK134 1 (.int .i64 a1_1) rfl; have hfz13_0 := blk_frozen BK134.out 0; have hfz13_1 := blk_frozen BK134.out 1) | (go_at_call 54; (with_reducible refine (punch_Slot_good.calls a1_0 a1_1 t136 _ A9.out).mono ?_); rintro e w14 ⟨rfl, hb⟩; replace BK133 := bkb_ BK133 hb; replace BK134 := bkb_ BK134 hb; replace HB := bls_ HB hb; (try clear hb); (try clear hb2); (try clear hk); (try clear hi))))
    go_meet
    case rel => exact ⟨_, (!t136), (by first | rfl | (simp; done) | (simp [*]; done)), H', ⟨by first | omega | exact Nat.le_refl _⟩, bkx_ BK133, bkx_ BK134, blx_ HB⟩
  · replace c8 := Bool.eq_false_iff.mpr c8
    subst c8
    have H1 : (punch_Holds.j0 k l2 true a0_0 a0_1 a0_2 a0_3 a0_4 a1_0 a1_1) = some r := by rw [if_neg (show ¬ (false = true) by decide)] at H; exact H
    clear H
    have H := H1
    clear H1
    have H' := Aside0.mk H
    clear H
    have hnb15 := NB133_134.out
    have hnc15 := NB134_133.out
    have hcz16_0 := bkc_ BK133 0 (.int .i64 a0_0) rfl
    have hcz16_1 := bkc_ BK133 1 (.int .i64 a0_1) rfl
    have hcz16_2 := bkc_ BK133 2 (.int .i64 a0_2) rfl
    have hcz16_3 := bkc_ BK133 3 (.int .i64 a0_3) rfl
    have hcz16_4 := bkc_ BK133 4 (.int .i64 a0_4) rfl
    have hfz16_0 := blk_frozen BK133.out 0
    have hfz16_1 := blk_frozen BK133.out 1
    have hfz16_2 := blk_frozen BK133.out 2
    have hfz16_3 := blk_frozen BK133.out 3
    have hfz16_4 := blk_frozen BK133.out 4
    go_wp2_with (first | (go_at_call 70; (with_reducible refine (punch_Paper_good.calls a0_0 a0_1 a0_2 a0_3 a0_4 false _ A7.out).mono ?_); rintro e w17 ⟨rfl, hb⟩; replace BK133 := bkb_ BK133 hb; replace BK134 := bkb_ BK134 hb; replace HB := bls_ HB hb; (try clear hb); (try clear hb2); (try clear hk); (try clear hi)))
    repeat (go_quiet (first | (go_at_call 70; (with_reducible refine (punch_Paper_good.calls a0_0 a0_1 a0_2 a0_3 a0_4 false _ A7.out).mono ?_); rintro e w17 ⟨rfl, hb⟩; replace BK133 := bkb_ BK133 hb; replace BK134 := bkb_ BK134 hb; replace HB := bls_ HB hb; (try clear hb); (try clear hb2); (try clear hk); (try clear hi))); try go_wp2_with (first | (go_at_call 70; (with_reducible refine (punch_Paper_good.calls a0_0 a0_1 a0_2 a0_3 a0_4 false _ A7.out).mono ?_); rintro e w17 ⟨rfl, hb⟩; replace BK133 := bkb_ BK133 hb; replace BK134 := bkb_ BK134 hb; replace HB := bls_ HB hb; (try clear hb); (try clear hb2); (try clear hk); (try clear hi))))
    go_meet
    case rel => exact ⟨_, (true), (by first | rfl | (simp; done) | (simp [*]; done)), H', ⟨by first | omega | exact Nat.le_refl _⟩, bkx_ BK133, bkx_ BK134, blx_ HB⟩
 case rest =>
  clear HC4
  try clear c1
  try clear c2
  try clear p2
  try clear c3
  try clear c8
  try clear c10
  try clear c15
  try clear hcz11_0
  try clear hcz11_1
  try clear hcz11_2
  try clear hcz11_3
  try clear hcz11_4
  try clear hcz13_0
  try clear hcz13_1
  try clear hcz16_0
  try clear hcz16_1
  try clear hcz16_2
  try clear hcz16_3
  try clear hcz16_4
  try clear hfz11_0
  try clear hfz11_1
  try clear hfz11_2
  try clear hfz11_3
  try clear hfz11_4
  try clear hfz13_0
  try clear hfz13_1
  try clear hfz16_0
  try clear hfz16_1
  try clear hfz16_2
  try clear hfz16_3
  try clear hfz16_4
  obtain ⟨kq, x14_3, rfl, HA, HJ3, BK133, BK134, HB⟩ := hcut
  cases kq with
  | zero => exact absurd HA.out (by simp [punch_Holds.j0])
  | succ kj3 =>
   have H := HA.out
   clear HA
   simp only [punch_Holds.j0] at H
   by_cases c18 : x14_3 = true
   · subst c18
     have H1 : (some 3) = some r := by rw [if_pos rfl] at H; exact H
     clear H
     have H := H1
     clear H1
     obtain rfl := Option.some.inj H
     go_wp2
     repeat (go_quiet (fail); try go_wp2)
     go_ret
     exact ⟨by first | rfl | (simp [errW_none, errW_some] <;> rfl) | (simp [*, errW_none, errW_some] <;> rfl), by repeat (first | (with_reducible first | exact HB.out | apply below_alloc | apply pw_below_drewN | apply below_drew1 | refine below_set ?_ GE133.out | refine below_set ?_ GE134.out) | exact HB.out)⟩
   · replace c18 := Bool.eq_false_iff.mpr c18
     subst c18
     have H1 : (if (l2.length : Int) > 200 then (some 5) else (if (l2.length : Int) = 0 then (some 6) else (punch_Holds.l0 kj3 l2 l2 (l2.length : Int) 0 a0_0 a0_1 a0_2 a0_3 a0_4 a1_0 a1_1))) = some r := by rw [if_neg (show ¬ (false = true) by decide)] at H; exact H
     clear H
     have H := H1
     clear H1
     by_cases c19 : (l2.length : Int) > 200
     · rw [if_pos c19] at H
       have c19b0 : decide (200 < (l2.length : Int)) = true := decide_eq_true c19
       have c19b1 : decide (200 < l2.length) = true := decide_eq_true (by omega)
       clear c19
       obtain rfl := Option.some.inj H
       go_wp2
       repeat (go_quiet (fail); try go_wp2)
       go_ret
       exact ⟨by first | rfl | (simp [errW_none, errW_some] <;> rfl) | (simp [*, errW_none, errW_some] <;> rfl), by repeat (first | (with_reducible first | exact HB.out | apply below_alloc | apply pw_below_drewN | apply below_drew1 | refine below_set ?_ GE133.out | refine below_set ?_ GE134.out) | exact HB.out)⟩
     · rw [if_neg c19] at H
       have c19b0 : decide (200 < (l2.length : Int)) = false := decide_eq_false c19
       have c19b1 : decide (200 < l2.length) = false := decide_eq_false (by omega)
       clear c19
       by_cases c20 : (l2.length : Int) = 0
       · rw [if_pos c20] at H
         have c20b0 : ((l2.length : Int) == 0) = true := beq_iff_eq.mpr c20
         have c20b1 : ((l2.length : Int) != 0) = false := bne_eq_false_iff_eq.mpr c20
         clear c20
         obtain rfl := Option.some.inj H
         go_wp2
         repeat (go_quiet (fail); try go_wp2)
         go_ret
         exact ⟨by first | rfl | (simp [errW_none, errW_some] <;> rfl) | (simp [*, errW_none, errW_some] <;> rfl), by repeat (first | (with_reducible first | exact HB.out | apply below_alloc | apply pw_below_drewN | apply below_drew1 | refine below_set ?_ GE133.out | refine below_set ?_ GE134.out) | exact HB.out)⟩
       · rw [if_neg c20] at H
         have c20b0 : ((l2.length : Int) == 0) = false := beq_eq_false_iff_ne.mpr c20
         have c20b1 : ((l2.length : Int) != 0) = true := bne_iff_ne.mpr c20
         have c20b2 : ¬ (l2 = []) := fun h_ => c20 (by rw [h_]; rfl)
         have H' := Aside0.mk H
         clear H
         go_wp2
         repeat (go_quiet (fail); try go_wp2)
         go_loopg [33] kj3 (fun kq v33 w' => ∃ (x33_2 : Int), v33 = .int .i64 x33_2 ∧ Aside0 (punch_Holds.l0 kq l2 l2 (l2.length : Int) x33_2 a0_0 a0_1 a0_2 a0_3 a0_4 a1_0 a1_1 = some r) ∧ Aside0 (kq ≤ kj3) ∧ Aside0 (w'.heap[gb133]? = some (.cells #[.int .i64 a0_0, .int .i64 a0_1, .int .i64 a0_2, .int .i64 a0_3, .int .i64 a0_4] 57 (0, 0))) ∧ Aside0 (w'.heap[gb134]? = some (.cells #[.int .i64 a1_0, .int .i64 a1_1] 47 (0, 0))) ∧ Aside0 (Below w.heap.size w w'))
         case atStart => exact ⟨(0), (by first | rfl | (simp; done) | (simp [*]; done)), H', ⟨Nat.le_refl _⟩, bkx_ BK133, bkx_ BK134, blx_ HB⟩
         case round =>
          clear H'
          try clear c1
          try clear c2
          try clear p2
          try clear c3
          try clear c8
          try clear c10
          try clear c15
          try clear c18
          try clear c19
          try clear c19b0
          try clear c19b1
          try clear c20
          try clear c20b0
          try clear c20b1
          try clear c20b2
          try clear hcz11_0
          try clear hcz11_1
          try clear hcz11_2
          try clear hcz11_3
          try clear hcz11_4
          try clear hcz13_0
          try clear hcz13_1
          try clear hcz16_0
          try clear hcz16_1
          try clear hcz16_2
          try clear hcz16_3
          try clear hcz16_4
          try clear hfz11_0
          try clear hfz11_1
          try clear hfz11_2
          try clear hfz11_3
          try clear hfz11_4
          try clear hfz13_0
          try clear hfz13_1
          try clear hfz16_0
          try clear hfz16_1
          try clear hfz16_2
          try clear hfz16_3
          try clear hfz16_4
          try clear p2
          obtain ⟨x33_2, rfl, HA, HK2, BK133, BK134, HB⟩ := hrel
          cases gk with
          | zero => exact absurd HA.out (by simp [punch_Holds.l0])
          | succ k2 =>
           have H := HA.out
           clear HA
           simp only [punch_Holds.l0] at H
           by_cases c21 : x33_2 < (l2.length : Int)
           · rw [if_pos c21] at H
             have c21b0 : decide (x33_2 < (l2.length : Int)) = true := decide_eq_true c21
             clear c21
             by_cases c22 : 0 ≤ x33_2
             · rw [if_pos c22] at H
               have c22b0 : decide (0 ≤ x33_2) = true := decide_eq_true c22
               clear c22
               by_cases c23 : x33_2 < (l2.length : Int)
               · rw [if_pos c23] at H
                 have c23b0 : decide (x33_2 < (l2.length : Int)) = true := decide_eq_true c23
                 clear c23
                 replace H := Option.bind_eq_some_iff.mp H
                 obtain ⟨t139, A240, H⟩ := H
                 replace H : (if t139 = true then (punch_Holds.l0 k2 l2 l2 (l2.length : Int) (wrap64 (x33_2 + 1)) a0_0 a0_1 a0_2 a0_3 a0_4 a1_0 a1_1) else (some 6)) = some r := H
                 have A24 := Aside0.mk A240
                 clear A240
                 by_cases c25 : t139 = true
                 · subst c25
                   have H1 : (punch_Holds.l0 k2 l2 l2 (l2.length : Int) (wrap64 (x33_2 + 1)) a0_0 a0_1 a0_2 a0_3 a0_4 a1_0 a1_1) = some r := by rw [if_pos rfl] at H; exact H
                   clear H
                   have H := H1
                   clear H1
                   have H' := Aside0.mk H
                   clear H
                   have p137 : 0 ≤ (x33_2 : Int) := of_decide_eq_true (by first | (with_reducible assumption) | assumption)
                   have q137 : x33_2 < (l2.length : Int) := of_decide_eq_true (by first | (with_reducible assumption) | assumption)
                   obtain ⟨ad137, e137, hx137_0, hx137_1⟩ := at_T47 HR2.out x33_2 p137 q137
                   cases e137
                   replace hx137_0 := (HB.out.cell (World.block_lt_of_cell? w _ hx137_0)).trans hx137_0
                   replace hx137_1 := (HB.out.cell (World.block_lt_of_cell? w _ hx137_1)).trans hx137_1
                   replace p137 := eq_true p137
                   replace q137 := eq_true q137
                   go_wp2_with (first | ((with_reducible refine gate_dst (N := 8) rfl ?_); (try (refine gate_guard (by rfl) ?_; dsimp only)); refine box_event ?hg (N := 8) ?hd (cs := #[.int .i64 0, .int .i64 0]) (t := 47) ?hr ?_; (case hd => rfl); (case hg => rfl); (case hr => first | (go_simp; done) | (go_simp; rfl)); intro gb138 hg w26 hbox hb; have BK138 := Aside0.mk (hbox); have GW138 := bgw_ HB hg; have GE138 := bgw_ HB hg; have NB133_138 := bnl_ BK133 hg; have NB138_133 := bng_ BK133 hg; have NB134_138 := bnl_ BK134 hg; have NB138_134 := bng_ BK134 hg; replace BK133 := bkb_ BK133 hb; replace BK134 := bkb_ BK134 hb; replace HB := bls_ HB hb; clear hb hbox hg; have hnb27 := NB138_133.out; have hnc27 := NB133_138.out; have hnb28 := NB138_134.out; have hnc28 := NB134_138.out; have hcz29_0 := bkc_ BK138 0 (.int .i64 0) rfl; have hcz29_1 := bkc_ BK138 1 (.int .i64 0) rfl; have hfz29_0 := blk_frozen BK138.out 0; have hfz29_1 := blk_frozen BK138.out 1) | (go_at_call 54; (with_reducible refine (punch_Slot_good.calls ((rd_T47 l2 x33_2).f0) ((rd_T47 l2 x33_2).f1) true _ A24.out).mono ?_); rintro e w30 ⟨rfl, hb⟩; have n0_ := bkb_ BK133 hb; have n1_ := bkb_ BK134 hb; have n2_ := Aside0.mk (blk_below (g := gb138) (o := .cells #[.int .i64 ((rd_T47 l2 x33_2).f0), .int .i64 ((rd_T47 l2 x33_2).f1)] 47 (0, 0)) (by (with_reducible repeat (first | refine blk_drewN ?_ _ | refine blk_drew ?_ | refine blk_alloc ?_ _)); refine blk_put (cs := #[.int .i64 ((rd_T47 l2 x33_2).f0), .int .i64 0]) ?_ 1 _ rfl; (with_reducible repeat (first | refine blk_drewN ?_ _ | refine blk_drew ?_ | refine blk_alloc ?_ _)); refine blk_put (cs := #[.int .i64 0, .int .i64 0]) ?_ 0 _ rfl; (with_reducible repeat (first | refine blk_drewN ?_ _ | refine blk_drew ?_ | refine blk_alloc ?_ _)); exact BK138.out) hb); have n3_ := bls_ HB hb; clear BK133; clear BK134; clear BK138; clear HB; have BK133 := n0_; have BK134 := n1_; have BK138 := n2_; have HB := n3_; clear n0_ n1_ n2_ n3_; (try clear hb); (try clear hb2); (try clear hk); (try clear hi)))
                   repeat (go_quiet (first | ((with_reducible refine gate_dst (N := 8) rfl ?_); (try (refine gate_guard (by rfl) ?_; dsimp only)); refine box_event ?hg (N := 8) ?hd (cs := #[.int .i64 0, .int .i64 0]) (t := 47) ?hr ?_; (case hd => rfl); (case hg => rfl); (case hr => first | (go_simp; done) | (go_simp; rfl)); intro gb138 hg w26 hbox hb; have BK138 := Aside0.mk (hbox); have GW138 := bgw_ HB hg; have GE138 := bgw_ HB hg; have NB133_138 := bnl_ BK133 hg; have NB138_133 := bng_ BK133 hg; have NB134_138 := bnl_ BK134 hg; have NB138_134 := bng_ BK134 hg; replace BK133 := bkb_ BK133 hb; replace BK134 := bkb_ BK134 hb; replace HB := bls_ HB hb; clear hb hbox hg; have hnb27 := NB138_133.out; have hnc27 := NB133_138.out; have hnb28 := NB138_134.out; have hnc28 := NB134_138.out; have hcz29_0 := bkc_ BK138 0 (.int .i64 0) rfl; have hcz29_1 := bkc_ BK138 1 (.int .i64 0) rfl; have hfz29_0 := blk_frozen BK138.out 0; have hfz29_1 := blk_frozen BK138.out 1) | (go_at_call 54; (with_reducible refine (punch_Slot_good.calls ((rd_T47 l2 x33_2).f0) ((rd_T47 l2 x33_2).f1) true _ A24.out).mono ?_); rintro e w30 ⟨rfl, hb⟩; have n0_ := bkb_ BK133 hb; have n1_ := bkb_ BK134 hb; have n2_ := Aside0.mk (blk_below (g := gb138) (o := .cells #[.int .i64 ((rd_T47 l2 x33_2).f0), .int .i64 ((rd_T47 l2 x33_2).f1)] 47 (0, 0)) (by (with_reducible repeat (first | refine blk_drewN ?_ _ | refine blk_drew ?_ | refine blk_alloc ?_ _)); refine blk_put (cs := #[.int .i64 ((rd_T47 l2 x33_2).f0), .int .i64 0]) ?_ 1 _ rfl; (with_reducible repeat (first | refine blk_drewN ?_ _ | refine blk_drew ?_ | refine blk_alloc ?_ _)); refine blk_put (cs := #[.int .i64 0, .int .i64 0]) ?_ 0 _ rfl; (with_reducible repeat (first | refine blk_drewN ?_ _ | refine blk_drew ?_ | refine blk_alloc ?_ _)); exact BK138.out) hb); have n3_ := bls_ HB hb; clear BK133; clear BK134; clear BK138; clear HB; have BK133 := n0_; have BK134 := n1_; have BK138 := n2_; have HB := n3_; clear n0_ n1_ n2_ n3_; (try clear hb); (try clear hb2); (try clear hk); (try clear hi))); try go_wp2_with (first | ((with_reducible refine gate_dst (N := 8) rfl ?_); (try (refine gate_guard (by rfl) ?_; dsimp only)); refine box_event ?hg (N := 8) ?hd (cs := #[.int .i64 0, .int .i64 0]) (t := 47) ?hr ?_; (case hd => rfl); (case hg => rfl); (case hr => first | (go_simp; done) | (go_simp; rfl)); intro gb138 hg w26 hbox hb; have BK138 := Aside0.mk (hbox); have GW138 := bgw_ HB hg; have GE138 := bgw_ HB hg; have NB133_138 := bnl_ BK133 hg; have NB138_133 := bng_ BK133 hg; have NB134_138 := bnl_ BK134 hg; have NB138_134 := bng_ BK134 hg; replace BK133 := bkb_ BK133 hb; replace BK134 := bkb_ BK134 hb; replace HB := bls_ HB hb; clear hb hbox hg; have hnb27 := NB138_133.out; have hnc27 := NB133_138.out; have hnb28 := NB138_134.out; have hnc28 := NB134_138.out; have hcz29_0 := bkc_ BK138 0 (.int .i64 0) rfl; have hcz29_1 := bkc_ BK138 1 (.int .i64 0) rfl; have hfz29_0 := blk_frozen BK138.out 0; have hfz29_1 := blk_frozen BK138.out 1) | (go_at_call 54; (with_reducible refine (punch_Slot_good.calls ((rd_T47 l2 x33_2).f0) ((rd_T47 l2 x33_2).f1) true _ A24.out).mono ?_); rintro e w30 ⟨rfl, hb⟩; have n0_ := bkb_ BK133 hb; have n1_ := bkb_ BK134 hb; have n2_ := Aside0.mk (blk_below (g := gb138) (o := .cells #[.int .i64 ((rd_T47 l2 x33_2).f0), .int .i64 ((rd_T47 l2 x33_2).f1)] 47 (0, 0)) (by (with_reducible repeat (first | refine blk_drewN ?_ _ | refine blk_drew ?_ | refine blk_alloc ?_ _)); refine blk_put (cs := #[.int .i64 ((rd_T47 l2 x33_2).f0), .int .i64 0]) ?_ 1 _ rfl; (with_reducible repeat (first | refine blk_drewN ?_ _ | refine blk_drew ?_ | refine blk_alloc ?_ _)); refine blk_put (cs := #[.int .i64 0, .int .i64 0]) ?_ 0 _ rfl; (with_reducible repeat (first | refine blk_drewN ?_ _ | refine blk_drew ?_ | refine blk_alloc ?_ _)); exact BK138.out) hb); have n3_ := bls_ HB hb; clear BK133; clear BK134; clear BK138; clear HB; have BK133 := n0_; have BK134 := n1_; have BK138 := n2_; have HB := n3_; clear n0_ n1_ n2_ n3_; (try clear hb); (try clear hb2); (try clear hk); (try clear hi))))
                   go_roundg k2
                   case measure => have := HJ3.out; have := HK2.out; omega
                   case rel => exact ⟨(wrap64 (x33_2 + 1)), (by first | rfl | (simp; done) | (simp [*]; done)), H', ⟨by have := HJ3.out; have := HK2.out; omega⟩, bkx_ BK133, bkx_ BK134, blx_ HB⟩
                 · replace c25 := Bool.eq_false_iff.mpr c25
                   subst c25
                   have H1 : (some 6) = some r := by rw [if_neg (show ¬ (false = true) by decide)] at H; exact H
                   clear H
                   have H := H1
                   clear H1
                   obtain rfl := Option.some.inj H
                   have p137 : 0 ≤ (x33_2 : Int) := of_decide_eq_true (by first | (with_reducible assumption) | assumption)
                   have q137 : x33_2 < (l2.length : Int) := of_decide_eq_true (by first | (with_reducible assumption) | assumption)
                   obtain ⟨ad137, e137, hx137_0, hx137_1⟩ := at_T47 HR2.out x33_2 p137 q137
                   cases e137
                   replace hx137_0 := (HB.out.cell (World.block_lt_of_cell? w _ hx137_0)).trans hx137_0
                   replace hx137_1 := (HB.out.cell (World.block_lt_of_cell? w _ hx137_1)).trans hx137_1
                   replace p137 := eq_true p137
                   replace q137 := eq_true q137
                   go_wp2_with (first | ((with_reducible refine gate_dst (N := 8) rfl ?_); (try (refine gate_guard (by rfl) ?_; dsimp only)); refine box_event ?hg (N := 8) ?hd (cs := #[.int .i64 0, .int .i64 0]) (t := 47) ?hr ?_; (case hd => rfl); (case hg => rfl); (case hr => first | (go_simp; done) | (go_simp; rfl)); intro gb138 hg w31 hbox hb; have BK138 := Aside0.mk (hbox); have GW138 := bgw_ HB hg; have GE138 := bgw_ HB hg; have NB133_138 := bnl_ BK133 hg; have NB138_133 := bng_ BK133 hg; have NB134_138 := bnl_ BK134 hg; have NB138_134 := bng_ BK134 hg; replace BK133 := bkb_ BK133 hb; replace BK134 := bkb_ BK134 hb; replace HB := bls_ HB hb; clear hb hbox hg; have hnb32 := NB138_133.out; have hnc32 := NB133_138.out; have hnb33 := NB138_134.out; have hnc33 := NB134_138.out; have hcz34_0 := bkc_ BK138 0 (.int .i64 0) rfl; have hcz34_1 := bkc_ BK138 1 (.int .i64 0) rfl; have hfz34_0 := blk_frozen BK138.out 0; have hfz34_1 := blk_frozen BK138.out 1) | (go_at_call 54; (with_reducible refine (punch_Slot_good.calls ((rd_T47 l2 x33_2).f0) ((rd_T47 l2 x33_2).f1) false _ A24.out).mono ?_); rintro e w35 ⟨rfl, hb⟩; have n0_ := bkb_ BK133 hb; have n1_ := bkb_ BK134 hb; have n2_ := Aside0.mk (blk_below (g := gb138) (o := .cells #[.int .i64 ((rd_T47 l2 x33_2).f0), .int .i64 ((rd_T47 l2 x33_2).f1)] 47 (0, 0)) (by (with_reducible repeat (first | refine blk_drewN ?_ _ | refine blk_drew ?_ | refine blk_alloc ?_ _)); refine blk_put (cs := #[.int .i64 ((rd_T47 l2 x33_2).f0), .int .i64 0]) ?_ 1 _ rfl; (with_reducible repeat (first | refine blk_drewN ?_ _ | refine blk_drew ?_ | refine blk_alloc ?_ _)); refine blk_put (cs := #[.int .i64 0, .int .i64 0]) ?_ 0 _ rfl; (with_reducible repeat (first | refine blk_drewN ?_ _ | refine blk_drew ?_ | refine blk_alloc ?_ _)); exact BK138.out) hb); have n3_ := bls_ HB hb; clear BK133; clear BK134; clear BK138; clear HB; have BK133 := n0_; have BK134 := n1_; have BK138 := n2_; have HB := n3_; clear n0_ n1_ n2_ n3_; (try clear hb); (try clear hb2); (try clear hk); (try clear hi)))
                   repeat (go_quiet (first | ((with_reducible refine gate_dst (N := 8) rfl ?_); (try (refine gate_guard (by rfl) ?_; dsimp only)); refine box_event ?hg (N := 8) ?hd (cs := #[.int .i64 0, .int .i64 0]) (t := 47) ?hr ?_; (case hd => rfl); (case hg => rfl); (case hr => first | (go_simp; done) | (go_simp; rfl)); intro gb138 hg w31 hbox hb; have BK138 := Aside0.mk (hbox); have GW138 := bgw_ HB hg; have GE138 := bgw_ HB hg; have NB133_138 := bnl_ BK133 hg; have NB138_133 := bng_ BK133 hg; have NB134_138 := bnl_ BK134 hg; have NB138_134 := bng_ BK134 hg; replace BK133 := bkb_ BK133 hb; replace BK134 := bkb_ BK134 hb; replace HB := bls_ HB hb; clear hb hbox hg; have hnb32 := NB138_133.out; have hnc32 := NB133_138.out; have hnb33 := NB138_134.out; have hnc33 := NB134_138.out; have hcz34_0 := bkc_ BK138 0 (.int .i64 0) rfl; have hcz34_1 := bkc_ BK138 1 (.int .i64 0) rfl; have hfz34_0 := blk_frozen BK138.out 0; have hfz34_1 := blk_frozen BK138.out 1) | (go_at_call 54; (with_reducible refine (punch_Slot_good.calls ((rd_T47 l2 x33_2).f0) ((rd_T47 l2 x33_2).f1) false _ A24.out).mono ?_); rintro e w35 ⟨rfl, hb⟩; have n0_ := bkb_ BK133 hb; have n1_ := bkb_ BK134 hb; have n2_ := Aside0.mk (blk_below (g := gb138) (o := .cells #[.int .i64 ((rd_T47 l2 x33_2).f0), .int .i64 ((rd_T47 l2 x33_2).f1)] 47 (0, 0)) (by (with_reducible repeat (first | refine blk_drewN ?_ _ | refine blk_drew ?_ | refine blk_alloc ?_ _)); refine blk_put (cs := #[.int .i64 ((rd_T47 l2 x33_2).f0), .int .i64 0]) ?_ 1 _ rfl; (with_reducible repeat (first | refine blk_drewN ?_ _ | refine blk_drew ?_ | refine blk_alloc ?_ _)); refine blk_put (cs := #[.int .i64 0, .int .i64 0]) ?_ 0 _ rfl; (with_reducible repeat (first | refine blk_drewN ?_ _ | refine blk_drew ?_ | refine blk_alloc ?_ _)); exact BK138.out) hb); have n3_ := bls_ HB hb; clear BK133; clear BK134; clear BK138; clear HB; have BK133 := n0_; have BK134 := n1_; have BK138 := n2_; have HB := n3_; clear n0_ n1_ n2_ n3_; (try clear hb); (try clear hb2); (try clear hk); (try clear hi))); try go_wp2_with (first | ((with_reducible refine gate_dst (N := 8) rfl ?_); (try (refine gate_guard (by rfl) ?_; dsimp only)); refine box_event ?hg (N := 8) ?hd (cs := #[.int .i64 0, .int .i64 0]) (t := 47) ?hr ?_; (case hd => rfl); (case hg => rfl); (case hr => first | (go_simp; done) | (go_simp; rfl)); intro gb138 hg w31 hbox hb; have BK138 := Aside0.mk (hbox); have GW138 := bgw_ HB hg; have GE138 := bgw_ HB hg; have NB133_138 := bnl_ BK133 hg; have NB138_133 := bng_ BK133 hg; have NB134_138 := bnl_ BK134 hg; have NB138_134 := bng_ BK134 hg; replace BK133 := bkb_ BK133 hb; replace BK134 := bkb_ BK134 hb; replace HB := bls_ HB hb; clear hb hbox hg; have hnb32 := NB138_133.out; have hnc32 := NB133_138.out; have hnb33 := NB138_134.out; have hnc33 := NB134_138.out; have hcz34_0 := bkc_ BK138 0 (.int .i64 0) rfl; have hcz34_1 := bkc_ BK138 1 (.int .i64 0) rfl; have hfz34_0 := blk_frozen BK138.out 0; have hfz34_1 := blk_frozen BK138.out 1) | (go_at_call 54; (with_reducible refine (punch_Slot_good.calls ((rd_T47 l2 x33_2).f0) ((rd_T47 l2 x33_2).f1) false _ A24.out).mono ?_); rintro e w35 ⟨rfl, hb⟩; have n0_ := bkb_ BK133 hb; have n1_ := bkb_ BK134 hb; have n2_ := Aside0.mk (blk_below (g := gb138) (o := .cells #[.int .i64 ((rd_T47 l2 x33_2).f0), .int .i64 ((rd_T47 l2 x33_2).f1)] 47 (0, 0)) (by (with_reducible repeat (first | refine blk_drewN ?_ _ | refine blk_drew ?_ | refine blk_alloc ?_ _)); refine blk_put (cs := #[.int .i64 ((rd_T47 l2 x33_2).f0), .int .i64 0]) ?_ 1 _ rfl; (with_reducible repeat (first | refine blk_drewN ?_ _ | refine blk_drew ?_ | refine blk_alloc ?_ _)); refine blk_put (cs := #[.int .i64 0, .int .i64 0]) ?_ 0 _ rfl; (with_reducible repeat (first | refine blk_drewN ?_ _ | refine blk_drew ?_ | refine blk_alloc ?_ _)); exact BK138.out) hb); have n3_ := bls_ HB hb; clear BK133; clear BK134; clear BK138; clear HB; have BK133 := n0_; have BK134 := n1_; have BK138 := n2_; have HB := n3_; clear n0_ n1_ n2_ n3_; (try clear hb); (try clear hb2); (try clear hk); (try clear hi))))
                   go_ret
                   exact ⟨by first | rfl | (simp [errW_none, errW_some] <;> rfl) | (simp [*, errW_none, errW_some] <;> rfl), by repeat (first | (with_reducible first | exact HB.out | apply below_alloc | apply pw_below_drewN | apply below_drew1 | refine below_set ?_ GE133.out | refine below_set ?_ GE134.out | refine below_set ?_ GE138.out) | exact HB.out)⟩
               · rw [if_neg c23] at H
                 exact absurd H (by simp)
             · rw [if_neg c22] at H
               exact absurd H (by simp)
           · rw [if_neg c21] at H
             have c21b0 : decide (x33_2 < (l2.length : Int)) = false := decide_eq_false c21
             clear c21
             have HC36 := Aside0.mk H
             clear H
             go_upto_region 13 with (fail)
             repeat (go_quiet (fail); go_upto_region 13 with (fail))
             go_cut [59] (fun v59 wc => ∃ (kq : Nat) (x59_35 : Bool), v59 = .bool x59_35 ∧ Aside0 (punch_Holds.j2 kq l2 x59_35 a0_0 a0_1 a0_2 a0_3 a0_4 = some r) ∧ Aside0 (kq ≤ k2) ∧ Aside0 (wc.heap[gb133]? = some (.cells #[.int .i64 a0_0, .int .i64 a0_1, .int .i64 a0_2, .int .i64 a0_3, .int .i64 a0_4] 57 (0, 0))) ∧ Aside0 (wc.heap[gb134]? = some (.cells #[.int .i64 a1_0, .int .i64 a1_1] 47 (0, 0))) ∧ Aside0 (Below w.heap.size w wc))
             case first =>
              have H := HC36.out
              clear HC36
              by_cases c37 : 0 < (l2.length : Int)
              · rw [if_pos c37] at H
                have c37b0 : decide (0 < (l2.length : Int)) = true := decide_eq_true c37
                have c37b1 : decide (0 < l2.length) = true := decide_eq_true (by omega)
                clear c37
                (first | rw [c37b0] | (simp only [i64_w, i32_w]; rw [c37b0]) | skip)
                by_cases c38 : ((rd_T47 l2 0).f0) = a1_0
                · rw [if_pos c38] at H
                  have c38b0 : (((rd_T47 l2 0).f0) == a1_0) = true := beq_iff_eq.mpr c38
                  have c38b1 : (((rd_T47 l2 0).f0) != a1_0) = false := bne_eq_false_iff_eq.mpr c38
                  clear c38
                  obtain ⟨ji39, hji39⟩ : ∃ j_ : Int, (wrap64 ((l2.length : Int) - 1)) = j_ := ⟨_, rfl⟩
                  replace H : (if 0 ≤ (ji39) then (if (ji39) < (l2.length : Int) then (punch_Holds.j2 k2 l2 (((rd_T47 l2 (ji39)).f1) != a1_1) a0_0 a0_1 a0_2 a0_3 a0_4) else (none)) else (none)) = some r := by first | (rw [hji39] at H; exact H) | (simp only [hji39] at H ⊢; exact H)
                  have hji39w : (IntKind.i64.wrap ((l2.length : Int) - 1)) = ji39 := (i64_w _).trans hji39
                  by_cases c40 : 0 ≤ (ji39)
                  · rw [if_pos c40] at H
                    have c40b0 : decide (0 ≤ (ji39)) = true := decide_eq_true c40
                    clear c40
                    by_cases c41 : (ji39) < (l2.length : Int)
                    · rw [if_pos c41] at H
                      have c41b0 : decide ((ji39) < (l2.length : Int)) = true := decide_eq_true c41
                      clear c41
                      have H' := Aside0.mk H
                      clear H
                      have p140 : 0 ≤ (0 : Int) := (by omega)
                      have q140 : 0 < (l2.length : Int) := of_decide_eq_true (by first | (with_reducible assumption) | assumption)
                      obtain ⟨ad140, e140, hx140_0, hx140_1⟩ := at_T47 HR2.out 0 p140 q140
                      cases e140
                      have qi140 : (0 < l2.length) = True := eq_true (by omega)
                      (try rw [show ((0 : Int)).toNat = 0 from rfl] at hx140_0)
                      (try rw [show 0 * 2 = 0 from rfl] at hx140_0)
                      (try rw [Addr.add_zero'] at hx140_0)
                      (try rw [show ((0 : Int)).toNat = 0 from rfl] at hx140_1)
                      (try rw [show 0 * 2 = 0 from rfl] at hx140_1)
                      (try rw [Addr.add_zero'] at hx140_1)
                      replace hx140_0 := (HB.out.cell (World.block_lt_of_cell? w _ hx140_0)).trans hx140_0
                      replace hx140_1 := (HB.out.cell (World.block_lt_of_cell? w _ hx140_1)).trans hx140_1
                      replace p140 := eq_true p140
                      replace q140 := eq_true q140
                      have hnb42 := NB134_133.out
                      have hnc42 := NB133_134.out
                      have hcz43_0 := bkc_ BK134 0 (.int .i64 a1_0) rfl
                      have hcz43_1 := bkc_ BK134 1 (.int .i64 a1_1) rfl
                      have hfz43_0 := blk_frozen BK134.out 0
                      have hfz43_1 := blk_frozen BK134.out 1
                      have p141 : 0 ≤ ((ji39) : Int) := of_decide_eq_true (by first | (with_reducible assumption) | assumption)
                      have q141 : (ji39) < (l2.length : Int) := of_decide_eq_true (by first | (with_reducible assumption) | assumption)
                      obtain ⟨ad141, e141, hx141_0, hx141_1⟩ := at_T47 HR2.out (ji39) p141 q141
                      obtain rfl : ad140 = ad141 := (by injection e141)
                      replace hx141_0 := (HB.out.cell (World.block_lt_of_cell? w _ hx141_0)).trans hx141_0
                      replace hx141_1 := (HB.out.cell (World.block_lt_of_cell? w _ hx141_1)).trans hx141_1
                      replace p141 := eq_true p141
                      replace q141 := eq_true q141
                      go_wp2
                      repeat (go_quiet (fail); try go_wp2)
                      go_meet
                      case rel => exact ⟨_, ((((rd_T47 l2 (ji39)).f1) != a1_1)), (by first | rfl | (simp; done) | (simp only [← hji39] <;> (first | rfl | simp)) | (simp [*]; done)), H', ⟨by have := HJ3.out; have := HK2.out; first | omega | exact Nat.le_refl _⟩, bkx_ BK133, bkx_ BK134, blx_ HB⟩
                    · rw [if_neg c41] at H
                      exact absurd H (by simp)
                  · rw [if_neg c40] at H
                    exact absurd H (by simp)
                · rw [if_neg c38] at H
                  have c38b0 : (((rd_T47 l2 0).f0) == a1_0) = false := beq_eq_false_iff_ne.mpr c38
                  have c38b1 : (((rd_T47 l2 0).f0) != a1_0) = true := bne_iff_ne.mpr c38
                  have H' := Aside0.mk H
                  clear H
                  have p140 : 0 ≤ (0 : Int) := (by omega)
                  have q140 : 0 < (l2.length : Int) := of_decide_eq_true (by first | (with_reducible assumption) | assumption)
                  obtain ⟨ad140, e140, hx140_0, hx140_1⟩ := at_T47 HR2.out 0 p140 q140
                  cases e140
                  have qi140 : (0 < l2.length) = True := eq_true (by omega)
                  (try rw [show ((0 : Int)).toNat = 0 from rfl] at hx140_0)
                  (try rw [show 0 * 2 = 0 from rfl] at hx140_0)
                  (try rw [Addr.add_zero'] at hx140_0)
                  (try rw [show ((0 : Int)).toNat = 0 from rfl] at hx140_1)
                  (try rw [show 0 * 2 = 0 from rfl] at hx140_1)
                  (try rw [Addr.add_zero'] at hx140_1)
                  replace hx140_0 := (HB.out.cell (World.block_lt_of_cell? w _ hx140_0)).trans hx140_0
                  replace hx140_1 := (HB.out.cell (World.block_lt_of_cell? w _ hx140_1)).trans hx140_1
                  replace p140 := eq_true p140
                  replace q140 := eq_true q140
                  have hnb44 := NB134_133.out
                  have hnc44 := NB133_134.out
                  have hcz45_0 := bkc_ BK134 0 (.int .i64 a1_0) rfl
                  have hcz45_1 := bkc_ BK134 1 (.int .i64 a1_1) rfl
                  have hfz45_0 := blk_frozen BK134.out 0
                  have hfz45_1 := blk_frozen BK134.out 1
                  go_wp2
                  repeat (go_quiet (fail); try go_wp2)
                  go_meet
                  case rel => exact ⟨_, (true), (by first | rfl | (simp; done) | (simp [*]; done)), H', ⟨by have := HJ3.out; have := HK2.out; first | omega | exact Nat.le_refl _⟩, bkx_ BK133, bkx_ BK134, blx_ HB⟩
              · rw [if_neg c37] at H
                exact absurd H (by simp)
             case rest =>
              clear HC36
              try clear c1
              try clear p1
              try clear q1
              try clear hx1
              try clear qi1
              try clear c2
              try clear p2
              try clear c3
              try clear c4
              try clear p6
              try clear c8
              try clear c10
              try clear p13
              try clear q13
              try clear hx13
              try clear p14
              try clear q14
              try clear hx14
              try clear qi14
              try clear c15
              try clear c18
              try clear c19
              try clear c19b0
              try clear c19b1
              try clear c20
              try clear c20b0
              try clear c20b1
              try clear c20b2
              try clear c21
              try clear c21b0
              try clear c22
              try clear c22b0
              try clear c23
              try clear c23b0
              try clear c25
              try clear c27
              try clear c28
              try clear c32
              try clear c33
              try clear c35
              try clear c37
              try clear c37b0
              try clear c37b1
              try clear c38
              try clear c38b0
              try clear c38b1
              try clear c40
              try clear c40b0
              try clear c41
              try clear c41b0
              try clear c42
              try clear c44
              try clear hcz11_0
              try clear hcz11_1
              try clear hcz11_2
              try clear hcz11_3
              try clear hcz11_4
              try clear hcz13_0
              try clear hcz13_1
              try clear hcz16_0
              try clear hcz16_1
              try clear hcz16_2
              try clear hcz16_3
              try clear hcz16_4
              try clear hcz29_0
              try clear hcz29_1
              try clear hcz34_0
              try clear hcz34_1
              try clear hcz43_0
              try clear hcz43_1
              try clear hcz45_0
              try clear hcz45_1
              try clear hfz11_0
              try clear hfz11_1
              try clear hfz11_2
              try clear hfz11_3
              try clear hfz11_4
              try clear hfz13_0
              try clear hfz13_1
              try clear hfz16_0
              try clear hfz16_1
              try clear hfz16_2
              try clear hfz16_3
              try clear hfz16_4
              try clear hfz29_0
              try clear hfz29_1
              try clear hfz34_0
              try clear hfz34_1
              try clear hfz43_0
              try clear hfz43_1
              try clear hfz45_0
              try clear hfz45_1
              try clear hx137_0
              try clear hx137_1
              try clear hx140_0
              try clear hx140_1
              try clear hx141_0
              try clear hx141_1
              try clear p137
              try clear p140
              try clear p141
              try clear p2
              try clear q137
              try clear q140
              try clear q141
              obtain ⟨kq, x59_35, rfl, HA, HJ35, BK133, BK134, HB⟩ := hcut
              cases kq with
              | zero => exact absurd HA.out (by simp [punch_Holds.j2])
              | succ kj35 =>
               have H := HA.out
               clear HA
               simp only [punch_Holds.j2] at H
               by_cases c46 : x59_35 = true
               · subst c46
                 have H1 : (some 13) = some r := by rw [if_pos rfl] at H; exact H
                 clear H
                 have H := H1
                 clear H1
                 obtain rfl := Option.some.inj H
                 go_wp2
                 repeat (go_quiet (fail); try go_wp2)
                 go_ret
                 exact ⟨by first | rfl | (simp [errW_none, errW_some] <;> rfl) | (simp [*, errW_none, errW_some] <;> rfl), by repeat (first | (with_reducible first | exact HB.out | apply below_alloc | apply pw_below_drewN | apply below_drew1 | refine below_set ?_ GE133.out | refine below_set ?_ GE134.out) | exact HB.out)⟩
               · replace c46 := Bool.eq_false_iff.mpr c46
                 subst c46
                 have H1 : (if 1 ≤ (l2.length : Int) then ((some (l2.drop 1 : List (S47))).bind fun y142 => (punch_Holds.l1 kj35 l2 y142 (y142.length : Int) 0 a0_0 a0_1 a0_2 a0_3 a0_4)) else (none)) = some r := by rw [if_neg (show ¬ (false = true) by decide)] at H; exact H
                 clear H
                 have H := H1
                 clear H1
                 by_cases c47 : 1 ≤ (l2.length : Int)
                 · rw [if_pos c47] at H
                   have c47b0 := eq_true c47
                   have c47b1 : decide (1 ≤ (l2.length : Int)) = true := decide_eq_true c47
                   clear c47
                   obtain ⟨y142, hy142⟩ : ∃ y_ : List (S47), y_ = (l2.drop 1) := ⟨_, rfl⟩
                   replace H : (punch_Holds.l1 kj35 l2 y142 (y142.length : Int) 0 a0_0 a0_1 a0_2 a0_3 a0_4) = some r := by first | (rw [hy142]; with_reducible exact H) | (have H2_ := (Option.bind_some _ _).symm.trans H; rw [hy142]; with_reducible exact H2_) | (have H2_ := (Option.bind_some _ _).symm.trans H; with_reducible exact H2_) | with_reducible exact H | (rw [hy142]; exact H) | exact H
                   have Ny142 := Aside0.mk hy142
                   clear hy142
                   have H' := Aside0.mk H
                   clear H
                   have q48 : (1 : Int) ≤ ((l2.length : Int) : Int) := of_decide_eq_true (by first | (with_reducible assumption) | assumption)
                   obtain ⟨i048, hi048, _, hsz48, _⟩ := info_parts info47
                   have hroom48 : l2.length ≤ c2 := HC2.out
                   have hC48 : Kd.C k47 _ A2 l2.length l2 := HR2.out
                   have hcut48 := cut_from (P := Try.prog) 22 47 .i64 Try.underlying22 hi048 2 hsz48 A2 l2.length c2 1 (by omega) q48
                   have hr48 := Kd.C_drop (m := (1 : Int).toNat) (c := c2) hC48 (by omega) hroom48
                   obtain ⟨A48, hA48⟩ : ∃ A1, A1 = (if c2 = (1 : Int).toNat then A2 else (A2 : Option Addr).map (·.add ((1 : Int).toNat * 2))) := ⟨_, rfl⟩
                   obtain ⟨c48, hc48⟩ : ∃ c1, c1 = c2 - (1 : Int).toNat := ⟨_, rfl⟩
                   have hy48 : y142.length = l2.length - (1 : Int).toNat := (by rw [Ny142.out, List.length_drop] <;> omega)
                   rw [show (l2).drop (1 : Int).toNat = y142 from Ny142.out.symm] at hr48
                   replace hr48 : Kd.C k47 _ A48 y142.length y142 := (by rw [hA48]; exact hr48)
                   rw [← hy48, ← hA48, ← hc48] at hcut48
                   have HR145 := Aside0.mk hr48
                   have HC145 := Aside0.mk (show y142.length ≤ c48 from by rw [hy48, hc48]; exact Nat.sub_le_sub_right hroom48 _)
                   clear hr48 hC48 hroom48 hi048 hsz48 hc48
                   have KY48 := Aside0.mk hy48
                   have KA48 := Aside0.mk hA48
                   clear hy48 hA48
                   replace q48 := eq_true q48
                   go_wp2
                   repeat (go_quiet (fail); try go_wp2)
                   go_loopg [63] kj35 (fun kq v63 w' => ∃ (x63_4 : Int), v63 = .int .i64 x63_4 ∧ Aside0 (punch_Holds.l1 kq l2 y142 (y142.length : Int) x63_4 a0_0 a0_1 a0_2 a0_3 a0_4 = some r) ∧ Aside0 (kq ≤ kj35) ∧ Aside0 (w'.heap[gb133]? = some (.cells #[.int .i64 a0_0, .int .i64 a0_1, .int .i64 a0_2, .int .i64 a0_3, .int .i64 a0_4] 57 (0, 0))) ∧ Aside0 (w'.heap[gb134]? = some (.cells #[.int .i64 a1_0, .int .i64 a1_1] 47 (0, 0))) ∧ Aside0 (Below w.heap.size w w'))
                   case atStart => exact ⟨(0), (by first | rfl | (simp; done) | (simp [*]; done)), H', ⟨Nat.le_refl _⟩, bkx_ BK133, bkx_ BK134, blx_ HB⟩
                   case round =>
                    clear H'
                    try clear c1
                    try clear p1
                    try clear q1
                    try clear hx1
                    try clear qi1
                    try clear c2
                    try clear p2
                    try clear c3
                    try clear c4
                    try clear q4
                    try clear p6
                    try clear c8
                    try clear c10
                    try clear p13
                    try clear q13
                    try clear hx13
                    try clear p14
                    try clear q14
                    try clear hx14
                    try clear qi14
                    try clear c15
                    try clear c18
                    try clear c19
                    try clear c19b0
                    try clear c19b1
                    try clear c20
                    try clear c20b0
                    try clear c20b1
                    try clear c20b2
                    try clear c21
                    try clear c21b0
                    try clear c22
                    try clear c22b0
                    try clear c23
                    try clear c23b0
                    try clear c25
                    try clear c27
                    try clear c28
                    try clear c32
                    try clear c33
                    try clear c35
                    try clear c37
                    try clear c37b0
                    try clear c37b1
                    try clear c38
                    try clear c38b0
                    try clear c38b1
                    try clear c40
                    try clear c40b0
                    try clear c41
                    try clear c41b0
                    try clear c42
                    try clear c44
                    try clear c46
                    try clear c47
                    try clear c47b0
                    try clear c47b1
                    try clear c48
                    try clear q48
                    try clear hcz11_0
                    try clear hcz11_1
                    try clear hcz11_2
                    try clear hcz11_3
                    try clear hcz11_4
                    try clear hcz13_0
                    try clear hcz13_1
                    try clear hcz16_0
                    try clear hcz16_1
                    try clear hcz16_2
                    try clear hcz16_3
                    try clear hcz16_4
                    try clear hcz29_0
                    try clear hcz29_1
                    try clear hcz34_0
                    try clear hcz34_1
                    try clear hcz43_0
                    try clear hcz43_1
                    try clear hcz45_0
                    try clear hcz45_1
                    try clear hfz11_0
                    try clear hfz11_1
                    try clear hfz11_2
                    try clear hfz11_3
                    try clear hfz11_4
                    try clear hfz13_0
                    try clear hfz13_1
                    try clear hfz16_0
                    try clear hfz16_1
                    try clear hfz16_2
                    try clear hfz16_3
                    try clear hfz16_4
                    try clear hfz29_0
                    try clear hfz29_1
                    try clear hfz34_0
                    try clear hfz34_1
                    try clear hfz43_0
                    try clear hfz43_1
                    try clear hfz45_0
                    try clear hfz45_1
                    try clear hx137_0
                    try clear hx137_1
                    try clear hx140_0
                    try clear hx140_1
                    try clear hx141_0
                    try clear hx141_1
                    try clear p1
                    try clear p13
                    try clear p137
                    try clear p14
                    try clear p140
                    try clear p141
                    try clear p2
                    try clear p6
                    try clear q1
                    try clear q13
                    try clear q137
                    try clear q14
                    try clear q140
                    try clear q141
                    try clear q48
                    obtain ⟨x63_4, rfl, HA, HK4, BK133, BK134, HB⟩ := hrel
                    cases gk with
                    | zero => exact absurd HA.out (by simp [punch_Holds.l1])
                    | succ k4 =>
                     have H := HA.out
                     clear HA
                     simp only [punch_Holds.l1] at H
                     by_cases c49 : x63_4 < (y142.length : Int)
                     · rw [if_pos c49] at H
                       have c49b0 : decide (x63_4 < (y142.length : Int)) = true := decide_eq_true c49
                       clear c49
                       by_cases c50 : 0 ≤ x63_4
                       · rw [if_pos c50] at H
                         have c50b0 : decide (0 ≤ x63_4) = true := decide_eq_true c50
                         clear c50
                         by_cases c51 : x63_4 < (y142.length : Int)
                         · rw [if_pos c51] at H
                           have c51b0 : decide (x63_4 < (y142.length : Int)) = true := decide_eq_true c51
                           clear c51
                           by_cases c52 : x63_4 < (l2.length : Int)
                           · rw [if_pos c52] at H
                             have c52b0 : decide (x63_4 < (l2.length : Int)) = true := decide_eq_true c52
                             clear c52
                             by_cases c53 : ((rd_T47 y142 x63_4).f0) ≤ ((rd_T47 l2 x63_4).f1)
                             · rw [if_pos c53] at H
                               have c53b0 : decide (((rd_T47 y142 x63_4).f0) ≤ ((rd_T47 l2 x63_4).f1)) = true := decide_eq_true c53
                               clear c53
                               obtain rfl := Option.some.inj H
                               have p146 : 0 ≤ (x63_4 : Int) := of_decide_eq_true (by first | (with_reducible assumption) | assumption)
                               have q146 : x63_4 < (y142.length : Int) := of_decide_eq_true (by first | (with_reducible assumption) | assumption)
                               obtain ⟨ad146, e146, hx146_0, hx146_1⟩ := at_T47 HR145.out x63_4 p146 q146
                               cases e146
                               replace hx146_0 := (HB.out.cell (World.block_lt_of_cell? w _ hx146_0)).trans hx146_0
                               replace hx146_1 := (HB.out.cell (World.block_lt_of_cell? w _ hx146_1)).trans hx146_1
                               replace p146 := eq_true p146
                               replace q146 := eq_true q146
                               go_wp2_with (first | ((with_reducible refine gate_dst (N := 10) rfl ?_); (try (refine gate_guard (by rfl) ?_; dsimp only)); refine box_event ?hg (N := 10) ?hd (cs := #[.int .i64 0, .int .i64 0]) (t := 47) ?hr ?_; (case hd => rfl); (case hg => rfl); (case hr => first | (go_simp; done) | (go_simp; rfl)); intro gb147 hg w54 hbox hb; have BK147 := Aside0.mk (hbox); have GW147 := bgw_ HB hg; have GE147 := bgw_ HB hg; have NB133_147 := bnl_ BK133 hg; have NB147_133 := bng_ BK133 hg; have NB134_147 := bnl_ BK134 hg; have NB147_134 := bng_ BK134 hg; replace BK133 := bkb_ BK133 hb; replace BK134 := bkb_ BK134 hb; replace HB := bls_ HB hb; clear hb hbox hg; have hnb55 := NB147_133.out; have hnc55 := NB133_147.out; have hnb56 := NB147_134.out; have hnc56 := NB134_147.out; have hcz57_0 := bkc_ BK147 0 (.int .i64 0) rfl; have hcz57_1 := bkc_ BK147 1 (.int .i64 0) rfl; have hfz57_0 := blk_frozen BK147.out 0; have hfz57_1 := blk_frozen BK147.out 1; have p148 : 0 ≤ (x63_4 : Int) := of_decide_eq_true (by first | (with_reducible assumption) | assumption); have q148 : x63_4 < (l2.length : Int) := of_decide_eq_true (by first | (with_reducible assumption) | assumption); obtain ⟨ad148, e148, hx148_0, hx148_1⟩ := at_T47 HR2.out x63_4 p148 q148; cases e148; have hn148_0 : ad148.block ≠ gb147 := Nat.ne_of_lt (Nat.lt_of_lt_of_le (by have := World.block_lt_of_cell? _ _ hx148_0; first | rwa [add_block] at this | exact this) GW147.out); have hn148_1 : ad148.block ≠ gb147 := Nat.ne_of_lt (Nat.lt_of_lt_of_le (by have := World.block_lt_of_cell? _ _ hx148_0; first | rwa [add_block] at this | exact this) GW147.out); replace hx148_0 := (HB.out.cell (World.block_lt_of_cell? w _ hx148_0)).trans hx148_0; replace hx148_1 := (HB.out.cell (World.block_lt_of_cell? w _ hx148_1)).trans hx148_1; replace hx148_0 := (cell_far (p := ⟨gb147, 0, none⟩) (by first | (rw [add_block]; exact hn148_0) | (show (Addr.add _ _).block ≠ _; rw [add_block]; exact hn148_0) | exact hn148_0) (.int .i64 ((rd_T47 y142 x63_4).f0))).trans hx148_0; replace hx148_1 := (cell_far (p := ⟨gb147, 0, none⟩) (by first | (rw [add_block]; exact hn148_0) | (show (Addr.add _ _).block ≠ _; rw [add_block]; exact hn148_0) | exact hn148_0) (.int .i64 ((rd_T47 y142 x63_4).f0))).trans hx148_1; replace hx148_0 := (cell_far (p := ⟨gb147, 1, none⟩) (by first | (rw [add_block]; exact hn148_1) | (show (Addr.add _ _).block ≠ _; rw [add_block]; exact hn148_1) | exact hn148_1) (.int .i64 ((rd_T47 y142 x63_4).f1))).trans hx148_0; replace hx148_1 := (cell_far (p := ⟨gb147, 1, none⟩) (by first | (rw [add_block]; exact hn148_1) | (show (Addr.add _ _).block ≠ _; rw [add_block]; exact hn148_1) | exact hn148_1) (.int .i64 ((rd_T47 y142 x63_4).f1))).trans hx148_1; (try have hy148_0 := fun (n_ : Nat) => (show ((((w54.drewN n_).setCell ⟨gb147, 0, none⟩ (.int .i64 ((rd_T47 y142 x63_4).f0))).setCell ⟨gb147, 1, none⟩ (.int .i64 ((rd_T47 y142 x63_4).f1)))).cell? _ = some _ from hx148_0)); (try have hy148_1 := fun (n_ : Nat) => (show ((((w54.drewN n_).setCell ⟨gb147, 0, none⟩ (.int .i64 ((rd_T47 y142 x63_4).f0))).setCell ⟨gb147, 1, none⟩ (.int .i64 ((rd_T47 y142 x63_4).f1)))).cell? _ = some _ from hx148_1)); clear hn148_0; clear hn148_1; replace p148 := eq_true p148; replace q148 := eq_true q148))
                               repeat (go_quiet (first | ((with_reducible refine gate_dst (N := 10) rfl ?_); (try (refine gate_guard (by rfl) ?_; dsimp only)); refine box_event ?hg (N := 10) ?hd (cs := #[.int .i64 0, .int .i64 0]) (t := 47) ?hr ?_; (case hd => rfl); (case hg => rfl); (case hr => first | (go_simp; done) | (go_simp; rfl)); intro gb147 hg w54 hbox hb; have BK147 := Aside0.mk (hbox); have GW147 := bgw_ HB hg; have GE147 := bgw_ HB hg; have NB133_147 := bnl_ BK133 hg; have NB147_133 := bng_ BK133 hg; have NB134_147 := bnl_ BK134 hg; have NB147_134 := bng_ BK134 hg; replace BK133 := bkb_ BK133 hb; replace BK134 := bkb_ BK134 hb; replace HB := bls_ HB hb; clear hb hbox hg; have hnb55 := NB147_133.out; have hnc55 := NB133_147.out; have hnb56 := NB147_134.out; have hnc56 := NB134_147.out; have hcz57_0 := bkc_ BK147 0 (.int .i64 0) rfl; have hcz57_1 := bkc_ BK147 1 (.int .i64 0) rfl; have hfz57_0 := blk_frozen BK147.out 0; have hfz57_1 := blk_frozen BK147.out 1; have p148 : 0 ≤ (x63_4 : Int) := of_decide_eq_true (by first | (with_reducible assumption) | assumption); have q148 : x63_4 < (l2.length : Int) := of_decide_eq_true (by first | (with_reducible assumption) | assumption); obtain ⟨ad148, e148, hx148_0, hx148_1⟩ := at_T47 HR2.out x63_4 p148 q148; cases e148; have hn148_0 : ad148.block ≠ gb147 := Nat.ne_of_lt (Nat.lt_of_lt_of_le (by have := World.block_lt_of_cell? _ _ hx148_0; first | rwa [add_block] at this | exact this) GW147.out); have hn148_1 : ad148.block ≠ gb147 := Nat.ne_of_lt (Nat.lt_of_lt_of_le (by have := World.block_lt_of_cell? _ _ hx148_0; first | rwa [add_block] at this | exact this) GW147.out); replace hx148_0 := (HB.out.cell (World.block_lt_of_cell? w _ hx148_0)).trans hx148_0; replace hx148_1 := (HB.out.cell (World.block_lt_of_cell? w _ hx148_1)).trans hx148_1; replace hx148_0 := (cell_far (p := ⟨gb147, 0, none⟩) (by first | (rw [add_block]; exact hn148_0) | (show (Addr.add _ _).block ≠ _; rw [add_block]; exact hn148_0) | exact hn148_0) (.int .i64 ((rd_T47 y142 x63_4).f0))).trans hx148_0; replace hx148_1 := (cell_far (p := ⟨gb147, 0, none⟩) (by first | (rw [add_block]; exact hn148_0) | (show (Addr.add _ _).block ≠ _; rw [add_block]; exact hn148_0) | exact hn148_0) (.int .i64 ((rd_T47 y142 x63_4).f0))).trans hx148_1; replace hx148_0 := (cell_far (p := ⟨gb147, 1, none⟩) (by first | (rw [add_block]; exact hn148_1) | (show (Addr.add _ _).block ≠ _; rw [add_block]; exact hn148_1) | exact hn148_1) (.int .i64 ((rd_T47 y142 x63_4).f1))).trans hx148_0; replace hx148_1 := (cell_far (p := ⟨gb147, 1, none⟩) (by first | (rw [add_block]; exact hn148_1) | (show (Addr.add _ _).block ≠ _; rw [add_block]; exact hn148_1) | exact hn148_1) (.int .i64 ((rd_T47 y142 x63_4).f1))).trans hx148_1; (try have hy148_0 := fun (n_ : Nat) => (show ((((w54.drewN n_).setCell ⟨gb147, 0, none⟩ (.int .i64 ((rd_T47 y142 x63_4).f0))).setCell ⟨gb147, 1, none⟩ (.int .i64 ((rd_T47 y142 x63_4).f1)))).cell? _ = some _ from hx148_0)); (try have hy148_1 := fun (n_ : Nat) => (show ((((w54.drewN n_).setCell ⟨gb147, 0, none⟩ (.int .i64 ((rd_T47 y142 x63_4).f0))).setCell ⟨gb147, 1, none⟩ (.int .i64 ((rd_T47 y142 x63_4).f1)))).cell? _ = some _ from hx148_1)); clear hn148_0; clear hn148_1; replace p148 := eq_true p148; replace q148 := eq_true q148)); try go_wp2_with (first | ((with_reducible refine gate_dst (N := 10) rfl ?_); (try (refine gate_guard (by rfl) ?_; dsimp only)); refine box_event ?hg (N := 10) ?hd (cs := #[.int .i64 0, .int .i64 0]) (t := 47) ?hr ?_; (case hd => rfl); (case hg => rfl); (case hr => first | (go_simp; done) | (go_simp; rfl)); intro gb147 hg w54 hbox hb; have BK147 := Aside0.mk (hbox); have GW147 := bgw_ HB hg; have GE147 := bgw_ HB hg; have NB133_147 := bnl_ BK133 hg; have NB147_133 := bng_ BK133 hg; have NB134_147 := bnl_ BK134 hg; have NB147_134 := bng_ BK134 hg; replace BK133 := bkb_ BK133 hb; replace BK134 := bkb_ BK134 hb; replace HB := bls_ HB hb; clear hb hbox hg; have hnb55 := NB147_133.out; have hnc55 := NB133_147.out; have hnb56 := NB147_134.out; have hnc56 := NB134_147.out; have hcz57_0 := bkc_ BK147 0 (.int .i64 0) rfl; have hcz57_1 := bkc_ BK147 1 (.int .i64 0) rfl; have hfz57_0 := blk_frozen BK147.out 0; have hfz57_1 := blk_frozen BK147.out 1; have p148 : 0 ≤ (x63_4 : Int) := of_decide_eq_true (by first | (with_reducible assumption) | assumption); have q148 : x63_4 < (l2.length : Int) := of_decide_eq_true (by first | (with_reducible assumption) | assumption); obtain ⟨ad148, e148, hx148_0, hx148_1⟩ := at_T47 HR2.out x63_4 p148 q148; cases e148; have hn148_0 : ad148.block ≠ gb147 := Nat.ne_of_lt (Nat.lt_of_lt_of_le (by have := World.block_lt_of_cell? _ _ hx148_0; first | rwa [add_block] at this | exact this) GW147.out); have hn148_1 : ad148.block ≠ gb147 := Nat.ne_of_lt (Nat.lt_of_lt_of_le (by have := World.block_lt_of_cell? _ _ hx148_0; first | rwa [add_block] at this | exact this) GW147.out); replace hx148_0 := (HB.out.cell (World.block_lt_of_cell? w _ hx148_0)).trans hx148_0; replace hx148_1 := (HB.out.cell (World.block_lt_of_cell? w _ hx148_1)).trans hx148_1; replace hx148_0 := (cell_far (p := ⟨gb147, 0, none⟩) (by first | (rw [add_block]; exact hn148_0) | (show (Addr.add _ _).block ≠ _; rw [add_block]; exact hn148_0) | exact hn148_0) (.int .i64 ((rd_T47 y142 x63_4).f0))).trans hx148_0; replace hx148_1 := (cell_far (p := ⟨gb147, 0, none⟩) (by first | (rw [add_block]; exact hn148_0) | (show (Addr.add _ _).block ≠ _; rw [add_block]; exact hn148_0) | exact hn148_0) (.int .i64 ((rd_T47 y142 x63_4).f0))).trans hx148_1; replace hx148_0 := (cell_far (p := ⟨gb147, 1, none⟩) (by first | (rw [add_block]; exact hn148_1) | (show (Addr.add _ _).block ≠ _; rw [add_block]; exact hn148_1) | exact hn148_1) (.int .i64 ((rd_T47 y142 x63_4).f1))).trans hx148_0; replace hx148_1 := (cell_far (p := ⟨gb147, 1, none⟩) (by first | (rw [add_block]; exact hn148_1) | (show (Addr.add _ _).block ≠ _; rw [add_block]; exact hn148_1) | exact hn148_1) (.int .i64 ((rd_T47 y142 x63_4).f1))).trans hx148_1; (try have hy148_0 := fun (n_ : Nat) => (show ((((w54.drewN n_).setCell ⟨gb147, 0, none⟩ (.int .i64 ((rd_T47 y142 x63_4).f0))).setCell ⟨gb147, 1, none⟩ (.int .i64 ((rd_T47 y142 x63_4).f1)))).cell? _ = some _ from hx148_0)); (try have hy148_1 := fun (n_ : Nat) => (show ((((w54.drewN n_).setCell ⟨gb147, 0, none⟩ (.int .i64 ((rd_T47 y142 x63_4).f0))).setCell ⟨gb147, 1, none⟩ (.int .i64 ((rd_T47 y142 x63_4).f1)))).cell? _ = some _ from hx148_1)); clear hn148_0; clear hn148_1; replace p148 := eq_true p148; replace q148 := eq_true q148)))
                               go_ret
                               exact ⟨by first | rfl | (simp [errW_none, errW_some] <;> rfl) | (simp [*, errW_none, errW_some] <;> rfl), by repeat (first | (with_reducible first | exact HB.out | apply below_alloc | apply pw_below_drewN | apply below_drew1 | refine below_set ?_ GE133.out | refine below_set ?_ GE134.out | refine below_set ?_ GE147.out) | exact HB.out)⟩
                             · rw [if_neg c53] at H
                               have c53b0 : decide (((rd_T47 y142 x63_4).f0) ≤ ((rd_T47 l2 x63_4).f1)) = false := decide_eq_false c53
                               clear c53
                               have H' := Aside0.mk H
                               clear H
                               have p146 : 0 ≤ (x63_4 : Int) := of_decide_eq_true (by first | (with_reducible assumption) | assumption)
                               have q146 : x63_4 < (y142.length : Int) := of_decide_eq_true (by first | (with_reducible assumption) | assumption)
                               obtain ⟨ad146, e146, hx146_0, hx146_1⟩ := at_T47 HR145.out x63_4 p146 q146
                               cases e146
                               replace hx146_0 := (HB.out.cell (World.block_lt_of_cell? w _ hx146_0)).trans hx146_0
                               replace hx146_1 := (HB.out.cell (World.block_lt_of_cell? w _ hx146_1)).trans hx146_1
                               replace p146 := eq_true p146
                               replace q146 := eq_true q146
                               go_wp2_with (first | ((with_reducible refine gate_dst (N := 10) rfl ?_); (try (refine gate_guard (by rfl) ?_; dsimp only)); refine box_event ?hg (N := 10) ?hd (cs := #[.int .i64 0, .int .i64 0]) (t := 47) ?hr ?_; (case hd => rfl); (case hg => rfl); (case hr => first | (go_simp; done) | (go_simp; rfl)); intro gb147 hg w58 hbox hb; have BK147 := Aside0.mk (hbox); have GW147 := bgw_ HB hg; have GE147 := bgw_ HB hg; have NB133_147 := bnl_ BK133 hg; have NB147_133 := bng_ BK133 hg; have NB134_147 := bnl_ BK134 hg; have NB147_134 := bng_ BK134 hg; replace BK133 := bkb_ BK133 hb; replace BK134 := bkb_ BK134 hb; replace HB := bls_ HB hb; clear hb hbox hg; have hnb59 := NB147_133.out; have hnc59 := NB133_147.out; have hnb60 := NB147_134.out; have hnc60 := NB134_147.out; have hcz61_0 := bkc_ BK147 0 (.int .i64 0) rfl; have hcz61_1 := bkc_ BK147 1 (.int .i64 0) rfl; have hfz61_0 := blk_frozen BK147.out 0; have hfz61_1 := blk_frozen BK147.out 1; have p148 : 0 ≤ (x63_4 : Int) := of_decide_eq_true (by first | (with_reducible assumption) | assumption); have q148 : x63_4 < (l2.length : Int) := of_decide_eq_true (by first | (with_reducible assumption) | assumption); obtain ⟨ad148, e148, hx148_0, hx148_1⟩ := at_T47 HR2.out x63_4 p148 q148; cases e148; have hn148_0 : ad148.block ≠ gb147 := Nat.ne_of_lt (Nat.lt_of_lt_of_le (by have := World.block_lt_of_cell? _ _ hx148_0; first | rwa [add_block] at this | exact this) GW147.out); have hn148_1 : ad148.block ≠ gb147 := Nat.ne_of_lt (Nat.lt_of_lt_of_le (by have := World.block_lt_of_cell? _ _ hx148_0; first | rwa [add_block] at this | exact this) GW147.out); replace hx148_0 := (HB.out.cell (World.block_lt_of_cell? w _ hx148_0)).trans hx148_0; replace hx148_1 := (HB.out.cell (World.block_lt_of_cell? w _ hx148_1)).trans hx148_1; replace hx148_0 := (cell_far (p := ⟨gb147, 0, none⟩) (by first | (rw [add_block]; exact hn148_0) | (show (Addr.add _ _).block ≠ _; rw [add_block]; exact hn148_0) | exact hn148_0) (.int .i64 ((rd_T47 y142 x63_4).f0))).trans hx148_0; replace hx148_1 := (cell_far (p := ⟨gb147, 0, none⟩) (by first | (rw [add_block]; exact hn148_0) | (show (Addr.add _ _).block ≠ _; rw [add_block]; exact hn148_0) | exact hn148_0) (.int .i64 ((rd_T47 y142 x63_4).f0))).trans hx148_1; replace hx148_0 := (cell_far (p := ⟨gb147, 1, none⟩) (by first | (rw [add_block]; exact hn148_1) | (show (Addr.add _ _).block ≠ _; rw [add_block]; exact hn148_1) | exact hn148_1) (.int .i64 ((rd_T47 y142 x63_4).f1))).trans hx148_0; replace hx148_1 := (cell_far (p := ⟨gb147, 1, none⟩) (by first | (rw [add_block]; exact hn148_1) | (show (Addr.add _ _).block ≠ _; rw [add_block]; exact hn148_1) | exact hn148_1) (.int .i64 ((rd_T47 y142 x63_4).f1))).trans hx148_1; (try have hy148_0 := fun (n_ : Nat) => (show ((((w58.drewN n_).setCell ⟨gb147, 0, none⟩ (.int .i64 ((rd_T47 y142 x63_4).f0))).setCell ⟨gb147, 1, none⟩ (.int .i64 ((rd_T47 y142 x63_4).f1)))).cell? _ = some _ from hx148_0)); (try have hy148_1 := fun (n_ : Nat) => (show ((((w58.drewN n_).setCell ⟨gb147, 0, none⟩ (.int .i64 ((rd_T47 y142 x63_4).f0))).setCell ⟨gb147, 1, none⟩ (.int .i64 ((rd_T47 y142 x63_4).f1)))).cell? _ = some _ from hx148_1)); clear hn148_0; clear hn148_1; replace p148 := eq_true p148; replace q148 := eq_true q148))
                               repeat (go_quiet (first | ((with_reducible refine gate_dst (N := 10) rfl ?_); (try (refine gate_guard (by rfl) ?_; dsimp only)); refine box_event ?hg (N := 10) ?hd (cs := #[.int .i64 0, .int .i64 0]) (t := 47) ?hr ?_; (case hd => rfl); (case hg => rfl); (case hr => first | (go_simp; done) | (go_simp; rfl)); intro gb147 hg w58 hbox hb; have BK147 := Aside0.mk (hbox); have GW147 := bgw_ HB hg; have GE147 := bgw_ HB hg; have NB133_147 := bnl_ BK133 hg; have NB147_133 := bng_ BK133 hg; have NB134_147 := bnl_ BK134 hg; have NB147_134 := bng_ BK134 hg; replace BK133 := bkb_ BK133 hb; replace BK134 := bkb_ BK134 hb; replace HB := bls_ HB hb; clear hb hbox hg; have hnb59 := NB147_133.out; have hnc59 := NB133_147.out; have hnb60 := NB147_134.out; have hnc60 := NB134_147.out; have hcz61_0 := bkc_ BK147 0 (.int .i64 0) rfl; have hcz61_1 := bkc_ BK147 1 (.int .i64 0) rfl; have hfz61_0 := blk_frozen BK147.out 0; have hfz61_1 := blk_frozen BK147.out 1; have p148 : 0 ≤ (x63_4 : Int) := of_decide_eq_true (by first | (with_reducible assumption) | assumption); have q148 : x63_4 < (l2.length : Int) := of_decide_eq_true (by first | (with_reducible assumption) | assumption); obtain ⟨ad148, e148, hx148_0, hx148_1⟩ := at_T47 HR2.out x63_4 p148 q148; cases e148; have hn148_0 : ad148.block ≠ gb147 := Nat.ne_of_lt (Nat.lt_of_lt_of_le (by have := World.block_lt_of_cell? _ _ hx148_0; first | rwa [add_block] at this | exact this) GW147.out); have hn148_1 : ad148.block ≠ gb147 := Nat.ne_of_lt (Nat.lt_of_lt_of_le (by have := World.block_lt_of_cell? _ _ hx148_0; first | rwa [add_block] at this | exact this) GW147.out); replace hx148_0 := (HB.out.cell (World.block_lt_of_cell? w _ hx148_0)).trans hx148_0; replace hx148_1 := (HB.out.cell (World.block_lt_of_cell? w _ hx148_1)).trans hx148_1; replace hx148_0 := (cell_far (p := ⟨gb147, 0, none⟩) (by first | (rw [add_block]; exact hn148_0) | (show (Addr.add _ _).block ≠ _; rw [add_block]; exact hn148_0) | exact hn148_0) (.int .i64 ((rd_T47 y142 x63_4).f0))).trans hx148_0; replace hx148_1 := (cell_far (p := ⟨gb147, 0, none⟩) (by first | (rw [add_block]; exact hn148_0) | (show (Addr.add _ _).block ≠ _; rw [add_block]; exact hn148_0) | exact hn148_0) (.int .i64 ((rd_T47 y142 x63_4).f0))).trans hx148_1; replace hx148_0 := (cell_far (p := ⟨gb147, 1, none⟩) (by first | (rw [add_block]; exact hn148_1) | (show (Addr.add _ _).block ≠ _; rw [add_block]; exact hn148_1) | exact hn148_1) (.int .i64 ((rd_T47 y142 x63_4).f1))).trans hx148_0; replace hx148_1 := (cell_far (p := ⟨gb147, 1, none⟩) (by first | (rw [add_block]; exact hn148_1) | (show (Addr.add _ _).block ≠ _; rw [add_block]; exact hn148_1) | exact hn148_1) (.int .i64 ((rd_T47 y142 x63_4).f1))).trans hx148_1; (try have hy148_0 := fun (n_ : Nat) => (show ((((w58.drewN n_).setCell ⟨gb147, 0, none⟩ (.int .i64 ((rd_T47 y142 x63_4).f0))).setCell ⟨gb147, 1, none⟩ (.int .i64 ((rd_T47 y142 x63_4).f1)))).cell? _ = some _ from hx148_0)); (try have hy148_1 := fun (n_ : Nat) => (show ((((w58.drewN n_).setCell ⟨gb147, 0, none⟩ (.int .i64 ((rd_T47 y142 x63_4).f0))).setCell ⟨gb147, 1, none⟩ (.int .i64 ((rd_T47 y142 x63_4).f1)))).cell? _ = some _ from hx148_1)); clear hn148_0; clear hn148_1; replace p148 := eq_true p148; replace q148 := eq_true q148)); try go_wp2_with (first | ((with_reducible refine gate_dst (N := 10) rfl ?_); (try (refine gate_guard (by rfl) ?_; dsimp only)); refine box_event ?hg (N := 10) ?hd (cs := #[.int .i64 0, .int .i64 0]) (t := 47) ?hr ?_; (case hd => rfl); (case hg => rfl); (case hr => first | (go_simp; done) | (go_simp; rfl)); intro gb147 hg w58 hbox hb; have BK147 := Aside0.mk (hbox); have GW147 := bgw_ HB hg; have GE147 := bgw_ HB hg; have NB133_147 := bnl_ BK133 hg; have NB147_133 := bng_ BK133 hg; have NB134_147 := bnl_ BK134 hg; have NB147_134 := bng_ BK134 hg; replace BK133 := bkb_ BK133 hb; replace BK134 := bkb_ BK134 hb; replace HB := bls_ HB hb; clear hb hbox hg; have hnb59 := NB147_133.out; have hnc59 := NB133_147.out; have hnb60 := NB147_134.out; have hnc60 := NB134_147.out; have hcz61_0 := bkc_ BK147 0 (.int .i64 0) rfl; have hcz61_1 := bkc_ BK147 1 (.int .i64 0) rfl; have hfz61_0 := blk_frozen BK147.out 0; have hfz61_1 := blk_frozen BK147.out 1; have p148 : 0 ≤ (x63_4 : Int) := of_decide_eq_true (by first | (with_reducible assumption) | assumption); have q148 : x63_4 < (l2.length : Int) := of_decide_eq_true (by first | (with_reducible assumption) | assumption); obtain ⟨ad148, e148, hx148_0, hx148_1⟩ := at_T47 HR2.out x63_4 p148 q148; cases e148; have hn148_0 : ad148.block ≠ gb147 := Nat.ne_of_lt (Nat.lt_of_lt_of_le (by have := World.block_lt_of_cell? _ _ hx148_0; first | rwa [add_block] at this | exact this) GW147.out); have hn148_1 : ad148.block ≠ gb147 := Nat.ne_of_lt (Nat.lt_of_lt_of_le (by have := World.block_lt_of_cell? _ _ hx148_0; first | rwa [add_block] at this | exact this) GW147.out); replace hx148_0 := (HB.out.cell (World.block_lt_of_cell? w _ hx148_0)).trans hx148_0; replace hx148_1 := (HB.out.cell (World.block_lt_of_cell? w _ hx148_1)).trans hx148_1; replace hx148_0 := (cell_far (p := ⟨gb147, 0, none⟩) (by first | (rw [add_block]; exact hn148_0) | (show (Addr.add _ _).block ≠ _; rw [add_block]; exact hn148_0) | exact hn148_0) (.int .i64 ((rd_T47 y142 x63_4).f0))).trans hx148_0; replace hx148_1 := (cell_far (p := ⟨gb147, 0, none⟩) (by first | (rw [add_block]; exact hn148_0) | (show (Addr.add _ _).block ≠ _; rw [add_block]; exact hn148_0) | exact hn148_0) (.int .i64 ((rd_T47 y142 x63_4).f0))).trans hx148_1; replace hx148_0 := (cell_far (p := ⟨gb147, 1, none⟩) (by first | (rw [add_block]; exact hn148_1) | (show (Addr.add _ _).block ≠ _; rw [add_block]; exact hn148_1) | exact hn148_1) (.int .i64 ((rd_T47 y142 x63_4).f1))).trans hx148_0; replace hx148_1 := (cell_far (p := ⟨gb147, 1, none⟩) (by first | (rw [add_block]; exact hn148_1) | (show (Addr.add _ _).block ≠ _; rw [add_block]; exact hn148_1) | exact hn148_1) (.int .i64 ((rd_T47 y142 x63_4).f1))).trans hx148_1; (try have hy148_0 := fun (n_ : Nat) => (show ((((w58.drewN n_).setCell ⟨gb147, 0, none⟩ (.int .i64 ((rd_T47 y142 x63_4).f0))).setCell ⟨gb147, 1, none⟩ (.int .i64 ((rd_T47 y142 x63_4).f1)))).cell? _ = some _ from hx148_0)); (try have hy148_1 := fun (n_ : Nat) => (show ((((w58.drewN n_).setCell ⟨gb147, 0, none⟩ (.int .i64 ((rd_T47 y142 x63_4).f0))).setCell ⟨gb147, 1, none⟩ (.int .i64 ((rd_T47 y142 x63_4).f1)))).cell? _ = some _ from hx148_1)); clear hn148_0; clear hn148_1; replace p148 := eq_true p148; replace q148 := eq_true q148)))
                               go_roundg k4
                               case measure => have := HJ3.out; have := HK2.out; have := HJ35.out; have := HK4.out; omega
                               case rel => exact ⟨(wrap64 (x63_4 + 1)), (by first | rfl | (simp; done) | (simp [*]; done)), H', ⟨by have := HJ3.out; have := HK2.out; have := HJ35.out; have := HK4.out; omega⟩, bkx_ BK133, bkx_ BK134, blx_ HB⟩
                           · rw [if_neg c52] at H
                             exact absurd H (by simp)
                         · rw [if_neg c51] at H
                           exact absurd H (by simp)
                       · rw [if_neg c50] at H
                         exact absurd H (by simp)
                     · rw [if_neg c49] at H
                       have c49b0 : decide (x63_4 < (y142.length : Int)) = false := decide_eq_false c49
                       clear c49
                       have H' := Aside0.mk H
                       clear H
                       go_wp2
                       repeat (go_quiet (fail); try go_wp2)
                       go_loopg [79] k4 (fun kq v79 w' => ∃ (x79_5 : Int), v79 = .int .i64 x79_5 ∧ Aside0 (punch_Holds.l2 kq l2 l2 (l2.length : Int) x79_5 a0_0 a0_1 a0_2 a0_3 a0_4 = some r) ∧ Aside0 (kq ≤ k4) ∧ Aside0 (w'.heap[gb133]? = some (.cells #[.int .i64 a0_0, .int .i64 a0_1, .int .i64 a0_2, .int .i64 a0_3, .int .i64 a0_4] 57 (0, 0))) ∧ Aside0 (w'.heap[gb134]? = some (.cells #[.int .i64 a1_0, .int .i64 a1_1] 47 (0, 0))) ∧ Aside0 (Below w.heap.size w w'))
                       case atStart => exact ⟨(0), (by first | rfl | (simp; done) | (simp [*]; done)), H', ⟨Nat.le_refl _⟩, bkx_ BK133, bkx_ BK134, blx_ HB⟩
                       case round =>
                        clear H'
                        try clear c1
                        try clear p1
                        try clear q1
                        try clear hx1
                        try clear qi1
                        try clear c2
                        try clear p2
                        try clear c3
                        try clear c4
                        try clear q4
                        try clear c5
                        try clear c6
                        try clear p6
                        try clear c8
                        try clear c10
                        try clear p13
                        try clear q13
                        try clear hx13
                        try clear p14
                        try clear q14
                        try clear hx14
                        try clear qi14
                        try clear c15
                        try clear c18
                        try clear c19
                        try clear c19b0
                        try clear c19b1
                        try clear c20
                        try clear c20b0
                        try clear c20b1
                        try clear c20b2
                        try clear c21
                        try clear c21b0
                        try clear c22
                        try clear c22b0
                        try clear c23
                        try clear c23b0
                        try clear c25
                        try clear c27
                        try clear c28
                        try clear c32
                        try clear c33
                        try clear c35
                        try clear c37
                        try clear c37b0
                        try clear c37b1
                        try clear c38
                        try clear c38b0
                        try clear c38b1
                        try clear c40
                        try clear c40b0
                        try clear c41
                        try clear c41b0
                        try clear c42
                        try clear c44
                        try clear c46
                        try clear c47
                        try clear c47b0
                        try clear c47b1
                        try clear c48
                        try clear q48
                        try clear c49
                        try clear c49b0
                        try clear c50
                        try clear c50b0
                        try clear c51
                        try clear c51b0
                        try clear c52
                        try clear c52b0
                        try clear c53
                        try clear c53b0
                        try clear c55
                        try clear c56
                        try clear c59
                        try clear c60
                        try clear hcz11_0
                        try clear hcz11_1
                        try clear hcz11_2
                        try clear hcz11_3
                        try clear hcz11_4
                        try clear hcz13_0
                        try clear hcz13_1
                        try clear hcz16_0
                        try clear hcz16_1
                        try clear hcz16_2
                        try clear hcz16_3
                        try clear hcz16_4
                        try clear hcz29_0
                        try clear hcz29_1
                        try clear hcz34_0
                        try clear hcz34_1
                        try clear hcz43_0
                        try clear hcz43_1
                        try clear hcz45_0
                        try clear hcz45_1
                        try clear hcz57_0
                        try clear hcz57_1
                        try clear hcz61_0
                        try clear hcz61_1
                        try clear hfz11_0
                        try clear hfz11_1
                        try clear hfz11_2
                        try clear hfz11_3
                        try clear hfz11_4
                        try clear hfz13_0
                        try clear hfz13_1
                        try clear hfz16_0
                        try clear hfz16_1
                        try clear hfz16_2
                        try clear hfz16_3
                        try clear hfz16_4
                        try clear hfz29_0
                        try clear hfz29_1
                        try clear hfz34_0
                        try clear hfz34_1
                        try clear hfz43_0
                        try clear hfz43_1
                        try clear hfz45_0
                        try clear hfz45_1
                        try clear hfz57_0
                        try clear hfz57_1
                        try clear hfz61_0
                        try clear hfz61_1
                        try clear hx137_0
                        try clear hx137_1
                        try clear hx140_0
                        try clear hx140_1
                        try clear hx141_0
                        try clear hx141_1
                        try clear hx146_0
                        try clear hx146_1
                        try clear hx148_0
                        try clear hx148_1
                        try clear p1
                        try clear p13
                        try clear p137
                        try clear p14
                        try clear p140
                        try clear p141
                        try clear p146
                        try clear p148
                        try clear p2
                        try clear p6
                        try clear q1
                        try clear q13
                        try clear q137
                        try clear q14
                        try clear q140
                        try clear q141
                        try clear q146
                        try clear q148
                        try clear q4
                        try clear q48
                        obtain ⟨x79_5, rfl, HA, HK5, BK133, BK134, HB⟩ := hrel
                        cases gk with
                        | zero => exact absurd HA.out (by simp [punch_Holds.l2])
                        | succ k5 =>
                         have H := HA.out
                         clear HA
                         simp only [punch_Holds.l2] at H
                         by_cases c62 : x79_5 < (l2.length : Int)
                         · rw [if_pos c62] at H
                           have c62b0 : decide (x79_5 < (l2.length : Int)) = true := decide_eq_true c62
                           clear c62
                           by_cases c63 : 0 ≤ x79_5
                           · rw [if_pos c63] at H
                             have c63b0 : decide (0 ≤ x79_5) = true := decide_eq_true c63
                             clear c63
                             by_cases c64 : x79_5 < (l2.length : Int)
                             · rw [if_pos c64] at H
                               have c64b0 : decide (x79_5 < (l2.length : Int)) = true := decide_eq_true c64
                               clear c64
                               by_cases c65 : (wrap64 ((wrap64 (((rd_T47 l2 x79_5).f1) - ((rd_T47 l2 x79_5).f0))) * a0_1)) > (wrap64 (1000 * a0_2))
                               · rw [if_pos c65] at H
                                 have c65b0 : decide ((wrap64 (1000 * a0_2)) < (wrap64 ((wrap64 (((rd_T47 l2 x79_5).f1) - ((rd_T47 l2 x79_5).f0))) * a0_1))) = true := decide_eq_true c65
                                 clear c65
                                 obtain rfl := Option.some.inj H
                                 have p149 : 0 ≤ (x79_5 : Int) := of_decide_eq_true (by first | (with_reducible assumption) | assumption)
                                 have q149 : x79_5 < (l2.length : Int) := of_decide_eq_true (by first | (with_reducible assumption) | assumption)
                                 obtain ⟨ad149, e149, hx149_0, hx149_1⟩ := at_T47 HR2.out x79_5 p149 q149
                                 cases e149
                                 replace hx149_0 := (HB.out.cell (World.block_lt_of_cell? w _ hx149_0)).trans hx149_0
                                 replace hx149_1 := (HB.out.cell (World.block_lt_of_cell? w _ hx149_1)).trans hx149_1
                                 replace p149 := eq_true p149
                                 replace q149 := eq_true q149
                                 go_wp2_with (first | ((with_reducible refine gate_dst (N := 12) rfl ?_); (try (refine gate_guard (by rfl) ?_; dsimp only)); refine box_event ?hg (N := 12) ?hd (cs := #[.int .i64 0, .int .i64 0]) (t := 47) ?hr ?_; (case hd => rfl); (case hg => rfl); (case hr => first | (go_simp; done) | (go_simp; rfl)); intro gb150 hg w66 hbox hb; have BK150 := Aside0.mk (hbox); have GW150 := bgw_ HB hg; have GE150 := bgw_ HB hg; have NB133_150 := bnl_ BK133 hg; have NB150_133 := bng_ BK133 hg; have NB134_150 := bnl_ BK134 hg; have NB150_134 := bng_ BK134 hg; replace BK133 := bkb_ BK133 hb; replace BK134 := bkb_ BK134 hb; replace HB := bls_ HB hb; clear hb hbox hg; have hnb67 := NB150_133.out; have hnc67 := NB133_150.out; have hnb68 := NB150_134.out; have hnc68 := NB134_150.out; have hcz69_0 := bkc_ BK150 0 (.int .i64 0) rfl; have hcz69_1 := bkc_ BK150 1 (.int .i64 0) rfl; have hfz69_0 := blk_frozen BK150.out 0; have hfz69_1 := blk_frozen BK150.out 1; have hnb70 := NB133_134.out; have hnc70 := NB134_133.out; have hcz71_0 := bkc_ BK133 0 (.int .i64 a0_0) rfl; have hcz71_1 := bkc_ BK133 1 (.int .i64 a0_1) rfl; have hcz71_2 := bkc_ BK133 2 (.int .i64 a0_2) rfl; have hcz71_3 := bkc_ BK133 3 (.int .i64 a0_3) rfl; have hcz71_4 := bkc_ BK133 4 (.int .i64 a0_4) rfl; have hfz71_0 := blk_frozen BK133.out 0; have hfz71_1 := blk_frozen BK133.out 1; have hfz71_2 := blk_frozen BK133.out 2; have hfz71_3 := blk_frozen BK133.out 3; have hfz71_4 := blk_frozen BK133.out 4))
                                 repeat (go_quiet (first | ((with_reducible refine gate_dst (N := 12) rfl ?_); (try (refine gate_guard (by rfl) ?_; dsimp only)); refine box_event ?hg (N := 12) ?hd (cs := #[.int .i64 0, .int .i64 0]) (t := 47) ?hr ?_; (case hd => rfl); (case hg => rfl); (case hr => first | (go_simp; done) | (go_simp; rfl)); intro gb150 hg w66 hbox hb; have BK150 := Aside0.mk (hbox); have GW150 := bgw_ HB hg; have GE150 := bgw_ HB hg; have NB133_150 := bnl_ BK133 hg; have NB150_133 := bng_ BK133 hg; have NB134_150 := bnl_ BK134 hg; have NB150_134 := bng_ BK134 hg; replace BK133 := bkb_ BK133 hb; replace BK134 := bkb_ BK134 hb; replace HB := bls_ HB hb; clear hb hbox hg; have hnb67 := NB150_133.out; have hnc67 := NB133_150.out; have hnb68 := NB150_134.out; have hnc68 := NB134_150.out; have hcz69_0 := bkc_ BK150 0 (.int .i64 0) rfl; have hcz69_1 := bkc_ BK150 1 (.int .i64 0) rfl; have hfz69_0 := blk_frozen BK150.out 0; have hfz69_1 := blk_frozen BK150.out 1; have hnb70 := NB133_134.out; have hnc70 := NB134_133.out; have hcz71_0 := bkc_ BK133 0 (.int .i64 a0_0) rfl; have hcz71_1 := bkc_ BK133 1 (.int .i64 a0_1) rfl; have hcz71_2 := bkc_ BK133 2 (.int .i64 a0_2) rfl; have hcz71_3 := bkc_ BK133 3 (.int .i64 a0_3) rfl; have hcz71_4 := bkc_ BK133 4 (.int .i64 a0_4) rfl; have hfz71_0 := blk_frozen BK133.out 0; have hfz71_1 := blk_frozen BK133.out 1; have hfz71_2 := blk_frozen BK133.out 2; have hfz71_3 := blk_frozen BK133.out 3; have hfz71_4 := blk_frozen BK133.out 4)); try go_wp2_with (first | ((with_reducible refine gate_dst (N := 12) rfl ?_); (try (refine gate_guard (by rfl) ?_; dsimp only)); refine box_event ?hg (N := 12) ?hd (cs := #[.int .i64 0, .int .i64 0]) (t := 47) ?hr ?_; (case hd => rfl); (case hg => rfl); (case hr => first | (go_simp; done) | (go_simp; rfl)); intro gb150 hg w66 hbox hb; have BK150 := Aside0.mk (hbox); have GW150 := bgw_ HB hg; have GE150 := bgw_ HB hg; have NB133_150 := bnl_ BK133 hg; have NB150_133 := bng_ BK133 hg; have NB134_150 := bnl_ BK134 hg; have NB150_134 := bng_ BK134 hg; replace BK133 := bkb_ BK133 hb; replace BK134 := bkb_ BK134 hb; replace HB := bls_ HB hb; clear hb hbox hg; have hnb67 := NB150_133.out; have hnc67 := NB133_150.out; have hnb68 := NB150_134.out; have hnc68 := NB134_150.out; have hcz69_0 := bkc_ BK150 0 (.int .i64 0) rfl; have hcz69_1 := bkc_ BK150 1 (.int .i64 0) rfl; have hfz69_0 := blk_frozen BK150.out 0; have hfz69_1 := blk_frozen BK150.out 1; have hnb70 := NB133_134.out; have hnc70 := NB134_133.out; have hcz71_0 := bkc_ BK133 0 (.int .i64 a0_0) rfl; have hcz71_1 := bkc_ BK133 1 (.int .i64 a0_1) rfl; have hcz71_2 := bkc_ BK133 2 (.int .i64 a0_2) rfl; have hcz71_3 := bkc_ BK133 3 (.int .i64 a0_3) rfl; have hcz71_4 := bkc_ BK133 4 (.int .i64 a0_4) rfl; have hfz71_0 := blk_frozen BK133.out 0; have hfz71_1 := blk_frozen BK133.out 1; have hfz71_2 := blk_frozen BK133.out 2; have hfz71_3 := blk_frozen BK133.out 3; have hfz71_4 := blk_frozen BK133.out 4)))
                                 go_ret
                                 exact ⟨by first | rfl | (simp [errW_none, errW_some] <;> rfl) | (simp [*, errW_none, errW_some] <;> rfl), by repeat (first | (with_reducible first | exact HB.out | apply below_alloc | apply pw_below_drewN | apply below_drew1 | refine below_set ?_ GE133.out | refine below_set ?_ GE134.out | refine below_set ?_ GE150.out) | exact HB.out)⟩
                               · rw [if_neg c65] at H
                                 have c65b0 : decide ((wrap64 (1000 * a0_2)) < (wrap64 ((wrap64 (((rd_T47 l2 x79_5).f1) - ((rd_T47 l2 x79_5).f0))) * a0_1))) = false := decide_eq_false c65
                                 clear c65
                                 by_cases c72 : x79_5 = 0
                                 · rw [if_pos c72] at H
                                   have c72b0 : (x79_5 == 0) = true := beq_iff_eq.mpr c72
                                   have c72b1 : (x79_5 != 0) = false := bne_eq_false_iff_eq.mpr c72
                                   clear c72
                                   have H' := Aside0.mk H
                                   clear H
                                   have p149 : 0 ≤ (x79_5 : Int) := of_decide_eq_true (by first | (with_reducible assumption) | assumption)
                                   have q149 : x79_5 < (l2.length : Int) := of_decide_eq_true (by first | (with_reducible assumption) | assumption)
                                   obtain ⟨ad149, e149, hx149_0, hx149_1⟩ := at_T47 HR2.out x79_5 p149 q149
                                   cases e149
                                   replace hx149_0 := (HB.out.cell (World.block_lt_of_cell? w _ hx149_0)).trans hx149_0
                                   replace hx149_1 := (HB.out.cell (World.block_lt_of_cell? w _ hx149_1)).trans hx149_1
                                   replace p149 := eq_true p149
                                   replace q149 := eq_true q149
                                   go_wp2_with (first | ((with_reducible refine gate_dst (N := 12) rfl ?_); (try (refine gate_guard (by rfl) ?_; dsimp only)); refine box_event ?hg (N := 12) ?hd (cs := #[.int .i64 0, .int .i64 0]) (t := 47) ?hr ?_; (case hd => rfl); (case hg => rfl); (case hr => first | (go_simp; done) | (go_simp; rfl)); intro gb150 hg w73 hbox hb; have BK150 := Aside0.mk (hbox); have GW150 := bgw_ HB hg; have GE150 := bgw_ HB hg; have NB133_150 := bnl_ BK133 hg; have NB150_133 := bng_ BK133 hg; have NB134_150 := bnl_ BK134 hg; have NB150_134 := bng_ BK134 hg; replace BK133 := bkb_ BK133 hb; replace BK134 := bkb_ BK134 hb; replace HB := bls_ HB hb; clear hb hbox hg; have hnb74 := NB150_133.out; have hnc74 := NB133_150.out; have hnb75 := NB150_134.out; have hnc75 := NB134_150.out; have hcz76_0 := bkc_ BK150 0 (.int .i64 0) rfl; have hcz76_1 := bkc_ BK150 1 (.int .i64 0) rfl; have hfz76_0 := blk_frozen BK150.out 0; have hfz76_1 := blk_frozen BK150.out 1; have hnb77 := NB133_134.out; have hnc77 := NB134_133.out; have hcz78_0 := bkc_ BK133 0 (.int .i64 a0_0) rfl; have hcz78_1 := bkc_ BK133 1 (.int .i64 a0_1) rfl; have hcz78_2 := bkc_ BK133 2 (.int .i64 a0_2) rfl; have hcz78_3 := bkc_ BK133 3 (.int .i64 a0_3) rfl; have hcz78_4 := bkc_ BK133 4 (.int .i64 a0_4) rfl; have hfz78_0 := blk_frozen BK133.out 0; have hfz78_1 := blk_frozen BK133.out 1; have hfz78_2 := blk_frozen BK133.out 2; have hfz78_3 := blk_frozen BK133.out 3; have hfz78_4 := blk_frozen BK133.out 4))
                                   repeat (go_quiet (first | ((with_reducible refine gate_dst (N := 12) rfl ?_); (try (refine gate_guard (by rfl) ?_; dsimp only)); refine box_event ?hg (N := 12) ?hd (cs := #[.int .i64 0, .int .i64 0]) (t := 47) ?hr ?_; (case hd => rfl); (case hg => rfl); (case hr => first | (go_simp; done) | (go_simp; rfl)); intro gb150 hg w73 hbox hb; have BK150 := Aside0.mk (hbox); have GW150 := bgw_ HB hg; have GE150 := bgw_ HB hg; have NB133_150 := bnl_ BK133 hg; have NB150_133 := bng_ BK133 hg; have NB134_150 := bnl_ BK134 hg; have NB150_134 := bng_ BK134 hg; replace BK133 := bkb_ BK133 hb; replace BK134 := bkb_ BK134 hb; replace HB := bls_ HB hb; clear hb hbox hg; have hnb74 := NB150_133.out; have hnc74 := NB133_150.out; have hnb75 := NB150_134.out; have hnc75 := NB134_150.out; have hcz76_0 := bkc_ BK150 0 (.int .i64 0) rfl; have hcz76_1 := bkc_ BK150 1 (.int .i64 0) rfl; have hfz76_0 := blk_frozen BK150.out 0; have hfz76_1 := blk_frozen BK150.out 1; have hnb77 := NB133_134.out; have hnc77 := NB134_133.out; have hcz78_0 := bkc_ BK133 0 (.int .i64 a0_0) rfl; have hcz78_1 := bkc_ BK133 1 (.int .i64 a0_1) rfl; have hcz78_2 := bkc_ BK133 2 (.int .i64 a0_2) rfl; have hcz78_3 := bkc_ BK133 3 (.int .i64 a0_3) rfl; have hcz78_4 := bkc_ BK133 4 (.int .i64 a0_4) rfl; have hfz78_0 := blk_frozen BK133.out 0; have hfz78_1 := blk_frozen BK133.out 1; have hfz78_2 := blk_frozen BK133.out 2; have hfz78_3 := blk_frozen BK133.out 3; have hfz78_4 := blk_frozen BK133.out 4)); try go_wp2_with (first | ((with_reducible refine gate_dst (N := 12) rfl ?_); (try (refine gate_guard (by rfl) ?_; dsimp only)); refine box_event ?hg (N := 12) ?hd (cs := #[.int .i64 0, .int .i64 0]) (t := 47) ?hr ?_; (case hd => rfl); (case hg => rfl); (case hr => first | (go_simp; done) | (go_simp; rfl)); intro gb150 hg w73 hbox hb; have BK150 := Aside0.mk (hbox); have GW150 := bgw_ HB hg; have GE150 := bgw_ HB hg; have NB133_150 := bnl_ BK133 hg; have NB150_133 := bng_ BK133 hg; have NB134_150 := bnl_ BK134 hg; have NB150_134 := bng_ BK134 hg; replace BK133 := bkb_ BK133 hb; replace BK134 := bkb_ BK134 hb; replace HB := bls_ HB hb; clear hb hbox hg; have hnb74 := NB150_133.out; have hnc74 := NB133_150.out; have hnb75 := NB150_134.out; have hnc75 := NB134_150.out; have hcz76_0 := bkc_ BK150 0 (.int .i64 0) rfl; have hcz76_1 := bkc_ BK150 1 (.int .i64 0) rfl; have hfz76_0 := blk_frozen BK150.out 0; have hfz76_1 := blk_frozen BK150.out 1; have hnb77 := NB133_134.out; have hnc77 := NB134_133.out; have hcz78_0 := bkc_ BK133 0 (.int .i64 a0_0) rfl; have hcz78_1 := bkc_ BK133 1 (.int .i64 a0_1) rfl; have hcz78_2 := bkc_ BK133 2 (.int .i64 a0_2) rfl; have hcz78_3 := bkc_ BK133 3 (.int .i64 a0_3) rfl; have hcz78_4 := bkc_ BK133 4 (.int .i64 a0_4) rfl; have hfz78_0 := blk_frozen BK133.out 0; have hfz78_1 := blk_frozen BK133.out 1; have hfz78_2 := blk_frozen BK133.out 2; have hfz78_3 := blk_frozen BK133.out 3; have hfz78_4 := blk_frozen BK133.out 4)))
                                   go_roundg k5
                                   case measure => have := HJ3.out; have := HK2.out; have := HJ35.out; have := HK4.out; have := HK5.out; omega
                                   case rel => exact ⟨(wrap64 (x79_5 + 1)), (by first | rfl | (simp; done) | (simp [*]; done)), H', ⟨by have := HJ3.out; have := HK2.out; have := HJ35.out; have := HK4.out; have := HK5.out; omega⟩, bkx_ BK133, bkx_ BK134, blx_ HB⟩
                                 · rw [if_neg c72] at H
                                   have c72b0 : (x79_5 == 0) = false := beq_eq_false_iff_ne.mpr c72
                                   have c72b1 : (x79_5 != 0) = true := bne_iff_ne.mpr c72
                                   obtain ⟨ji79, hji79⟩ : ∃ j_ : Int, (wrap64 (x79_5 - 1)) = j_ := ⟨_, rfl⟩
                                   replace H : (if 0 ≤ (ji79) then (if (ji79) < (l2.length : Int) then (if (wrap64 ((wrap64 (((rd_T47 l2 x79_5).f0) - ((rd_T47 l2 (ji79)).f1))) * a0_0)) < (wrap64 (1000 * a0_3)) then (some 21) else (if (wrap64 ((wrap64 (((rd_T47 l2 x79_5).f0) - ((rd_T47 l2 (ji79)).f1))) * a0_1)) ≥ (wrap64 (1000 * a0_4)) then (some 21) else (punch_Holds.l2 k5 l2 l2 (l2.length : Int) (wrap64 (x79_5 + 1)) a0_0 a0_1 a0_2 a0_3 a0_4))) else (none)) else (none)) = some r := by first | (rw [hji79] at H; exact H) | (simp only [hji79] at H ⊢; exact H)
                                   have hji79w : (IntKind.i64.wrap (x79_5 - 1)) = ji79 := (i64_w _).trans hji79
                                   by_cases c80 : 0 ≤ (ji79)
                                   · rw [if_pos c80] at H
                                     have c80b0 : decide (0 ≤ (ji79)) = true := decide_eq_true c80
                                     clear c80
                                     by_cases c81 : (ji79) < (l2.length : Int)
                                     · rw [if_pos c81] at H
                                       have c81b0 : decide ((ji79) < (l2.length : Int)) = true := decide_eq_true c81
                                       clear c81
                                       by_cases c82 : (wrap64 ((wrap64 (((rd_T47 l2 x79_5).f0) - ((rd_T47 l2 (ji79)).f1))) * a0_0)) < (wrap64 (1000 * a0_3))
                                       · rw [if_pos c82] at H
                                         have c82b0 : decide ((wrap64 ((wrap64 (((rd_T47 l2 x79_5).f0) - ((rd_T47 l2 (ji79)).f1))) * a0_0)) < (wrap64 (1000 * a0_3))) = true := decide_eq_true c82
                                         clear c82
                                         obtain rfl := Option.some.inj H
                                         have p149 : 0 ≤ (x79_5 : Int) := of_decide_eq_true (by first | (with_reducible assumption) | assumption)
                                         have q149 : x79_5 < (l2.length : Int) := of_decide_eq_true (by first | (with_reducible assumption) | assumption)
                                         obtain ⟨ad149, e149, hx149_0, hx149_1⟩ := at_T47 HR2.out x79_5 p149 q149
                                         cases e149
                                         replace hx149_0 := (HB.out.cell (World.block_lt_of_cell? w _ hx149_0)).trans hx149_0
                                         replace hx149_1 := (HB.out.cell (World.block_lt_of_cell? w _ hx149_1)).trans hx149_1
                                         replace p149 := eq_true p149
                                         replace q149 := eq_true q149
                                         go_wp2_with (first | ((with_reducible refine gate_dst (N := 12) rfl ?_); (try (refine gate_guard (by rfl) ?_; dsimp only)); refine box_event ?hg (N := 12) ?hd (cs := #[.int .i64 0, .int .i64 0]) (t := 47) ?hr ?_; (case hd => rfl); (case hg => rfl); (case hr => first | (go_simp; done) | (go_simp; rfl)); intro gb150 hg w83 hbox hb; have BK150 := Aside0.mk (hbox); have GW150 := bgw_ HB hg; have GE150 := bgw_ HB hg; have NB133_150 := bnl_ BK133 hg; have NB150_133 := bng_ BK133 hg; have NB134_150 := bnl_ BK134 hg; have NB150_134 := bng_ BK134 hg; replace BK133 := bkb_ BK133 hb; replace BK134 := bkb_ BK134 hb; replace HB := bls_ HB hb; clear hb hbox hg; have hnb84 := NB150_133.out; have hnc84 := NB133_150.out; have hnb85 := NB150_134.out; have hnc85 := NB134_150.out; have hcz86_0 := bkc_ BK150 0 (.int .i64 0) rfl; have hcz86_1 := bkc_ BK150 1 (.int .i64 0) rfl; have hfz86_0 := blk_frozen BK150.out 0; have hfz86_1 := blk_frozen BK150.out 1; have hnb87 := NB133_134.out; have hnc87 := NB134_133.out; have hcz88_0 := bkc_ BK133 0 (.int .i64 a0_0) rfl; have hcz88_1 := bkc_ BK133 1 (.int .i64 a0_1) rfl; have hcz88_2 := bkc_ BK133 2 (.int .i64 a0_2) rfl; have hcz88_3 := bkc_ BK133 3 (.int .i64 a0_3) rfl; have hcz88_4 := bkc_ BK133 4 (.int .i64 a0_4) rfl; have hfz88_0 := blk_frozen BK133.out 0; have hfz88_1 := blk_frozen BK133.out 1; have hfz88_2 := blk_frozen BK133.out 2; have hfz88_3 := blk_frozen BK133.out 3; have hfz88_4 := blk_frozen BK133.out 4; have p151 : 0 ≤ ((ji79) : Int) := of_decide_eq_true (by first | (with_reducible assumption) | assumption); have q151 : (ji79) < (l2.length : Int) := of_decide_eq_true (by first | (with_reducible assumption) | assumption); obtain ⟨ad151, e151, hx151_0, hx151_1⟩ := at_T47 HR2.out (ji79) p151 q151; obtain rfl : ad149 = ad151 := (by injection e151); have hn151_0 : ad149.block ≠ gb150 := Nat.ne_of_lt (Nat.lt_of_lt_of_le (by have := World.block_lt_of_cell? _ _ hx151_0; first | rwa [add_block] at this | exact this) GW150.out); have hn151_1 : ad149.block ≠ gb150 := Nat.ne_of_lt (Nat.lt_of_lt_of_le (by have := World.block_lt_of_cell? _ _ hx151_0; first | rwa [add_block] at this | exact this) GW150.out); replace hx151_0 := (HB.out.cell (World.block_lt_of_cell? w _ hx151_0)).trans hx151_0; replace hx151_1 := (HB.out.cell (World.block_lt_of_cell? w _ hx151_1)).trans hx151_1; replace hx151_0 := (cell_far (p := ⟨gb150, 0, none⟩) (by first | (rw [add_block]; exact hn151_0) | (show (Addr.add _ _).block ≠ _; rw [add_block]; exact hn151_0) | exact hn151_0) (.int .i64 ((rd_T47 l2 x79_5).f0))).trans hx151_0; replace hx151_1 := (cell_far (p := ⟨gb150, 0, none⟩) (by first | (rw [add_block]; exact hn151_0) | (show (Addr.add _ _).block ≠ _; rw [add_block]; exact hn151_0) | exact hn151_0) (.int .i64 ((rd_T47 l2 x79_5).f0))).trans hx151_1; replace hx151_0 := (cell_far (p := ⟨gb150, 1, none⟩) (by first | (rw [add_block]; exact hn151_1) | (show (Addr.add _ _).block ≠ _; rw [add_block]; exact hn151_1) | exact hn151_1) (.int .i64 ((rd_T47 l2 x79_5).f1))).trans hx151_0; replace hx151_1 := (cell_far (p := ⟨gb150, 1, none⟩) (by first | (rw [add_block]; exact hn151_1) | (show (Addr.add _ _).block ≠ _; rw [add_block]; exact hn151_1) | exact hn151_1) (.int .i64 ((rd_T47 l2 x79_5).f1))).trans hx151_1; (try have hy151_0 := fun (n_ : Nat) => (show ((((w83.drewN n_).setCell ⟨gb150, 0, none⟩ (.int .i64 ((rd_T47 l2 x79_5).f0))).setCell ⟨gb150, 1, none⟩ (.int .i64 ((rd_T47 l2 x79_5).f1)))).cell? _ = some _ from hx151_0)); (try have hy151_1 := fun (n_ : Nat) => (show ((((w83.drewN n_).setCell ⟨gb150, 0, none⟩ (.int .i64 ((rd_T47 l2 x79_5).f0))).setCell ⟨gb150, 1, none⟩ (.int .i64 ((rd_T47 l2 x79_5).f1)))).cell? _ = some _ from hx151_1)); clear hn151_0; clear hn151_1; replace p151 := eq_true p151; replace q151 := eq_true q151))
                                         repeat (go_quiet (first | ((with_reducible refine gate_dst (N := 12) rfl ?_); (try (refine gate_guard (by rfl) ?_; dsimp only)); refine box_event ?hg (N := 12) ?hd (cs := #[.int .i64 0, .int .i64 0]) (t := 47) ?hr ?_; (case hd => rfl); (case hg => rfl); (case hr => first | (go_simp; done) | (go_simp; rfl)); intro gb150 hg w83 hbox hb; have BK150 := Aside0.mk (hbox); have GW150 := bgw_ HB hg; have GE150 := bgw_ HB hg; have NB133_150 := bnl_ BK133 hg; have NB150_133 := bng_ BK133 hg; have NB134_150 := bnl_ BK134 hg; have NB150_134 := bng_ BK134 hg; replace BK133 := bkb_ BK133 hb; replace BK134 := bkb_ BK134 hb; replace HB := bls_ HB hb; clear hb hbox hg; have hnb84 := NB150_133.out; have hnc84 := NB133_150.out; have hnb85 := NB150_134.out; have hnc85 := NB134_150.out; have hcz86_0 := bkc_ BK150 0 (.int .i64 0) rfl; have hcz86_1 := bkc_ BK150 1 (.int .i64 0) rfl; have hfz86_0 := blk_frozen BK150.out 0; have hfz86_1 := blk_frozen BK150.out 1; have hnb87 := NB133_134.out; have hnc87 := NB134_133.out; have hcz88_0 := bkc_ BK133 0 (.int .i64 a0_0) rfl; have hcz88_1 := bkc_ BK133 1 (.int .i64 a0_1) rfl; have hcz88_2 := bkc_ BK133 2 (.int .i64 a0_2) rfl; have hcz88_3 := bkc_ BK133 3 (.int .i64 a0_3) rfl; have hcz88_4 := bkc_ BK133 4 (.int .i64 a0_4) rfl; have hfz88_0 := blk_frozen BK133.out 0; have hfz88_1 := blk_frozen BK133.out 1; have hfz88_2 := blk_frozen BK133.out 2; have hfz88_3 := blk_frozen BK133.out 3; have hfz88_4 := blk_frozen BK133.out 4; have p151 : 0 ≤ ((ji79) : Int) := of_decide_eq_true (by first | (with_reducible assumption) | assumption); have q151 : (ji79) < (l2.length : Int) := of_decide_eq_true (by first | (with_reducible assumption) | assumption); obtain ⟨ad151, e151, hx151_0, hx151_1⟩ := at_T47 HR2.out (ji79) p151 q151; obtain rfl : ad149 = ad151 := (by injection e151); have hn151_0 : ad149.block ≠ gb150 := Nat.ne_of_lt (Nat.lt_of_lt_of_le (by have := World.block_lt_of_cell? _ _ hx151_0; first | rwa [add_block] at this | exact this) GW150.out); have hn151_1 : ad149.block ≠ gb150 := Nat.ne_of_lt (Nat.lt_of_lt_of_le (by have := World.block_lt_of_cell? _ _ hx151_0; first | rwa [add_block] at this | exact this) GW150.out); replace hx151_0 := (HB.out.cell (World.block_lt_of_cell? w _ hx151_0)).trans hx151_0; replace hx151_1 := (HB.out.cell (World.block_lt_of_cell? w _ hx151_1)).trans hx151_1; replace hx151_0 := (cell_far (p := ⟨gb150, 0, none⟩) (by first | (rw [add_block]; exact hn151_0) | (show (Addr.add _ _).block ≠ _; rw [add_block]; exact hn151_0) | exact hn151_0) (.int .i64 ((rd_T47 l2 x79_5).f0))).trans hx151_0; replace hx151_1 := (cell_far (p := ⟨gb150, 0, none⟩) (by first | (rw [add_block]; exact hn151_0) | (show (Addr.add _ _).block ≠ _; rw [add_block]; exact hn151_0) | exact hn151_0) (.int .i64 ((rd_T47 l2 x79_5).f0))).trans hx151_1; replace hx151_0 := (cell_far (p := ⟨gb150, 1, none⟩) (by first | (rw [add_block]; exact hn151_1) | (show (Addr.add _ _).block ≠ _; rw [add_block]; exact hn151_1) | exact hn151_1) (.int .i64 ((rd_T47 l2 x79_5).f1))).trans hx151_0; replace hx151_1 := (cell_far (p := ⟨gb150, 1, none⟩) (by first | (rw [add_block]; exact hn151_1) | (show (Addr.add _ _).block ≠ _; rw [add_block]; exact hn151_1) | exact hn151_1) (.int .i64 ((rd_T47 l2 x79_5).f1))).trans hx151_1; (try have hy151_0 := fun (n_ : Nat) => (show ((((w83.drewN n_).setCell ⟨gb150, 0, none⟩ (.int .i64 ((rd_T47 l2 x79_5).f0))).setCell ⟨gb150, 1, none⟩ (.int .i64 ((rd_T47 l2 x79_5).f1)))).cell? _ = some _ from hx151_0)); (try have hy151_1 := fun (n_ : Nat) => (show ((((w83.drewN n_).setCell ⟨gb150, 0, none⟩ (.int .i64 ((rd_T47 l2 x79_5).f0))).setCell ⟨gb150, 1, none⟩ (.int .i64 ((rd_T47 l2 x79_5).f1)))).cell? _ = some _ from hx151_1)); clear hn151_0; clear hn151_1; replace p151 := eq_true p151; replace q151 := eq_true q151)); try go_wp2_with (first | ((with_reducible refine gate_dst (N := 12) rfl ?_); (try (refine gate_guard (by rfl) ?_; dsimp only)); refine box_event ?hg (N := 12) ?hd (cs := #[.int .i64 0, .int .i64 0]) (t := 47) ?hr ?_; (case hd => rfl); (case hg => rfl); (case hr => first | (go_simp; done) | (go_simp; rfl)); intro gb150 hg w83 hbox hb; have BK150 := Aside0.mk (hbox); have GW150 := bgw_ HB hg; have GE150 := bgw_ HB hg; have NB133_150 := bnl_ BK133 hg; have NB150_133 := bng_ BK133 hg; have NB134_150 := bnl_ BK134 hg; have NB150_134 := bng_ BK134 hg; replace BK133 := bkb_ BK133 hb; replace BK134 := bkb_ BK134 hb; replace HB := bls_ HB hb; clear hb hbox hg; have hnb84 := NB150_133.out; have hnc84 := NB133_150.out; have hnb85 := NB150_134.out; have hnc85 := NB134_150.out; have hcz86_0 := bkc_ BK150 0 (.int .i64 0) rfl; have hcz86_1 := bkc_ BK150 1 (.int .i64 0) rfl; have hfz86_0 := blk_frozen BK150.out 0; have hfz86_1 := blk_frozen BK150.out 1; have hnb87 := NB133_134.out; have hnc87 := NB134_133.out; have hcz88_0 := bkc_ BK133 0 (.int .i64 a0_0) rfl; have hcz88_1 := bkc_ BK133 1 (.int .i64 a0_1) rfl; have hcz88_2 := bkc_ BK133 2 (.int .i64 a0_2) rfl; have hcz88_3 := bkc_ BK133 3 (.int .i64 a0_3) rfl; have hcz88_4 := bkc_ BK133 4 (.int .i64 a0_4) rfl; have hfz88_0 := blk_frozen BK133.out 0; have hfz88_1 := blk_frozen BK133.out 1; have hfz88_2 := blk_frozen BK133.out 2; have hfz88_3 := blk_frozen BK133.out 3; have hfz88_4 := blk_frozen BK133.out 4; have p151 : 0 ≤ ((ji79) : Int) := of_decide_eq_true (by first | (with_reducible assumption) | assumption); have q151 : (ji79) < (l2.length : Int) := of_decide_eq_true (by first | (with_reducible assumption) | assumption); obtain ⟨ad151, e151, hx151_0, hx151_1⟩ := at_T47 HR2.out (ji79) p151 q151; obtain rfl : ad149 = ad151 := (by injection e151); have hn151_0 : ad149.block ≠ gb150 := Nat.ne_of_lt (Nat.lt_of_lt_of_le (by have := World.block_lt_of_cell? _ _ hx151_0; first | rwa [add_block] at this | exact this) GW150.out); have hn151_1 : ad149.block ≠ gb150 := Nat.ne_of_lt (Nat.lt_of_lt_of_le (by have := World.block_lt_of_cell? _ _ hx151_0; first | rwa [add_block] at this | exact this) GW150.out); replace hx151_0 := (HB.out.cell (World.block_lt_of_cell? w _ hx151_0)).trans hx151_0; replace hx151_1 := (HB.out.cell (World.block_lt_of_cell? w _ hx151_1)).trans hx151_1; replace hx151_0 := (cell_far (p := ⟨gb150, 0, none⟩) (by first | (rw [add_block]; exact hn151_0) | (show (Addr.add _ _).block ≠ _; rw [add_block]; exact hn151_0) | exact hn151_0) (.int .i64 ((rd_T47 l2 x79_5).f0))).trans hx151_0; replace hx151_1 := (cell_far (p := ⟨gb150, 0, none⟩) (by first | (rw [add_block]; exact hn151_0) | (show (Addr.add _ _).block ≠ _; rw [add_block]; exact hn151_0) | exact hn151_0) (.int .i64 ((rd_T47 l2 x79_5).f0))).trans hx151_1; replace hx151_0 := (cell_far (p := ⟨gb150, 1, none⟩) (by first | (rw [add_block]; exact hn151_1) | (show (Addr.add _ _).block ≠ _; rw [add_block]; exact hn151_1) | exact hn151_1) (.int .i64 ((rd_T47 l2 x79_5).f1))).trans hx151_0; replace hx151_1 := (cell_far (p := ⟨gb150, 1, none⟩) (by first | (rw [add_block]; exact hn151_1) | (show (Addr.add _ _).block ≠ _; rw [add_block]; exact hn151_1) | exact hn151_1) (.int .i64 ((rd_T47 l2 x79_5).f1))).trans hx151_1; (try have hy151_0 := fun (n_ : Nat) => (show ((((w83.drewN n_).setCell ⟨gb150, 0, none⟩ (.int .i64 ((rd_T47 l2 x79_5).f0))).setCell ⟨gb150, 1, none⟩ (.int .i64 ((rd_T47 l2 x79_5).f1)))).cell? _ = some _ from hx151_0)); (try have hy151_1 := fun (n_ : Nat) => (show ((((w83.drewN n_).setCell ⟨gb150, 0, none⟩ (.int .i64 ((rd_T47 l2 x79_5).f0))).setCell ⟨gb150, 1, none⟩ (.int .i64 ((rd_T47 l2 x79_5).f1)))).cell? _ = some _ from hx151_1)); clear hn151_0; clear hn151_1; replace p151 := eq_true p151; replace q151 := eq_true q151)))
                                         go_ret
                                         exact ⟨by first | rfl | (simp [errW_none, errW_some] <;> rfl) | (simp only [← hji79]; first | rfl | (simp [errW_none, errW_some] <;> rfl)) | (simp [*, errW_none, errW_some] <;> rfl), by repeat (first | (with_reducible first | exact HB.out | apply below_alloc | apply pw_below_drewN | apply below_drew1 | refine below_set ?_ GE133.out | refine below_set ?_ GE134.out | refine below_set ?_ GE150.out) | exact HB.out)⟩
                                       · rw [if_neg c82] at H
                                         have c82b0 : decide ((wrap64 ((wrap64 (((rd_T47 l2 x79_5).f0) - ((rd_T47 l2 (ji79)).f1))) * a0_0)) < (wrap64 (1000 * a0_3))) = false := decide_eq_false c82
                                         clear c82
                                         by_cases c89 : (wrap64 ((wrap64 (((rd_T47 l2 x79_5).f0) - ((rd_T47 l2 (ji79)).f1))) * a0_1)) ≥ (wrap64 (1000 * a0_4))
                                         · rw [if_pos c89] at H
                                           have c89b0 : decide ((wrap64 (1000 * a0_4)) ≤ (wrap64 ((wrap64 (((rd_T47 l2 x79_5).f0) - ((rd_T47 l2 (ji79)).f1))) * a0_1))) = true := decide_eq_true c89
                                           clear c89
                                           obtain rfl := Option.some.inj H
                                           have p149 : 0 ≤ (x79_5 : Int) := of_decide_eq_true (by first | (with_reducible assumption) | assumption)
                                           have q149 : x79_5 < (l2.length : Int) := of_decide_eq_true (by first | (with_reducible assumption) | assumption)
                                           obtain ⟨ad149, e149, hx149_0, hx149_1⟩ := at_T47 HR2.out x79_5 p149 q149
                                           cases e149
                                           replace hx149_0 := (HB.out.cell (World.block_lt_of_cell? w _ hx149_0)).trans hx149_0
                                           replace hx149_1 := (HB.out.cell (World.block_lt_of_cell? w _ hx149_1)).trans hx149_1
                                           replace p149 := eq_true p149
                                           replace q149 := eq_true q149
                                           go_wp2_with (first | ((with_reducible refine gate_dst (N := 12) rfl ?_); (try (refine gate_guard (by rfl) ?_; dsimp only)); refine box_event ?hg (N := 12) ?hd (cs := #[.int .i64 0, .int .i64 0]) (t := 47) ?hr ?_; (case hd => rfl); (case hg => rfl); (case hr => first | (go_simp; done) | (go_simp; rfl)); intro gb150 hg w90 hbox hb; have BK150 := Aside0.mk (hbox); have GW150 := bgw_ HB hg; have GE150 := bgw_ HB hg; have NB133_150 := bnl_ BK133 hg; have NB150_133 := bng_ BK133 hg; have NB134_150 := bnl_ BK134 hg; have NB150_134 := bng_ BK134 hg; replace BK133 := bkb_ BK133 hb; replace BK134 := bkb_ BK134 hb; replace HB := bls_ HB hb; clear hb hbox hg; have hnb91 := NB150_133.out; have hnc91 := NB133_150.out; have hnb92 := NB150_134.out; have hnc92 := NB134_150.out; have hcz93_0 := bkc_ BK150 0 (.int .i64 0) rfl; have hcz93_1 := bkc_ BK150 1 (.int .i64 0) rfl; have hfz93_0 := blk_frozen BK150.out 0; have hfz93_1 := blk_frozen BK150.out 1; have hnb94 := NB133_134.out; have hnc94 := NB134_133.out; have hcz95_0 := bkc_ BK133 0 (.int .i64 a0_0) rfl; have hcz95_1 := bkc_ BK133 1 (.int .i64 a0_1) rfl; have hcz95_2 := bkc_ BK133 2 (.int .i64 a0_2) rfl; have hcz95_3 := bkc_ BK133 3 (.int .i64 a0_3) rfl; have hcz95_4 := bkc_ BK133 4 (.int .i64 a0_4) rfl; have hfz95_0 := blk_frozen BK133.out 0; have hfz95_1 := blk_frozen BK133.out 1; have hfz95_2 := blk_frozen BK133.out 2; have hfz95_3 := blk_frozen BK133.out 3; have hfz95_4 := blk_frozen BK133.out 4; have p151 : 0 ≤ ((ji79) : Int) := of_decide_eq_true (by first | (with_reducible assumption) | assumption); have q151 : (ji79) < (l2.length : Int) := of_decide_eq_true (by first | (with_reducible assumption) | assumption); obtain ⟨ad151, e151, hx151_0, hx151_1⟩ := at_T47 HR2.out (ji79) p151 q151; obtain rfl : ad149 = ad151 := (by injection e151); have hn151_0 : ad149.block ≠ gb150 := Nat.ne_of_lt (Nat.lt_of_lt_of_le (by have := World.block_lt_of_cell? _ _ hx151_0; first | rwa [add_block] at this | exact this) GW150.out); have hn151_1 : ad149.block ≠ gb150 := Nat.ne_of_lt (Nat.lt_of_lt_of_le (by have := World.block_lt_of_cell? _ _ hx151_0; first | rwa [add_block] at this | exact this) GW150.out); replace hx151_0 := (HB.out.cell (World.block_lt_of_cell? w _ hx151_0)).trans hx151_0; replace hx151_1 := (HB.out.cell (World.block_lt_of_cell? w _ hx151_1)).trans hx151_1; replace hx151_0 := (cell_far (p := ⟨gb150, 0, none⟩) (by first | (rw [add_block]; exact hn151_0) | (show (Addr.add _ _).block ≠ _; rw [add_block]; exact hn151_0) | exact hn151_0) (.int .i64 ((rd_T47 l2 x79_5).f0))).trans hx151_0; replace hx151_1 := (cell_far (p := ⟨gb150, 0, none⟩) (by first | (rw [add_block]; exact hn151_0) | (show (Addr.add _ _).block ≠ _; rw [add_block]; exact hn151_0) | exact hn151_0) (.int .i64 ((rd_T47 l2 x79_5).f0))).trans hx151_1; replace hx151_0 := (cell_far (p := ⟨gb150, 1, none⟩) (by first | (rw [add_block]; exact hn151_1) | (show (Addr.add _ _).block ≠ _; rw [add_block]; exact hn151_1) | exact hn151_1) (.int .i64 ((rd_T47 l2 x79_5).f1))).trans hx151_0; replace hx151_1 := (cell_far (p := ⟨gb150, 1, none⟩) (by first | (rw [add_block]; exact hn151_1) | (show (Addr.add _ _).block ≠ _; rw [add_block]; exact hn151_1) | exact hn151_1) (.int .i64 ((rd_T47 l2 x79_5).f1))).trans hx151_1; (try have hy151_0 := fun (n_ : Nat) => (show ((((w90.drewN n_).setCell ⟨gb150, 0, none⟩ (.int .i64 ((rd_T47 l2 x79_5).f0))).setCell ⟨gb150, 1, none⟩ (.int .i64 ((rd_T47 l2 x79_5).f1)))).cell? _ = some _ from hx151_0)); (try have hy151_1 := fun (n_ : Nat) => (show ((((w90.drewN n_).setCell ⟨gb150, 0, none⟩ (.int .i64 ((rd_T47 l2 x79_5).f0))).setCell ⟨gb150, 1, none⟩ (.int .i64 ((rd_T47 l2 x79_5).f1)))).cell? _ = some _ from hx151_1)); clear hn151_0; clear hn151_1; replace p151 := eq_true p151; replace q151 := eq_true q151))
                                           repeat (go_quiet (first | ((with_reducible refine gate_dst (N := 12) rfl ?_); (try (refine gate_guard (by rfl) ?_; dsimp only)); refine box_event ?hg (N := 12) ?hd (cs := #[.int .i64 0, .int .i64 0]) (t := 47) ?hr ?_; (case hd => rfl); (case hg => rfl); (case hr => first | (go_simp; done) | (go_simp; rfl)); intro gb150 hg w90 hbox hb; have BK150 := Aside0.mk (hbox); have GW150 := bgw_ HB hg; have GE150 := bgw_ HB hg; have NB133_150 := bnl_ BK133 hg; have NB150_133 := bng_ BK133 hg; have NB134_150 := bnl_ BK134 hg; have NB150_134 := bng_ BK134 hg; replace BK133 := bkb_ BK133 hb; replace BK134 := bkb_ BK134 hb; replace HB := bls_ HB hb; clear hb hbox hg; have hnb91 := NB150_133.out; have hnc91 := NB133_150.out; have hnb92 := NB150_134.out; have hnc92 := NB134_150.out; have hcz93_0 := bkc_ BK150 0 (.int .i64 0) rfl; have hcz93_1 := bkc_ BK150 1 (.int .i64 0) rfl; have hfz93_0 := blk_frozen BK150.out 0; have hfz93_1 := blk_frozen BK150.out 1; have hnb94 := NB133_134.out; have hnc94 := NB134_133.out; have hcz95_0 := bkc_ BK133 0 (.int .i64 a0_0) rfl; have hcz95_1 := bkc_ BK133 1 (.int .i64 a0_1) rfl; have hcz95_2 := bkc_ BK133 2 (.int .i64 a0_2) rfl; have hcz95_3 := bkc_ BK133 3 (.int .i64 a0_3) rfl; have hcz95_4 := bkc_ BK133 4 (.int .i64 a0_4) rfl; have hfz95_0 := blk_frozen BK133.out 0; have hfz95_1 := blk_frozen BK133.out 1; have hfz95_2 := blk_frozen BK133.out 2; have hfz95_3 := blk_frozen BK133.out 3; have hfz95_4 := blk_frozen BK133.out 4; have p151 : 0 ≤ ((ji79) : Int) := of_decide_eq_true (by first | (with_reducible assumption) | assumption); have q151 : (ji79) < (l2.length : Int) := of_decide_eq_true (by first | (with_reducible assumption) | assumption); obtain ⟨ad151, e151, hx151_0, hx151_1⟩ := at_T47 HR2.out (ji79) p151 q151; obtain rfl : ad149 = ad151 := (by injection e151); have hn151_0 : ad149.block ≠ gb150 := Nat.ne_of_lt (Nat.lt_of_lt_of_le (by have := World.block_lt_of_cell? _ _ hx151_0; first | rwa [add_block] at this | exact this) GW150.out); have hn151_1 : ad149.block ≠ gb150 := Nat.ne_of_lt (Nat.lt_of_lt_of_le (by have := World.block_lt_of_cell? _ _ hx151_0; first | rwa [add_block] at this | exact this) GW150.out); replace hx151_0 := (HB.out.cell (World.block_lt_of_cell? w _ hx151_0)).trans hx151_0; replace hx151_1 := (HB.out.cell (World.block_lt_of_cell? w _ hx151_1)).trans hx151_1; replace hx151_0 := (cell_far (p := ⟨gb150, 0, none⟩) (by first | (rw [add_block]; exact hn151_0) | (show (Addr.add _ _).block ≠ _; rw [add_block]; exact hn151_0) | exact hn151_0) (.int .i64 ((rd_T47 l2 x79_5).f0))).trans hx151_0; replace hx151_1 := (cell_far (p := ⟨gb150, 0, none⟩) (by first | (rw [add_block]; exact hn151_0) | (show (Addr.add _ _).block ≠ _; rw [add_block]; exact hn151_0) | exact hn151_0) (.int .i64 ((rd_T47 l2 x79_5).f0))).trans hx151_1; replace hx151_0 := (cell_far (p := ⟨gb150, 1, none⟩) (by first | (rw [add_block]; exact hn151_1) | (show (Addr.add _ _).block ≠ _; rw [add_block]; exact hn151_1) | exact hn151_1) (.int .i64 ((rd_T47 l2 x79_5).f1))).trans hx151_0; replace hx151_1 := (cell_far (p := ⟨gb150, 1, none⟩) (by first | (rw [add_block]; exact hn151_1) | (show (Addr.add _ _).block ≠ _; rw [add_block]; exact hn151_1) | exact hn151_1) (.int .i64 ((rd_T47 l2 x79_5).f1))).trans hx151_1; (try have hy151_0 := fun (n_ : Nat) => (show ((((w90.drewN n_).setCell ⟨gb150, 0, none⟩ (.int .i64 ((rd_T47 l2 x79_5).f0))).setCell ⟨gb150, 1, none⟩ (.int .i64 ((rd_T47 l2 x79_5).f1)))).cell? _ = some _ from hx151_0)); (try have hy151_1 := fun (n_ : Nat) => (show ((((w90.drewN n_).setCell ⟨gb150, 0, none⟩ (.int .i64 ((rd_T47 l2 x79_5).f0))).setCell ⟨gb150, 1, none⟩ (.int .i64 ((rd_T47 l2 x79_5).f1)))).cell? _ = some _ from hx151_1)); clear hn151_0; clear hn151_1; replace p151 := eq_true p151; replace q151 := eq_true q151)); try go_wp2_with (first | ((with_reducible refine gate_dst (N := 12) rfl ?_); (try (refine gate_guard (by rfl) ?_; dsimp only)); refine box_event ?hg (N := 12) ?hd (cs := #[.int .i64 0, .int .i64 0]) (t := 47) ?hr ?_; (case hd => rfl); (case hg => rfl); (case hr => first | (go_simp; done) | (go_simp; rfl)); intro gb150 hg w90 hbox hb; have BK150 := Aside0.mk (hbox); have GW150 := bgw_ HB hg; have GE150 := bgw_ HB hg; have NB133_150 := bnl_ BK133 hg; have NB150_133 := bng_ BK133 hg; have NB134_150 := bnl_ BK134 hg; have NB150_134 := bng_ BK134 hg; replace BK133 := bkb_ BK133 hb; replace BK134 := bkb_ BK134 hb; replace HB := bls_ HB hb; clear hb hbox hg; have hnb91 := NB150_133.out; have hnc91 := NB133_150.out; have hnb92 := NB150_134.out; have hnc92 := NB134_150.out; have hcz93_0 := bkc_ BK150 0 (.int .i64 0) rfl; have hcz93_1 := bkc_ BK150 1 (.int .i64 0) rfl; have hfz93_0 := blk_frozen BK150.out 0; have hfz93_1 := blk_frozen BK150.out 1; have hnb94 := NB133_134.out; have hnc94 := NB134_133.out; have hcz95_0 := bkc_ BK133 0 (.int .i64 a0_0) rfl; have hcz95_1 := bkc_ BK133 1 (.int .i64 a0_1) rfl; have hcz95_2 := bkc_ BK133 2 (.int .i64 a0_2) rfl; have hcz95_3 := bkc_ BK133 3 (.int .i64 a0_3) rfl; have hcz95_4 := bkc_ BK133 4 (.int .i64 a0_4) rfl; have hfz95_0 := blk_frozen BK133.out 0; have hfz95_1 := blk_frozen BK133.out 1; have hfz95_2 := blk_frozen BK133.out 2; have hfz95_3 := blk_frozen BK133.out 3; have hfz95_4 := blk_frozen BK133.out 4; have p151 : 0 ≤ ((ji79) : Int) := of_decide_eq_true (by first | (with_reducible assumption) | assumption); have q151 : (ji79) < (l2.length : Int) := of_decide_eq_true (by first | (with_reducible assumption) | assumption); obtain ⟨ad151, e151, hx151_0, hx151_1⟩ := at_T47 HR2.out (ji79) p151 q151; obtain rfl : ad149 = ad151 := (by injection e151); have hn151_0 : ad149.block ≠ gb150 := Nat.ne_of_lt (Nat.lt_of_lt_of_le (by have := World.block_lt_of_cell? _ _ hx151_0; first | rwa [add_block] at this | exact this) GW150.out); have hn151_1 : ad149.block ≠ gb150 := Nat.ne_of_lt (Nat.lt_of_lt_of_le (by have := World.block_lt_of_cell? _ _ hx151_0; first | rwa [add_block] at this | exact this) GW150.out); replace hx151_0 := (HB.out.cell (World.block_lt_of_cell? w _ hx151_0)).trans hx151_0; replace hx151_1 := (HB.out.cell (World.block_lt_of_cell? w _ hx151_1)).trans hx151_1; replace hx151_0 := (cell_far (p := ⟨gb150, 0, none⟩) (by first | (rw [add_block]; exact hn151_0) | (show (Addr.add _ _).block ≠ _; rw [add_block]; exact hn151_0) | exact hn151_0) (.int .i64 ((rd_T47 l2 x79_5).f0))).trans hx151_0; replace hx151_1 := (cell_far (p := ⟨gb150, 0, none⟩) (by first | (rw [add_block]; exact hn151_0) | (show (Addr.add _ _).block ≠ _; rw [add_block]; exact hn151_0) | exact hn151_0) (.int .i64 ((rd_T47 l2 x79_5).f0))).trans hx151_1; replace hx151_0 := (cell_far (p := ⟨gb150, 1, none⟩) (by first | (rw [add_block]; exact hn151_1) | (show (Addr.add _ _).block ≠ _; rw [add_block]; exact hn151_1) | exact hn151_1) (.int .i64 ((rd_T47 l2 x79_5).f1))).trans hx151_0; replace hx151_1 := (cell_far (p := ⟨gb150, 1, none⟩) (by first | (rw [add_block]; exact hn151_1) | (show (Addr.add _ _).block ≠ _; rw [add_block]; exact hn151_1) | exact hn151_1) (.int .i64 ((rd_T47 l2 x79_5).f1))).trans hx151_1; (try have hy151_0 := fun (n_ : Nat) => (show ((((w90.drewN n_).setCell ⟨gb150, 0, none⟩ (.int .i64 ((rd_T47 l2 x79_5).f0))).setCell ⟨gb150, 1, none⟩ (.int .i64 ((rd_T47 l2 x79_5).f1)))).cell? _ = some _ from hx151_0)); (try have hy151_1 := fun (n_ : Nat) => (show ((((w90.drewN n_).setCell ⟨gb150, 0, none⟩ (.int .i64 ((rd_T47 l2 x79_5).f0))).setCell ⟨gb150, 1, none⟩ (.int .i64 ((rd_T47 l2 x79_5).f1)))).cell? _ = some _ from hx151_1)); clear hn151_0; clear hn151_1; replace p151 := eq_true p151; replace q151 := eq_true q151)))
                                           go_ret
                                           exact ⟨by first | rfl | (simp [errW_none, errW_some] <;> rfl) | (simp only [← hji79]; first | rfl | (simp [errW_none, errW_some] <;> rfl)) | (simp [*, errW_none, errW_some] <;> rfl), by repeat (first | (with_reducible first | exact HB.out | apply below_alloc | apply pw_below_drewN | apply below_drew1 | refine below_set ?_ GE133.out | refine below_set ?_ GE134.out | refine below_set ?_ GE150.out) | exact HB.out)⟩
                                         · rw [if_neg c89] at H
                                           have c89b0 : decide ((wrap64 (1000 * a0_4)) ≤ (wrap64 ((wrap64 (((rd_T47 l2 x79_5).f0) - ((rd_T47 l2 (ji79)).f1))) * a0_1))) = false := decide_eq_false c89
                                           clear c89
                                           have H' := Aside0.mk H
                                           clear H
                                           have p149 : 0 ≤ (x79_5 : Int) := of_decide_eq_true (by first | (with_reducible assumption) | assumption)
                                           have q149 : x79_5 < (l2.length : Int) := of_decide_eq_true (by first | (with_reducible assumption) | assumption)
                                           obtain ⟨ad149, e149, hx149_0, hx149_1⟩ := at_T47 HR2.out x79_5 p149 q149
                                           cases e149
                                           replace hx149_0 := (HB.out.cell (World.block_lt_of_cell? w _ hx149_0)).trans hx149_0
                                           replace hx149_1 := (HB.out.cell (World.block_lt_of_cell? w _ hx149_1)).trans hx149_1
                                           replace p149 := eq_true p149
                                           replace q149 := eq_true q149
                                           go_wp2_with (first | ((with_reducible refine gate_dst (N := 12) rfl ?_); (try (refine gate_guard (by rfl) ?_; dsimp only)); refine box_event ?hg (N := 12) ?hd (cs := #[.int .i64 0, .int .i64 0]) (t := 47) ?hr ?_; (case hd => rfl); (case hg => rfl); (case hr => first | (go_simp; done) | (go_simp; rfl)); intro gb150 hg w96 hbox hb; have BK150 := Aside0.mk (hbox); have GW150 := bgw_ HB hg; have GE150 := bgw_ HB hg; have NB133_150 := bnl_ BK133 hg; have NB150_133 := bng_ BK133 hg; have NB134_150 := bnl_ BK134 hg; have NB150_134 := bng_ BK134 hg; replace BK133 := bkb_ BK133 hb; replace BK134 := bkb_ BK134 hb; replace HB := bls_ HB hb; clear hb hbox hg; have hnb97 := NB150_133.out; have hnc97 := NB133_150.out; have hnb98 := NB150_134.out; have hnc98 := NB134_150.out; have hcz99_0 := bkc_ BK150 0 (.int .i64 0) rfl; have hcz99_1 := bkc_ BK150 1 (.int .i64 0) rfl; have hfz99_0 := blk_frozen BK150.out 0; have hfz99_1 := blk_frozen BK150.out 1; have hnb100 := NB133_134.out; have hnc100 := NB134_133.out; have hcz101_0 := bkc_ BK133 0 (.int .i64 a0_0) rfl; have hcz101_1 := bkc_ BK133 1 (.int .i64 a0_1) rfl; have hcz101_2 := bkc_ BK133 2 (.int .i64 a0_2) rfl; have hcz101_3 := bkc_ BK133 3 (.int .i64 a0_3) rfl; have hcz101_4 := bkc_ BK133 4 (.int .i64 a0_4) rfl; have hfz101_0 := blk_frozen BK133.out 0; have hfz101_1 := blk_frozen BK133.out 1; have hfz101_2 := blk_frozen BK133.out 2; have hfz101_3 := blk_frozen BK133.out 3; have hfz101_4 := blk_frozen BK133.out 4; have p151 : 0 ≤ ((ji79) : Int) := of_decide_eq_true (by first | (with_reducible assumption) | assumption); have q151 : (ji79) < (l2.length : Int) := of_decide_eq_true (by first | (with_reducible assumption) | assumption); obtain ⟨ad151, e151, hx151_0, hx151_1⟩ := at_T47 HR2.out (ji79) p151 q151; obtain rfl : ad149 = ad151 := (by injection e151); have hn151_0 : ad149.block ≠ gb150 := Nat.ne_of_lt (Nat.lt_of_lt_of_le (by have := World.block_lt_of_cell? _ _ hx151_0; first | rwa [add_block] at this | exact this) GW150.out); have hn151_1 : ad149.block ≠ gb150 := Nat.ne_of_lt (Nat.lt_of_lt_of_le (by have := World.block_lt_of_cell? _ _ hx151_0; first | rwa [add_block] at this | exact this) GW150.out); replace hx151_0 := (HB.out.cell (World.block_lt_of_cell? w _ hx151_0)).trans hx151_0; replace hx151_1 := (HB.out.cell (World.block_lt_of_cell? w _ hx151_1)).trans hx151_1; replace hx151_0 := (cell_far (p := ⟨gb150, 0, none⟩) (by first | (rw [add_block]; exact hn151_0) | (show (Addr.add _ _).block ≠ _; rw [add_block]; exact hn151_0) | exact hn151_0) (.int .i64 ((rd_T47 l2 x79_5).f0))).trans hx151_0; replace hx151_1 := (cell_far (p := ⟨gb150, 0, none⟩) (by first | (rw [add_block]; exact hn151_0) | (show (Addr.add _ _).block ≠ _; rw [add_block]; exact hn151_0) | exact hn151_0) (.int .i64 ((rd_T47 l2 x79_5).f0))).trans hx151_1; replace hx151_0 := (cell_far (p := ⟨gb150, 1, none⟩) (by first | (rw [add_block]; exact hn151_1) | (show (Addr.add _ _).block ≠ _; rw [add_block]; exact hn151_1) | exact hn151_1) (.int .i64 ((rd_T47 l2 x79_5).f1))).trans hx151_0; replace hx151_1 := (cell_far (p := ⟨gb150, 1, none⟩) (by first | (rw [add_block]; exact hn151_1) | (show (Addr.add _ _).block ≠ _; rw [add_block]; exact hn151_1) | exact hn151_1) (.int .i64 ((rd_T47 l2 x79_5).f1))).trans hx151_1; (try have hy151_0 := fun (n_ : Nat) => (show ((((w96.drewN n_).setCell ⟨gb150, 0, none⟩ (.int .i64 ((rd_T47 l2 x79_5).f0))).setCell ⟨gb150, 1, none⟩ (.int .i64 ((rd_T47 l2 x79_5).f1)))).cell? _ = some _ from hx151_0)); (try have hy151_1 := fun (n_ : Nat) => (show ((((w96.drewN n_).setCell ⟨gb150, 0, none⟩ (.int .i64 ((rd_T47 l2 x79_5).f0))).setCell ⟨gb150, 1, none⟩ (.int .i64 ((rd_T47 l2 x79_5).f1)))).cell? _ = some _ from hx151_1)); clear hn151_0; clear hn151_1; replace p151 := eq_true p151; replace q151 := eq_true q151))
                                           repeat (go_quiet (first | ((with_reducible refine gate_dst (N := 12) rfl ?_); (try (refine gate_guard (by rfl) ?_; dsimp only)); refine box_event ?hg (N := 12) ?hd (cs := #[.int .i64 0, .int .i64 0]) (t := 47) ?hr ?_; (case hd => rfl); (case hg => rfl); (case hr => first | (go_simp; done) | (go_simp; rfl)); intro gb150 hg w96 hbox hb; have BK150 := Aside0.mk (hbox); have GW150 := bgw_ HB hg; have GE150 := bgw_ HB hg; have NB133_150 := bnl_ BK133 hg; have NB150_133 := bng_ BK133 hg; have NB134_150 := bnl_ BK134 hg; have NB150_134 := bng_ BK134 hg; replace BK133 := bkb_ BK133 hb; replace BK134 := bkb_ BK134 hb; replace HB := bls_ HB hb; clear hb hbox hg; have hnb97 := NB150_133.out; have hnc97 := NB133_150.out; have hnb98 := NB150_134.out; have hnc98 := NB134_150.out; have hcz99_0 := bkc_ BK150 0 (.int .i64 0) rfl; have hcz99_1 := bkc_ BK150 1 (.int .i64 0) rfl; have hfz99_0 := blk_frozen BK150.out 0; have hfz99_1 := blk_frozen BK150.out 1; have hnb100 := NB133_134.out; have hnc100 := NB134_133.out; have hcz101_0 := bkc_ BK133 0 (.int .i64 a0_0) rfl; have hcz101_1 := bkc_ BK133 1 (.int .i64 a0_1) rfl; have hcz101_2 := bkc_ BK133 2 (.int .i64 a0_2) rfl; have hcz101_3 := bkc_ BK133 3 (.int .i64 a0_3) rfl; have hcz101_4 := bkc_ BK133 4 (.int .i64 a0_4) rfl; have hfz101_0 := blk_frozen BK133.out 0; have hfz101_1 := blk_frozen BK133.out 1; have hfz101_2 := blk_frozen BK133.out 2; have hfz101_3 := blk_frozen BK133.out 3; have hfz101_4 := blk_frozen BK133.out 4; have p151 : 0 ≤ ((ji79) : Int) := of_decide_eq_true (by first | (with_reducible assumption) | assumption); have q151 : (ji79) < (l2.length : Int) := of_decide_eq_true (by first | (with_reducible assumption) | assumption); obtain ⟨ad151, e151, hx151_0, hx151_1⟩ := at_T47 HR2.out (ji79) p151 q151; obtain rfl : ad149 = ad151 := (by injection e151); have hn151_0 : ad149.block ≠ gb150 := Nat.ne_of_lt (Nat.lt_of_lt_of_le (by have := World.block_lt_of_cell? _ _ hx151_0; first | rwa [add_block] at this | exact this) GW150.out); have hn151_1 : ad149.block ≠ gb150 := Nat.ne_of_lt (Nat.lt_of_lt_of_le (by have := World.block_lt_of_cell? _ _ hx151_0; first | rwa [add_block] at this | exact this) GW150.out); replace hx151_0 := (HB.out.cell (World.block_lt_of_cell? w _ hx151_0)).trans hx151_0; replace hx151_1 := (HB.out.cell (World.block_lt_of_cell? w _ hx151_1)).trans hx151_1; replace hx151_0 := (cell_far (p := ⟨gb150, 0, none⟩) (by first | (rw [add_block]; exact hn151_0) | (show (Addr.add _ _).block ≠ _; rw [add_block]; exact hn151_0) | exact hn151_0) (.int .i64 ((rd_T47 l2 x79_5).f0))).trans hx151_0; replace hx151_1 := (cell_far (p := ⟨gb150, 0, none⟩) (by first | (rw [add_block]; exact hn151_0) | (show (Addr.add _ _).block ≠ _; rw [add_block]; exact hn151_0) | exact hn151_0) (.int .i64 ((rd_T47 l2 x79_5).f0))).trans hx151_1; replace hx151_0 := (cell_far (p := ⟨gb150, 1, none⟩) (by first | (rw [add_block]; exact hn151_1) | (show (Addr.add _ _).block ≠ _; rw [add_block]; exact hn151_1) | exact hn151_1) (.int .i64 ((rd_T47 l2 x79_5).f1))).trans hx151_0; replace hx151_1 := (cell_far (p := ⟨gb150, 1, none⟩) (by first | (rw [add_block]; exact hn151_1) | (show (Addr.add _ _).block ≠ _; rw [add_block]; exact hn151_1) | exact hn151_1) (.int .i64 ((rd_T47 l2 x79_5).f1))).trans hx151_1; (try have hy151_0 := fun (n_ : Nat) => (show ((((w96.drewN n_).setCell ⟨gb150, 0, none⟩ (.int .i64 ((rd_T47 l2 x79_5).f0))).setCell ⟨gb150, 1, none⟩ (.int .i64 ((rd_T47 l2 x79_5).f1)))).cell? _ = some _ from hx151_0)); (try have hy151_1 := fun (n_ : Nat) => (show ((((w96.drewN n_).setCell ⟨gb150, 0, none⟩ (.int .i64 ((rd_T47 l2 x79_5).f0))).setCell ⟨gb150, 1, none⟩ (.int .i64 ((rd_T47 l2 x79_5).f1)))).cell? _ = some _ from hx151_1)); clear hn151_0; clear hn151_1; replace p151 := eq_true p151; replace q151 := eq_true q151)); try go_wp2_with (first | ((with_reducible refine gate_dst (N := 12) rfl ?_); (try (refine gate_guard (by rfl) ?_; dsimp only)); refine box_event ?hg (N := 12) ?hd (cs := #[.int .i64 0, .int .i64 0]) (t := 47) ?hr ?_; (case hd => rfl); (case hg => rfl); (case hr => first | (go_simp; done) | (go_simp; rfl)); intro gb150 hg w96 hbox hb; have BK150 := Aside0.mk (hbox); have GW150 := bgw_ HB hg; have GE150 := bgw_ HB hg; have NB133_150 := bnl_ BK133 hg; have NB150_133 := bng_ BK133 hg; have NB134_150 := bnl_ BK134 hg; have NB150_134 := bng_ BK134 hg; replace BK133 := bkb_ BK133 hb; replace BK134 := bkb_ BK134 hb; replace HB := bls_ HB hb; clear hb hbox hg; have hnb97 := NB150_133.out; have hnc97 := NB133_150.out; have hnb98 := NB150_134.out; have hnc98 := NB134_150.out; have hcz99_0 := bkc_ BK150 0 (.int .i64 0) rfl; have hcz99_1 := bkc_ BK150 1 (.int .i64 0) rfl; have hfz99_0 := blk_frozen BK150.out 0; have hfz99_1 := blk_frozen BK150.out 1; have hnb100 := NB133_134.out; have hnc100 := NB134_133.out; have hcz101_0 := bkc_ BK133 0 (.int .i64 a0_0) rfl; have hcz101_1 := bkc_ BK133 1 (.int .i64 a0_1) rfl; have hcz101_2 := bkc_ BK133 2 (.int .i64 a0_2) rfl; have hcz101_3 := bkc_ BK133 3 (.int .i64 a0_3) rfl; have hcz101_4 := bkc_ BK133 4 (.int .i64 a0_4) rfl; have hfz101_0 := blk_frozen BK133.out 0; have hfz101_1 := blk_frozen BK133.out 1; have hfz101_2 := blk_frozen BK133.out 2; have hfz101_3 := blk_frozen BK133.out 3; have hfz101_4 := blk_frozen BK133.out 4; have p151 : 0 ≤ ((ji79) : Int) := of_decide_eq_true (by first | (with_reducible assumption) | assumption); have q151 : (ji79) < (l2.length : Int) := of_decide_eq_true (by first | (with_reducible assumption) | assumption); obtain ⟨ad151, e151, hx151_0, hx151_1⟩ := at_T47 HR2.out (ji79) p151 q151; obtain rfl : ad149 = ad151 := (by injection e151); have hn151_0 : ad149.block ≠ gb150 := Nat.ne_of_lt (Nat.lt_of_lt_of_le (by have := World.block_lt_of_cell? _ _ hx151_0; first | rwa [add_block] at this | exact this) GW150.out); have hn151_1 : ad149.block ≠ gb150 := Nat.ne_of_lt (Nat.lt_of_lt_of_le (by have := World.block_lt_of_cell? _ _ hx151_0; first | rwa [add_block] at this | exact this) GW150.out); replace hx151_0 := (HB.out.cell (World.block_lt_of_cell? w _ hx151_0)).trans hx151_0; replace hx151_1 := (HB.out.cell (World.block_lt_of_cell? w _ hx151_1)).trans hx151_1; replace hx151_0 := (cell_far (p := ⟨gb150, 0, none⟩) (by first | (rw [add_block]; exact hn151_0) | (show (Addr.add _ _).block ≠ _; rw [add_block]; exact hn151_0) | exact hn151_0) (.int .i64 ((rd_T47 l2 x79_5).f0))).trans hx151_0; replace hx151_1 := (cell_far (p := ⟨gb150, 0, none⟩) (by first | (rw [add_block]; exact hn151_0) | (show (Addr.add _ _).block ≠ _; rw [add_block]; exact hn151_0) | exact hn151_0) (.int .i64 ((rd_T47 l2 x79_5).f0))).trans hx151_1; replace hx151_0 := (cell_far (p := ⟨gb150, 1, none⟩) (by first | (rw [add_block]; exact hn151_1) | (show (Addr.add _ _).block ≠ _; rw [add_block]; exact hn151_1) | exact hn151_1) (.int .i64 ((rd_T47 l2 x79_5).f1))).trans hx151_0; replace hx151_1 := (cell_far (p := ⟨gb150, 1, none⟩) (by first | (rw [add_block]; exact hn151_1) | (show (Addr.add _ _).block ≠ _; rw [add_block]; exact hn151_1) | exact hn151_1) (.int .i64 ((rd_T47 l2 x79_5).f1))).trans hx151_1; (try have hy151_0 := fun (n_ : Nat) => (show ((((w96.drewN n_).setCell ⟨gb150, 0, none⟩ (.int .i64 ((rd_T47 l2 x79_5).f0))).setCell ⟨gb150, 1, none⟩ (.int .i64 ((rd_T47 l2 x79_5).f1)))).cell? _ = some _ from hx151_0)); (try have hy151_1 := fun (n_ : Nat) => (show ((((w96.drewN n_).setCell ⟨gb150, 0, none⟩ (.int .i64 ((rd_T47 l2 x79_5).f0))).setCell ⟨gb150, 1, none⟩ (.int .i64 ((rd_T47 l2 x79_5).f1)))).cell? _ = some _ from hx151_1)); clear hn151_0; clear hn151_1; replace p151 := eq_true p151; replace q151 := eq_true q151)))
                                           go_roundg k5
                                           case measure => have := HJ3.out; have := HK2.out; have := HJ35.out; have := HK4.out; have := HK5.out; omega
                                           case rel => exact ⟨(wrap64 (x79_5 + 1)), (by first | rfl | (simp; done) | (simp [*]; done)), H', ⟨by have := HJ3.out; have := HK2.out; have := HJ35.out; have := HK4.out; have := HK5.out; omega⟩, bkx_ BK133, bkx_ BK134, blx_ HB⟩
                                     · rw [if_neg c81] at H
                                       exact absurd H (by simp)
                                   · rw [if_neg c80] at H
                                     exact absurd H (by simp)
                             · rw [if_neg c64] at H
                               exact absurd H (by simp)
                           · rw [if_neg c63] at H
                             exact absurd H (by simp)
                         · rw [if_neg c62] at H
                           have c62b0 : decide (x79_5 < (l2.length : Int)) = false := decide_eq_false c62
                           clear c62
                           obtain rfl := Option.some.inj H
                           go_wp2
                           repeat (go_quiet (fail); try go_wp2)
                           go_ret
                           exact ⟨by first | rfl | (simp [errW_none, errW_some] <;> rfl) | (simp [*, errW_none, errW_some] <;> rfl), by repeat (first | (with_reducible first | exact HB.out | apply below_alloc | apply pw_below_drewN | apply below_drew1 | refine below_set ?_ GE133.out | refine below_set ?_ GE134.out) | exact HB.out)⟩
                 · rw [if_neg c47] at H
                   exact absurd H (by simp)

end Go.Proofs.Ytaaonhfaoaabbaa.X
