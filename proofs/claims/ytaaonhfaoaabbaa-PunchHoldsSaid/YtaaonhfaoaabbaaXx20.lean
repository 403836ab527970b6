-- Written by a program (the kit's print, some functions told as proved by hand). Not trusted: Lean checks it.
import Derived.Test.YtaaonhfaoaabbaaXx0
import Derived.Test.YtaaonhfaoaabbaaWs
import Derived.Test.YtaaonhfaoaabbaaXx9
import Derived.Test.YtaaonhfaoaabbaaXx19
namespace Go.Proofs.Ytaaonhfaoaabbaa.X
open Go.RowKit Go.Proofs.YtaaonhfaoaabbaaW.PrintWords Go.Proofs.YtaaonhfaoaabbaaW.PrintLast Go.Proofs.YtaaonhfaoaabbaaW.PrintMore
attribute [local go_sem] max2_int min2_int max_two min_two max_three min_three max_four min_four   -- for this text's walks alone
set_option linter.unusedVariables false
set_option linter.unusedSimpArgs false

/-! ### pianolaref03_Bridge: function 33 -/
mutual
def pianolaref03_Bridge.j0 : Nat → Bool → Int → Int → Int → Int → Int → Int → Option ((List (S52)) × Int)
 | 0, _, _, _, _, _, _, _ => none
 | k + 1, x34, x408000, x408001, x414000, x414001, x415000, x415001 => if x34 = true then (some (([] : List (S52)), 3)) else (pianolaref03_Bridge.l0 k 1 x408000 x408001 x414000 x414001 x415000 x415001)
def pianolaref03_Bridge.l0 : Nat → Int → Int → Int → Int → Int → Int → Int → Option ((List (S52)) × Int)
 | 0, _, _, _, _, _, _, _ => none
 | k + 1, x9, x408000, x408001, x414000, x414001, x415000, x415001 => (pianolaref03_can.f x414000 x414001 x415000 x415001 (wrap64 (x408001 - x408000)) x9 (wrap64 (x9 - 1))).bind fun t416 => (if t416 = true then (pianolaref03_Bridge.l1 k x9 ([] : List (S52)) x408000 0 x408000 x408001 x414000 x414001 x415000 x415001) else (if (wrap64 (x9 + 1)) > 200 then (some (([] : List (S52)), 20)) else (if x415001 = 0 then (some (([] : List (S52)), 20)) else (pianolaref03_Bridge.l0 k (wrap64 (x9 + 1)) x408000 x408001 x414000 x414001 x415000 x415001))))
def pianolaref03_Bridge.l1 : Nat → Int → List (S52) → Int → Int → Int → Int → Int → Int → Int → Int → Option ((List (S52)) × Int)
 | 0, _, _, _, _, _, _, _, _, _, _ => none
 | k + 1, x9, x10, x11, x12, x408000, x408001, x414000, x414001, x415000, x415001 => if x12 < x9 then (pianolaref03_Bridge.l2 k x9 x10 x11 x12 x414001 x408000 x408001 x414000 x414001 x415000 x415001) else (some (x10, 0))
def pianolaref03_Bridge.l2 : Nat → Int → List (S52) → Int → Int → Int → Int → Int → Int → Int → Int → Int → Option ((List (S52)) × Int)
 | 0, _, _, _, _, _, _, _, _, _, _, _ => none
 | k + 1, x9, x10, x11, x12, x13, x408000, x408001, x414000, x414001, x415000, x415001 => (pianolaref03_can.f x414000 x414001 x415000 x415001 (wrap64 ((wrap64 (x408001 - x11)) - x13)) (wrap64 ((wrap64 (x9 - 1)) - x12)) (wrap64 ((wrap64 (x9 - 1)) - x12))).bind fun t417 => (if t417 = true then (if x10.length < 8796093022208 then ((some (x10 ++ [(⟨x11, wrap64 (x11 + x13)⟩ : S52)] : List (S52))).bind fun y418 => (if x12 = (wrap64 (x9 - 1)) then (some (y418, 0)) else (pianolaref03_Bridge.l3 k x9 y418 (wrap64 (x11 + x13)) x12 x415001 x408000 x408001 x414000 x414001 x415000 x415001))) else (none)) else (pianolaref03_Bridge.l2 k x9 x10 x11 x12 (wrap64 (x13 - 1)) x408000 x408001 x414000 x414001 x415000 x415001))
def pianolaref03_Bridge.l3 : Nat → Int → List (S52) → Int → Int → Int → Int → Int → Int → Int → Int → Int → Option ((List (S52)) × Int)
 | 0, _, _, _, _, _, _, _, _, _, _, _ => none
 | k + 1, x9, x10, x11, x12, x14, x408000, x408001, x414000, x414001, x415000, x415001 => (pianolaref03_can.f x414000 x414001 x415000 x415001 (wrap64 ((wrap64 (x408001 - x11)) - x14)) (wrap64 ((wrap64 (x9 - 1)) - x12)) (wrap64 ((wrap64 (x9 - 2)) - x12))).bind fun t421 => (if t421 = true then (pianolaref03_Bridge.l1 k x9 x10 (wrap64 (x11 + x14)) (wrap64 (x12 + 1)) x408000 x408001 x414000 x414001 x415000 x415001) else (pianolaref03_Bridge.l3 k x9 x10 x11 x12 (wrap64 (x14 - 1)) x408000 x408001 x414000 x414001 x415000 x415001))
end
def pianolaref03_Bridge.f (k : Nat) (a0_0 : Int) (a0_1 : Int) (a0_2 : Int) (a0_3 : Int) (a0_4 : Int) (a1_0 : Int) (a1_1 : Int) : Option ((List (S52)) × Int) := (pianolaref03_Bars.f k a0_0 a0_1 a0_2 a0_3 a0_4).bind fun bt408 => (if bt408.2.2.2.2 = 0 then ((pianolaref03_slot.f a1_0 a1_1).bind fun t415 => (if t415 = true then (pianolaref03_Bridge.j0 k (decide ((wrap64 (a1_1 - a1_0)) > 10000)) a1_0 a1_1 bt408.1 bt408.2.1 bt408.2.2.1 bt408.2.2.2.1) else (pianolaref03_Bridge.j0 k true a1_0 a1_1 bt408.1 bt408.2.1 bt408.2.2.1 bt408.2.2.2.1))) else (some (([] : List (S52)), bt408.2.2.2.2)))
theorem pianolaref03_Bridge.mono_l : ∀ k, (∀ y0 y1 y2 y3 y4 y5 y6, LeO (pianolaref03_Bridge.j0 k y0 y1 y2 y3 y4 y5 y6) (pianolaref03_Bridge.j0 (k + 1) y0 y1 y2 y3 y4 y5 y6)) ∧ (∀ y0 y1 y2 y3 y4 y5 y6, LeO (pianolaref03_Bridge.l0 k y0 y1 y2 y3 y4 y5 y6) (pianolaref03_Bridge.l0 (k + 1) y0 y1 y2 y3 y4 y5 y6)) ∧ (∀ y0 y1 y2 y3 y4 y5 y6 y7 y8 y9, LeO (pianolaref03_Bridge.l1 k y0 y1 y2 y3 y4 y5 y6 y7 y8 y9) (pianolaref03_Bridge.l1 (k + 1) y0 y1 y2 y3 y4 y5 y6 y7 y8 y9)) ∧ (∀ y0 y1 y2 y3 y4 y5 y6 y7 y8 y9 y10, LeO (pianolaref03_Bridge.l2 k y0 y1 y2 y3 y4 y5 y6 y7 y8 y9 y10) (pianolaref03_Bridge.l2 (k + 1) y0 y1 y2 y3 y4 y5 y6 y7 y8 y9 y10)) ∧ (∀ y0 y1 y2 y3 y4 y5 y6 y7 y8 y9 y10, LeO (pianolaref03_Bridge.l3 k y0 y1 y2 y3 y4 y5 y6 y7 y8 y9 y10) (pianolaref03_Bridge.l3 (k + 1) y0 y1 y2 y3 y4 y5 y6 y7 y8 y9 y10))
 | 0 => ⟨fun _ _ _ _ _ _ _ r h => by simp [pianolaref03_Bridge.j0] at h, fun _ _ _ _ _ _ _ r h => by simp [pianolaref03_Bridge.l0] at h, fun _ _ _ _ _ _ _ _ _ _ r h => by simp [pianolaref03_Bridge.l1] at h, fun _ _ _ _ _ _ _ _ _ _ _ r h => by simp [pianolaref03_Bridge.l2] at h, fun _ _ _ _ _ _ _ _ _ _ _ r h => by simp [pianolaref03_Bridge.l3] at h⟩
 | k + 1 => by
  obtain ⟨ih0, ih1, ih2, ih3, ih4⟩ := pianolaref03_Bridge.mono_l k
  refine ⟨?_, ?_, ?_, ?_, ?_⟩
  · intro y0 y1 y2 y3 y4 y5 y6
    unfold pianolaref03_Bridge.j0
    repeat' first
    | (with_reducible exact ih0 _ _ _ _ _ _ _)
    | (with_reducible exact ih1 _ _ _ _ _ _ _)
    | (with_reducible exact ih2 _ _ _ _ _ _ _ _ _ _)
    | (with_reducible exact ih3 _ _ _ _ _ _ _ _ _ _ _)
    | (with_reducible exact ih4 _ _ _ _ _ _ _ _ _ _ _)
    | (with_reducible exact pianolaref03_Bars.mono _ _ _ _ _ _)
    | (with_reducible exact LeO.refl _)
    | (with_reducible exact LeO.none _)
    | (with_reducible refine LeO.ite ?_ ?_)
    | (with_reducible refine LeO.bind ?_ (fun _ => ?_))
    | exact ih0 _ _ _ _ _ _ _
    | exact ih1 _ _ _ _ _ _ _
    | exact ih2 _ _ _ _ _ _ _ _ _ _
    | exact ih3 _ _ _ _ _ _ _ _ _ _ _
    | exact ih4 _ _ _ _ _ _ _ _ _ _ _
    | exact pianolaref03_Bars.mono _ _ _ _ _ _
    | exact LeO.none _
    | refine LeO.ite ?_ ?_
    | refine LeO.bind ?_ (fun _ => ?_)
  · intro y0 y1 y2 y3 y4 y5 y6
    unfold pianolaref03_Bridge.l0
    repeat' first
    | (with_reducible exact ih0 _ _ _ _ _ _ _)
    | (with_reducible exact ih1 _ _ _ _ _ _ _)
    | (with_reducible exact ih2 _ _ _ _ _ _ _ _ _ _)
    | (with_reducible exact ih3 _ _ _ _ _ _ _ _ _ _ _)
    | (with_reducible exact ih4 _ _ _ _ _ _ _ _ _ _ _)
    | (with_reducible exact pianolaref03_Bars.mono _ _ _ _ _ _)
    | (with_reducible exact LeO.refl _)
    | (with_reducible exact LeO.none _)
    | (with_reducible refine LeO.ite ?_ ?_)
    | (with_reducible refine LeO.bind ?_ (fun _ => ?_))
    | exact ih0 _ _ _ _ _ _ _
    | exact ih1 _ _ _ _ _ _ _
    | exact ih2 _ _ _ _ _ _ _ _ _ _
    | exact ih3 _ _ _ _ _ _ _ _ _ _ _
    | exact ih4 _ _ _ _ _ _ _ _ _ _ _
    | exact pianolaref03_Bars.mono _ _ _ _ _ _
    | exact LeO.none _
    | refine LeO.ite ?_ ?_
    | refine LeO.bind ?_ (fun _ => ?_)
  · intro y0 y1 y2 y3 y4 y5 y6 y7 y8 y9
    unfold pianolaref03_Bridge.l1
    repeat' first
    | (with_reducible exact ih0 _ _ _ _ _ _ _)
    | (with_reducible exact ih1 _ _ _ _ _ _ _)
    | (with_reducible exact ih2 _ _ _ _ _ _ _ _ _ _)
    | (with_reducible exact ih3 _ _ _ _ _ _ _ _ _ _ _)
    | (with_reducible exact ih4 _ _ _ _ _ _ _ _ _ _ _)
    | (with_reducible exact pianolaref03_Bars.mono _ _ _ _ _ _)
    | (with_reducible exact LeO.refl _)
    | (with_reducible exact LeO.none _)
    | (with_reducible refine LeO.ite ?_ ?_)
    | (with_reducible refine LeO.bind ?_ (fun _ => ?_))
    | exact ih0 _ _ _ _ _ _ _
    | exact ih1 _ _ _ _ _ _ _
    | exact ih2 _ _ _ _ _ _ _ _ _ _
    | exact ih3 _ _ _ _ _ _ _ _ _ _ _
    | exact ih4 _ _ _ _ _ _ _ _ _ _ _
    | exact pianolaref03_Bars.mono _ _ _ _ _ _
    | exact LeO.none _
    | refine LeO.ite ?_ ?_
    | refine LeO.bind ?_ (fun _ => ?_)
  · intro y0 y1 y2 y3 y4 y5 y6 y7 y8 y9 y10
    unfold pianolaref03_Bridge.l2
    repeat' first
    | (with_reducible exact ih0 _ _ _ _ _ _ _)
    | (with_reducible exact ih1 _ _ _ _ _ _ _)
    | (with_reducible exact ih2 _ _ _ _ _ _ _ _ _ _)
    | (with_reducible exact ih3 _ _ _ _ _ _ _ _ _ _ _)
    | (with_reducible exact ih4 _ _ _ _ _ _ _ _ _ _ _)
    | (with_reducible exact pianolaref03_Bars.mono _ _ _ _ _ _)
    | (with_reducible exact LeO.refl _)
    | (with_reducible exact LeO.none _)
    | (with_reducible refine LeO.ite ?_ ?_)
    | (with_reducible refine LeO.bind ?_ (fun _ => ?_))
    | exact ih0 _ _ _ _ _ _ _
    | exact ih1 _ _ _ _ _ _ _
    | exact ih2 _ _ _ _ _ _ _ _ _ _
    | exact ih3 _ _ _ _ _ _ _ _ _ _ _
    | exact ih4 _ _ _ _ _ _ _ _ _ _ _
    | exact pianolaref03_Bars.mono _ _ _ _ _ _
    | exact LeO.none _
    | refine LeO.ite ?_ ?_
    | refine LeO.bind ?_ (fun _ => ?_)
  · intro y0 y1 y2 y3 y4 y5 y6 y7 y8 y9 y10
    unfold pianolaref03_Bridge.l3
    repeat' first
    | (with_reducible exact ih0 _ _ _ _ _ _ _)
    | (with_reducible exact ih1 _ _ _ _ _ _ _)
    | (with_reducible exact ih2 _ _ _ _ _ _ _ _ _ _)
    | (with_reducible exact ih3 _ _ _ _ _ _ _ _ _ _ _)
    | (with_reducible exact ih4 _ _ _ _ _ _ _ _ _ _ _)
    | (with_reducible exact pianolaref03_Bars.mono _ _ _ _ _ _)
    | (with_reducible exact LeO.refl _)
    | (with_reducible exact LeO.none _)
    | (with_reducible refine LeO.ite ?_ ?_)
    | (with_reducible refine LeO.bind ?_ (fun _ => ?_))
    | exact ih0 _ _ _ _ _ _ _
    | exact ih1 _ _ _ _ _ _ _
    | exact ih2 _ _ _ _ _ _ _ _ _ _
    | exact ih3 _ _ _ _ _ _ _ _ _ _ _
    | exact ih4 _ _ _ _ _ _ _ _ _ _ _
    | exact pianolaref03_Bars.mono _ _ _ _ _ _
    | exact LeO.none _
    | refine LeO.ite ?_ ?_
    | refine LeO.bind ?_ (fun _ => ?_)
theorem pianolaref03_Bridge.mono : ∀ a0 a1 a2 a3 a4 a5 a6 k, LeO (pianolaref03_Bridge.f k a0 a1 a2 a3 a4 a5 a6) (pianolaref03_Bridge.f (k + 1) a0 a1 a2 a3 a4 a5 a6) := by
 intro a0 a1 a2 a3 a4 a5 a6 k
 obtain ⟨ih0, ih1, ih2, ih3, ih4⟩ := pianolaref03_Bridge.mono_l k
 unfold pianolaref03_Bridge.f
 repeat' first
  | (with_reducible exact ih0 _ _ _ _ _ _ _)
  | (with_reducible exact ih1 _ _ _ _ _ _ _)
  | (with_reducible exact ih2 _ _ _ _ _ _ _ _ _ _)
  | (with_reducible exact ih3 _ _ _ _ _ _ _ _ _ _ _)
  | (with_reducible exact ih4 _ _ _ _ _ _ _ _ _ _ _)
  | (with_reducible exact pianolaref03_Bars.mono _ _ _ _ _ _)
  | (with_reducible exact LeO.refl _)
  | (with_reducible exact LeO.none _)
  | (with_reducible refine LeO.ite ?_ ?_)
  | (with_reducible refine LeO.bind ?_ (fun _ => ?_))
  | exact ih0 _ _ _ _ _ _ _
  | exact ih1 _ _ _ _ _ _ _
  | exact ih2 _ _ _ _ _ _ _ _ _ _
  | exact ih3 _ _ _ _ _ _ _ _ _ _ _
  | exact ih4 _ _ _ _ _ _ _ _ _ _ _
  | exact pianolaref03_Bars.mono _ _ _ _ _ _
  | exact LeO.none _
  | refine LeO.ite ?_ ?_
  | refine LeO.bind ?_ (fun _ => ?_)
set_option maxHeartbeats 8000000 in
set_option maxRecDepth 100000 in
theorem pianolaref03_Bridge.calls (k : Nat) (a0_0 : Int) (a0_1 : Int) (a0_2 : Int) (a0_3 : Int) (a0_4 : Int) (a1_0 : Int) (a1_1 : Int) (r1 : List (S52)) (r2 : Int) (w : World) (h : pianolaref03_Bridge.f k a0_0 a0_1 a0_2 a0_3 a0_4 a1_0 a1_1 = some (r1, r2)) :
 Calls Try.prog 33 #[.agg #[.int .i64 a0_0, .int .i64 a0_1, .int .i64 a0_2, .int .i64 a0_3, .int .i64 a0_4], .agg #[.int .i64 a1_0, .int .i64 a1_1]] w fun e w' => ∃ v0_ : Value, e = .returned (.tuple #[v0_, .int .i64 r2]) ∧ Kd.R k52 52 w' w.heap.size (fun _ => True) v0_ r1 ∧ Below w.heap.size w w' := by
 have hu58 := Try.underlying58
 have hu52 := Try.underlying52
 have hu55 := Try.underlying55
 have HB := Aside0.mk (Below.refl w.heap.size w)
 have H : ((pianolaref03_Bars.f k a0_0 a0_1 a0_2 a0_3 a0_4).bind fun bt408 => (if bt408.2.2.2.2 = 0 then ((pianolaref03_slot.f a1_0 a1_1).bind fun t415 => (if t415 = true then (pianolaref03_Bridge.j0 k (decide ((wrap64 (a1_1 - a1_0)) > 10000)) a1_0 a1_1 bt408.1 bt408.2.1 bt408.2.2.1 bt408.2.2.2.1) else (pianolaref03_Bridge.j0 k true a1_0 a1_1 bt408.1 bt408.2.1 bt408.2.2.1 bt408.2.2.2.1))) else (some (([] : List (S52)), bt408.2.2.2.2)))) = some (r1, r2) := h
 clear h
 replace H := Option.bind_eq_some_iff.mp H
 obtain ⟨⟨t408, t409, t410, t411, t412⟩, A30, H⟩ := H
 replace H : (if t412 = 0 then ((pianolaref03_slot.f a1_0 a1_1).bind fun t415 => (if t415 = true then (pianolaref03_Bridge.j0 k (decide ((wrap64 (a1_1 - a1_0)) > 10000)) a1_0 a1_1 t408 t409 t410 t411) else (pianolaref03_Bridge.j0 k true a1_0 a1_1 t408 t409 t410 t411))) else (some (([] : List (S52)), t412))) = some (r1, r2) := H
 have A3 := Aside0.mk A30
 clear A30
 by_cases c4 : t412 = 0
 · rw [if_pos c4] at H
   have c4b0 : (t412 == 0) = true := beq_iff_eq.mpr c4
   have c4b1 : (t412 != 0) = false := bne_eq_false_iff_eq.mpr c4
   clear c4
   have HC5 := Aside0.mk H
   clear H
   go_enter Try.func33, Try.ntmps33
   go_upto_region 4 with (first | ((with_reducible refine gate_dst (N := 2) rfl ?_); refine box_event ?hg (N := 2) ?hd (cs := #[.int .i64 a0_0, .int .i64 a0_1, .int .i64 a0_2, .int .i64 a0_3, .int .i64 a0_4]) (t := 58) ?hr ?_; (case hd => rfl); (case hg => rfl); (case hr => first | (go_simp; done) | (go_simp; rfl)); intro gb406 hg w6 hbox hb; have BK406 := Aside0.mk (hbox); have GW406 := bgw_ HB hg; have GE406 := bgw_ HB hg; replace HB := bls_ HB hb; clear hb hbox hg) | ((with_reducible refine gate_dst (N := 3) rfl ?_); refine box_event ?hg (N := 3) ?hd (cs := #[.int .i64 a1_0, .int .i64 a1_1]) (t := 52) ?hr ?_; (case hd => rfl); (case hg => rfl); (case hr => first | (go_simp; done) | (go_simp; rfl)); intro gb407 hg w7 hbox hb; have BK407 := Aside0.mk (hbox); have GW407 := bgw_ HB hg; have GE407 := bgw_ HB hg; have NB406_407 := bnl_ BK406 hg; have NB407_406 := bng_ BK406 hg; replace BK406 := bkb_ BK406 hb; replace HB := bls_ HB hb; clear hb hbox hg; have hnb8 := NB406_407.out; have hnc8 := NB407_406.out; have hcz9_0 := bkc_ BK406 0 (.int .i64 a0_0) rfl; have hcz9_1 := bkc_ BK406 1 (.int .i64 a0_1) rfl; have hcz9_2 := bkc_ BK406 2 (.int .i64 a0_2) rfl; have hcz9_3 := bkc_ BK406 3 (.int .i64 a0_3) rfl; have hcz9_4 := bkc_ BK406 4 (.int .i64 a0_4) rfl; have hfz9_0 := blk_frozen BK406.out 0; have hfz9_1 := blk_frozen BK406.out 1; have hfz9_2 := blk_frozen BK406.out 2; have hfz9_3 := blk_frozen BK406.out 3; have hfz9_4 := blk_frozen BK406.out 4) | ((with_reducible refine gate_callee (f := 31) rfl ?_); refine goesL_ (some 17) rfl rfl Try.func31 (by kernel_rfl) rfl #[.agg #[.int .i64 a0_0, .int .i64 a0_1, .int .i64 a0_2, .int .i64 a0_3, .int .i64 a0_4]] rfl (by (try simp only [List.map_toArray, List.map_cons, List.map_nil]); first | done | rfl | (simp only [List.length_drop, List.length_take]; rfl)) ?_; (with_reducible refine (pianolaref03_Bars.calls k a0_0 a0_1 a0_2 a0_3 a0_4 t408 t409 t410 t411 t412 _ A3.out).mono ?_); rintro e w10 ⟨rfl, hb⟩; refine ⟨_, rfl, ?_⟩; replace BK406 := bkb_ BK406 hb; replace BK407 := bkb_ BK407 hb; replace HB := bls_ HB hb; (try clear hb); (try clear hb2); (try clear hk); (try clear hi)) | ((with_reducible refine gate_dst (N := 6) rfl ?_); refine box_event ?hg (N := 6) ?hd (cs := #[.int .i64 0, .int .i64 0]) (t := 55) ?hr ?_; (case hd => rfl); (case hg => rfl); (case hr => first | (go_simp; done) | (go_simp; rfl)); intro gb413 hg w11 hbox hb; have BK413 := Aside0.mk (hbox); have GW413 := bgw_ HB hg; have GE413 := bgw_ HB hg; have NB406_413 := bnl_ BK406 hg; have NB413_406 := bng_ BK406 hg; have NB407_413 := bnl_ BK407 hg; have NB413_407 := bng_ BK407 hg; replace BK406 := bkb_ BK406 hb; replace BK407 := bkb_ BK407 hb; replace HB := bls_ HB hb; clear hb hbox hg) | ((with_reducible refine gate_dst (N := 7) rfl ?_); refine box_event ?hg (N := 7) ?hd (cs := #[.int .i64 0, .int .i64 0]) (t := 55) ?hr ?_; (case hd => rfl); (case hg => rfl); (case hr => first | (go_simp; done) | (go_simp; rfl)); intro gb414 hg w12 hbox hb; have BK414 := Aside0.mk (hbox); have GW414 := bgw_ HB hg; have GE414 := bgw_ HB hg; have NB406_414 := bnl_ BK406 hg; have NB414_406 := bng_ BK406 hg; have NB407_414 := bnl_ BK407 hg; have NB414_407 := bng_ BK407 hg; have NB413_414 := bnl_ BK413 hg; have NB414_413 := bng_ BK413 hg; replace BK406 := bkb_ BK406 hb; replace BK407 := bkb_ BK407 hb; replace BK413 := bkb_ BK413 hb; replace HB := bls_ HB hb; clear hb hbox hg; have hnb13 := NB413_406.out; have hnc13 := NB406_413.out; have hnb14 := NB413_407.out; have hnc14 := NB407_413.out; have hnb15 := NB413_414.out; have hnc15 := NB414_413.out; have hcz16_0 := bkc_ BK413 0 (.int .i64 0) rfl; have hcz16_1 := bkc_ BK413 1 (.int .i64 0) rfl; have hfz16_0 := blk_frozen BK413.out 0; have hfz16_1 := blk_frozen BK413.out 1; have hnb17 := NB414_406.out; have hnc17 := NB406_414.out; have hnb18 := NB414_407.out; have hnc18 := NB407_414.out; have hcz19_0 := bkc_ BK414 0 (.int .i64 0) rfl; have hcz19_1 := bkc_ BK414 1 (.int .i64 0) rfl; have hfz19_0 := blk_frozen BK414.out 0; have hfz19_1 := blk_frozen BK414.out 1))
   (try simp only [Act.put, List.setIfInBounds_toArray, List.set_cons_zero, List.set_cons_succ])
   go_cut [34] (fun v34 wc => ∃ (kq : Nat) (x34_4 : Bool), v34 = .bool x34_4 ∧ Aside0 (pianolaref03_Bridge.j0 kq x34_4 a1_0 a1_1 t408 t409 t410 t411 = some (r1, r2)) ∧ Aside0 (kq ≤ k) ∧ Aside0 (wc.heap[gb406]? = some (.cells #[.int .i64 a0_0, .int .i64 a0_1, .int .i64 a0_2, .int .i64 a0_3, .int .i64 a0_4] 58 (0, 0))) ∧ Aside0 (wc.heap[gb407]? = some (.cells #[.int .i64 a1_0, .int .i64 a1_1] 52 (0, 0))) ∧ Aside0 (wc.heap[gb413]? = some (.cells #[.int .i64 t408, .int .i64 t409] 55 (0, 0))) ∧ Aside0 (wc.heap[gb414]? = some (.cells #[.int .i64 t410, .int .i64 t411] 55 (0, 0))) ∧ Aside0 (Below w.heap.size w wc))
   case first =>
    have H := HC5.out
    clear HC5
    replace H := Option.bind_eq_some_iff.mp H
    obtain ⟨t415, A200, H⟩ := H
    replace H : (if t415 = true then (pianolaref03_Bridge.j0 k (decide ((wrap64 (a1_1 - a1_0)) > 10000)) a1_0 a1_1 t408 t409 t410 t411) else (pianolaref03_Bridge.j0 k true a1_0 a1_1 t408 t409 t410 t411)) = some (r1, r2) := H
    have A20 := Aside0.mk A200
    clear A200
    by_cases c21 : t415 = true
    · subst c21
      have H1 : (pianolaref03_Bridge.j0 k (decide ((wrap64 (a1_1 - a1_0)) > 10000)) a1_0 a1_1 t408 t409 t410 t411) = some (r1, r2) := by rw [if_pos rfl] at H; exact H
      clear H
      have H := H1
      clear H1
      have H' := Aside0.mk H
      clear H
      have hnb22 := NB407_406.out
      have hnc22 := NB406_407.out
      have hnb23 := NB407_413.out
      have hnc23 := NB413_407.out
      have hnb24 := NB407_414.out
      have hnc24 := NB414_407.out
      have hcz25_0 := bkc_ BK407 0 (.int .i64 a1_0) rfl
      have hcz25_1 := bkc_ BK407 1 (.int .i64 a1_1) rfl
      have hfz25_0 := blk_frozen BK407.out 0
      have hfz25_1 := blk_frozen BK407.out 1
      go_wp2_with (first | ((with_reducible refine gate_callee (f := 56) rfl ?_); refine goesL_ (some 25) rfl rfl Try.func56 (by kernel_rfl) rfl #[.agg #[.int .i64 a1_0, .int .i64 a1_1]] rfl (by (try simp only [List.map_toArray, List.map_cons, List.map_nil]); first | done | rfl | (simp only [List.length_drop, List.length_take]; rfl)) ?_; (with_reducible refine (pianolaref03_slot.calls a1_0 a1_1 true _ A20.out).mono ?_); rintro e w26 ⟨rfl, hb⟩; refine ⟨_, rfl, ?_⟩; have n0_ := bkb_ BK406 hb; have n1_ := bkb_ BK407 hb; have n2_ := Aside0.mk (blk_below (g := gb413) (o := .cells #[.int .i64 t408, .int .i64 t409] 55 (0, 0)) (by (with_reducible repeat (first | refine blk_drewN ?_ _ | refine blk_drew ?_ | refine blk_alloc ?_ _)); refine blk_far ?_ NB413_414.out _; (with_reducible repeat (first | refine blk_drewN ?_ _ | refine blk_drew ?_ | refine blk_alloc ?_ _)); refine blk_far ?_ NB413_414.out _; (with_reducible repeat (first | refine blk_drewN ?_ _ | refine blk_drew ?_ | refine blk_alloc ?_ _)); refine blk_put (cs := #[.int .i64 t408, .int .i64 0]) ?_ 1 _ rfl; (with_reducible repeat (first | refine blk_drewN ?_ _ | refine blk_drew ?_ | refine blk_alloc ?_ _)); refine blk_put (cs := #[.int .i64 0, .int .i64 0]) ?_ 0 _ rfl; (with_reducible repeat (first | refine blk_drewN ?_ _ | refine blk_drew ?_ | refine blk_alloc ?_ _)); exact BK413.out) hb); have n3_ := Aside0.mk (blk_below (g := gb414) (o := .cells #[.int .i64 t410, .int .i64 t411] 55 (0, 0)) (by (with_reducible repeat (first | refine blk_drewN ?_ _ | refine blk_drew ?_ | refine blk_alloc ?_ _)); refine blk_put (cs := #[.int .i64 t410, .int .i64 0]) ?_ 1 _ rfl; (with_reducible repeat (first | refine blk_drewN ?_ _ | refine blk_drew ?_ | refine blk_alloc ?_ _)); refine blk_put (cs := #[.int .i64 0, .int .i64 0]) ?_ 0 _ rfl; (with_reducible repeat (first | refine blk_drewN ?_ _ | refine blk_drew ?_ | refine blk_alloc ?_ _)); refine blk_far ?_ NB414_413.out _; (with_reducible repeat (first | refine blk_drewN ?_ _ | refine blk_drew ?_ | refine blk_alloc ?_ _)); refine blk_far ?_ NB414_413.out _; (with_reducible repeat (first | refine blk_drewN ?_ _ | refine blk_drew ?_ | refine blk_alloc ?_ _)); exact BK414.out) hb); have n4_ := bls_ HB hb; clear BK406; clear BK407; clear BK413; clear BK414; clear HB; have BK406 := n0_; have BK407 := n1_; have BK413 := n2_; have BK414 := n3_; have HB := n4_; clear n0_ n1_ n2_ n3_ n4_; (try clear hb); (try clear hb2); (try clear hk); (try clear hi); have hcz27_0 := bkc_ BK407 0 (.int .i64 a1_0) rfl; have hcz27_1 := bkc_ BK407 1 (.int .i64 a1_1) rfl; have hfz27_0 := blk_frozen BK407.out 0; have hfz27_1 := blk_frozen BK407.out 1))
      go_meet
      case rel => exact ⟨_, (decide ((wrap64 (a1_1 - a1_0)) > 10000)), (by first | rfl | (simp; done) | (simp [*]; done)), H', ⟨by first | omega | exact Nat.le_refl _⟩, bkx_ BK406, bkx_ BK407, bkx_ BK413, bkx_ BK414, blx_ HB⟩
    · replace c21 := Bool.eq_false_iff.mpr c21
      subst c21
      have H1 : (pianolaref03_Bridge.j0 k true a1_0 a1_1 t408 t409 t410 t411) = some (r1, r2) := by rw [if_neg (show ¬ (false = true) by decide)] at H; exact H
      clear H
      have H := H1
      clear H1
      have H' := Aside0.mk H
      clear H
      have hnb28 := NB407_406.out
      have hnc28 := NB406_407.out
      have hnb29 := NB407_413.out
      have hnc29 := NB413_407.out
      have hnb30 := NB407_414.out
      have hnc30 := NB414_407.out
      have hcz31_0 := bkc_ BK407 0 (.int .i64 a1_0) rfl
      have hcz31_1 := bkc_ BK407 1 (.int .i64 a1_1) rfl
      have hfz31_0 := blk_frozen BK407.out 0
      have hfz31_1 := blk_frozen BK407.out 1
      go_wp2_with (first | ((with_reducible refine gate_callee (f := 56) rfl ?_); refine goesL_ (some 25) rfl rfl Try.func56 (by kernel_rfl) rfl #[.agg #[.int .i64 a1_0, .int .i64 a1_1]] rfl (by (try simp only [List.map_toArray, List.map_cons, List.map_nil]); first | done | rfl | (simp only [List.length_drop, List.length_take]; rfl)) ?_; (with_reducible refine (pianolaref03_slot.calls a1_0 a1_1 false _ A20.out).mono ?_); rintro e w32 ⟨rfl, hb⟩; refine ⟨_, rfl, ?_⟩; have n0_ := bkb_ BK406 hb; have n1_ := bkb_ BK407 hb; have n2_ := Aside0.mk (blk_below (g := gb413) (o := .cells #[.int .i64 t408, .int .i64 t409] 55 (0, 0)) (by (with_reducible repeat (first | refine blk_drewN ?_ _ | refine blk_drew ?_ | refine blk_alloc ?_ _)); refine blk_far ?_ NB413_414.out _; (with_reducible repeat (first | refine blk_drewN ?_ _ | refine blk_drew ?_ | refine blk_alloc ?_ _)); refine blk_far ?_ NB413_414.out _; (with_reducible repeat (first | refine blk_drewN ?_ _ | refine blk_drew ?_ | refine blk_alloc ?_ _)); refine blk_put (cs := #[.int .i64 t408, .int .i64 0]) ?_ 1 _ rfl; (with_reducible repeat (first | refine blk_drewN ?_ _ | refine blk_drew ?_ | refine blk_alloc ?_ _)); refine blk_put (cs := #[.int .i64 0, .int .i64 0]) ?_ 0 _ rfl; (with_reducible repeat (first | refine blk_drewN ?_ _ | refine blk_drew ?_ | refine blk_alloc ?_ _)); exact BK413.out) hb); have n3_ := Aside0.mk (blk_below (g := gb414) (o := .cells #[.int .i64 t410, .int .i64 t411] 55 (0, 0)) (by (with_reducible repeat (first | refine blk_drewN ?_ _ | refine blk_drew ?_ | refine blk_alloc ?_ _)); refine blk_put (cs := #[.int .i64 t410, .int .i64 0]) ?_ 1 _ rfl; (with_reducible repeat (first | refine blk_drewN ?_ _ | refine blk_drew ?_ | refine blk_alloc ?_ _)); refine blk_put (cs := #[.int .i64 0, .int .i64 0]) ?_ 0 _ rfl; (with_reducible repeat (first | refine blk_drewN ?_ _ | refine blk_drew ?_ | refine blk_alloc ?_ _)); refine blk_far ?_ NB414_413.out _; (with_reducible repeat (first | refine blk_drewN ?_ _ | refine blk_drew ?_ | refine blk_alloc ?_ _)); refine blk_far ?_ NB414_413.out _; (with_reducible repeat (first | refine blk_drewN ?_ _ | refine blk_drew ?_ | refine blk_alloc ?_ _)); exact BK414.out) hb); have n4_ := bls_ HB hb; clear BK406; clear BK407; clear BK413; clear BK414; clear HB; have BK406 := n0_; have BK407 := n1_; have BK413 := n2_; have BK414 := n3_; have HB := n4_; clear n0_ n1_ n2_ n3_ n4_; (try clear hb); (try clear hb2); (try clear hk); (try clear hi)))
      go_meet
      case rel => exact ⟨_, (true), (by first | rfl | (simp; done) | (simp [*]; done)), H', ⟨by first | omega | exact Nat.le_refl _⟩, bkx_ BK406, bkx_ BK407, bkx_ BK413, bkx_ BK414, blx_ HB⟩
   case rest =>
    clear HC5
    try clear c1
    try clear c2
    try clear p2
    try clear c3
    try clear c4
    try clear c4b0
    try clear c4b1
    try clear c5
    try clear p6
    try clear c8
    try clear c13
    try clear c14
    try clear c15
    try clear c17
    try clear c18
    try clear c21
    try clear c22
    try clear c23
    try clear c24
    try clear c28
    try clear c29
    try clear c30
    try clear c31
    try clear hcz16_0
    try clear hcz16_1
    try clear hcz19_0
    try clear hcz19_1
    try clear hcz25_0
    try clear hcz25_1
    try clear hcz27_0
    try clear hcz27_1
    try clear hcz31_0
    try clear hcz31_1
    try clear hcz9_0
    try clear hcz9_1
    try clear hcz9_2
    try clear hcz9_3
    try clear hcz9_4
    try clear hfz16_0
    try clear hfz16_1
    try clear hfz19_0
    try clear hfz19_1
    try clear hfz25_0
    try clear hfz25_1
    try clear hfz27_0
    try clear hfz27_1
    try clear hfz31_0
    try clear hfz31_1
    try clear hfz9_0
    try clear hfz9_1
    try clear hfz9_2
    try clear hfz9_3
    try clear hfz9_4
    obtain ⟨kq, x34_4, rfl, HA, HJ4, BK406, BK407, BK413, BK414, HB⟩ := hcut
    cases kq with
    | zero => exact absurd HA.out (by simp [pianolaref03_Bridge.j0])
    | succ kj4 =>
     have H := HA.out
     clear HA
     simp only [pianolaref03_Bridge.j0] at H
     by_cases c33 : x34_4 = true
     · subst c33
       have H1 : (some (([] : List (S52)), 3)) = some (r1, r2) := by rw [if_pos rfl] at H; exact H
       clear H
       have H := H1
       clear H1
       simp only [Option.some.injEq, Prod.mk.injEq] at H
       obtain ⟨rfl, rfl⟩ := H
       go_wp2
       go_ret2
       exact ⟨_, by first | rfl | (simp [errW_none, errW_some] <;> rfl) | (simp [*, errW_none, errW_some] <;> rfl), by first | exact Kd.R_nil _ _ _ _ _ | exact Kd.N_nil _ _ _ _ _ | exact Kd.V_nil _ _ _ _ _ | exact Kd.Q_nil _ _ _ _ _ | exact Kd.S_nil _ _ _ _ _, by repeat (first | (with_reducible first | exact HB.out | apply below_alloc | apply pw_below_drewN | apply below_drew1 | refine below_set ?_ GE406.out | refine below_set ?_ GE407.out | refine below_set ?_ GE413.out | refine below_set ?_ GE414.out) | exact HB.out)⟩
     · replace c33 := Bool.eq_false_iff.mpr c33
       subst c33
       have H1 : (pianolaref03_Bridge.l0 kj4 1 a1_0 a1_1 t408 t409 t410 t411) = some (r1, r2) := by rw [if_neg (show ¬ (false = true) by decide)] at H; exact H
       clear H
       have H := H1
       clear H1
       have H' := Aside0.mk H
       clear H
       go_wp2
       go_loopg [9] kj4 (fun kq v9 w' => ∃ (x9_2 : Int), v9 = .int .i64 x9_2 ∧ Aside0 (pianolaref03_Bridge.l0 kq x9_2 a1_0 a1_1 t408 t409 t410 t411 = some (r1, r2)) ∧ Aside0 (kq ≤ kj4) ∧ Aside0 (w'.heap[gb406]? = some (.cells #[.int .i64 a0_0, .int .i64 a0_1, .int .i64 a0_2, .int .i64 a0_3, .int .i64 a0_4] 58 (0, 0))) ∧ Aside0 (w'.heap[gb407]? = some (.cells #[.int .i64 a1_0, .int .i64 a1_1] 52 (0, 0))) ∧ Aside0 (w'.heap[gb413]? = some (.cells #[.int .i64 t408, .int .i64 t409] 55 (0, 0))) ∧ Aside0 (w'.heap[gb414]? = some (.cells #[.int .i64 t410, .int .i64 t411] 55 (0, 0))) ∧ Aside0 (Below w.heap.size w w'))
       case atStart => exact ⟨(1), (by first | rfl | (simp; done) | (simp [*]; done)), H', ⟨Nat.le_refl _⟩, bkx_ BK406, bkx_ BK407, bkx_ BK413, bkx_ BK414, blx_ HB⟩
       case round =>
        clear H'
        try clear c1
        try clear c2
        try clear p2
        try clear c3
        try clear c4
        try clear c4b0
        try clear c4b1
        try clear c5
        try clear p6
        try clear c8
        try clear c13
        try clear c14
        try clear c15
        try clear c17
        try clear c18
        try clear c21
        try clear c22
        try clear c23
        try clear c24
        try clear c28
        try clear c29
        try clear c30
        try clear c31
        try clear c33
        try clear hcz16_0
        try clear hcz16_1
        try clear hcz19_0
        try clear hcz19_1
        try clear hcz25_0
        try clear hcz25_1
        try clear hcz27_0
        try clear hcz27_1
        try clear hcz31_0
        try clear hcz31_1
        try clear hcz9_0
        try clear hcz9_1
        try clear hcz9_2
        try clear hcz9_3
        try clear hcz9_4
        try clear hfz16_0
        try clear hfz16_1
        try clear hfz19_0
        try clear hfz19_1
        try clear hfz25_0
        try clear hfz25_1
        try clear hfz27_0
        try clear hfz27_1
        try clear hfz31_0
        try clear hfz31_1
        try clear hfz9_0
        try clear hfz9_1
        try clear hfz9_2
        try clear hfz9_3
        try clear hfz9_4
        try clear p2
        try clear p6
        obtain ⟨x9_2, rfl, HA, HK2, BK406, BK407, BK413, BK414, HB⟩ := hrel
        cases gk with
        | zero => exact absurd HA.out (by simp [pianolaref03_Bridge.l0])
        | succ k2 =>
         have H := HA.out
         clear HA
         simp only [pianolaref03_Bridge.l0] at H
         replace H := Option.bind_eq_some_iff.mp H
         obtain ⟨t416, A340, H⟩ := H
         replace H : (if t416 = true then (pianolaref03_Bridge.l1 k2 x9_2 ([] : List (S52)) a1_0 0 a1_0 a1_1 t408 t409 t410 t411) else (if (wrap64 (x9_2 + 1)) > 200 then (some (([] : List (S52)), 20)) else (if t411 = 0 then (some (([] : List (S52)), 20)) else (pianolaref03_Bridge.l0 k2 (wrap64 (x9_2 + 1)) a1_0 a1_1 t408 t409 t410 t411)))) = some (r1, r2) := H
         have A34 := Aside0.mk A340
         clear A340
         by_cases c35 : t416 = true
         · subst c35
           have H1 : (pianolaref03_Bridge.l1 k2 x9_2 ([] : List (S52)) a1_0 0 a1_0 a1_1 t408 t409 t410 t411) = some (r1, r2) := by rw [if_pos rfl] at H; exact H
           clear H
           have H := H1
           clear H1
           have H' := Aside0.mk H
           clear H
           have hnb36 := NB413_406.out
           have hnc36 := NB406_413.out
           have hnb37 := NB413_407.out
           have hnc37 := NB407_413.out
           have hnb38 := NB413_414.out
           have hnc38 := NB414_413.out
           have hcz39_0 := bkc_ BK413 0 (.int .i64 t408) rfl
           have hcz39_1 := bkc_ BK413 1 (.int .i64 t409) rfl
           have hfz39_0 := blk_frozen BK413.out 0
           have hfz39_1 := blk_frozen BK413.out 1
           have hnb40 := NB414_406.out
           have hnc40 := NB406_414.out
           have hnb41 := NB414_407.out
           have hnc41 := NB407_414.out
           have hcz42_0 := bkc_ BK414 0 (.int .i64 t410) rfl
           have hcz42_1 := bkc_ BK414 1 (.int .i64 t411) rfl
           have hfz42_0 := blk_frozen BK414.out 0
           have hfz42_1 := blk_frozen BK414.out 1
           have hnb43 := NB407_406.out
           have hnc43 := NB406_407.out
           have hcz44_0 := bkc_ BK407 0 (.int .i64 a1_0) rfl
           have hcz44_1 := bkc_ BK407 1 (.int .i64 a1_1) rfl
           have hfz44_0 := blk_frozen BK407.out 0
           have hfz44_1 := blk_frozen BK407.out 1
           go_wp2_with (first | ((with_reducible refine gate_callee (f := 75) rfl ?_); refine goesL_ (some 45) rfl rfl Try.func75 (by kernel_rfl) rfl #[.agg #[.int .i64 t408, .int .i64 t409], .agg #[.int .i64 t410, .int .i64 t411], .int .i64 (wrap64 (a1_1 - a1_0)), .int .i64 x9_2, .int .i64 (wrap64 (x9_2 - 1))] rfl (by (try simp only [List.map_toArray, List.map_cons, List.map_nil]); first | done | rfl | (simp only [List.length_drop, List.length_take]; rfl)) ?_; (with_reducible refine (pianolaref03_can.calls t408 t409 t410 t411 (wrap64 (a1_1 - a1_0)) x9_2 (wrap64 (x9_2 - 1)) true _ A34.out).mono ?_); rintro e w45 ⟨rfl, hb⟩; refine ⟨_, rfl, ?_⟩; replace BK406 := bkb_ BK406 hb; replace BK407 := bkb_ BK407 hb; replace BK413 := bkb_ BK413 hb; replace BK414 := bkb_ BK414 hb; replace HB := bls_ HB hb; (try clear hb); (try clear hb2); (try clear hk); (try clear hi); have hcz46_0 := bkc_ BK407 0 (.int .i64 a1_0) rfl; have hcz46_1 := bkc_ BK407 1 (.int .i64 a1_1) rfl; have hfz46_0 := blk_frozen BK407.out 0; have hfz46_1 := blk_frozen BK407.out 1))
           go_loopg [10, 11, 12] k2 (fun kq v10 v11 v12 w' => ∃ (x10_3 : List (S52)) (x11_3 : Int) (x12_3 : Int), v11 = .int .i64 x11_3 ∧ v12 = .int .i64 x12_3 ∧ Aside0 (pianolaref03_Bridge.l1 kq x9_2 x10_3 x11_3 x12_3 a1_0 a1_1 t408 t409 t410 t411 = some (r1, r2)) ∧ Aside0 (kq ≤ k2) ∧ Aside0 (Kd.R k52 52 w' w.heap.size (fun k_ => k_ ≠ gb407) v10 x10_3) ∧ Aside0 (w'.heap[gb406]? = some (.cells #[.int .i64 a0_0, .int .i64 a0_1, .int .i64 a0_2, .int .i64 a0_3, .int .i64 a0_4] 58 (0, 0))) ∧ Aside0 (w'.heap[gb407]? = some (.cells #[.int .i64 a1_0, .int .i64 a1_1] 52 (0, 0))) ∧ Aside0 (w'.heap[gb413]? = some (.cells #[.int .i64 t408, .int .i64 t409] 55 (0, 0))) ∧ Aside0 (w'.heap[gb414]? = some (.cells #[.int .i64 t410, .int .i64 t411] 55 (0, 0))) ∧ Aside0 (Below w.heap.size w w'))
           case atStart => exact ⟨(([] : List (S52))), (a1_0), (0), (by first | rfl | (simp; done) | (simp [*]; done)), (by first | rfl | (simp; done) | (simp [*]; done)), H', ⟨Nat.le_refl _⟩, ⟨by first | exact Kd.R_nil _ _ _ _ _ | exact Kd.N_nil _ _ _ _ _ | exact Kd.V_nil _ _ _ _ _ | exact Kd.Q_nil _ _ _ _ _ | exact Kd.S_nil _ _ _ _ _⟩, bkx_ BK406, bkx_ BK407, bkx_ BK413, bkx_ BK414, blx_ HB⟩
           case round =>
            clear H'
            try clear c1
            try clear c2
            try clear p2
            try clear c3
            try clear c4
            try clear c4b0
            try clear c4b1
            try clear c5
            try clear p6
            try clear c7
            try clear c8
            try clear c13
            try clear c14
            try clear c15
            try clear c17
            try clear c18
            try clear c21
            try clear c22
            try clear c23
            try clear c24
            try clear c28
            try clear c29
            try clear c30
            try clear c31
            try clear c33
            try clear c35
            try clear c36
            try clear c37
            try clear c38
            try clear c40
            try clear c41
            try clear c43
            try clear hcz16_0
            try clear hcz16_1
            try clear hcz19_0
            try clear hcz19_1
            try clear hcz25_0
            try clear hcz25_1
            try clear hcz27_0
            try clear hcz27_1
            try clear hcz31_0
            try clear hcz31_1
            try clear hcz39_0
            try clear hcz39_1
            try clear hcz42_0
            try clear hcz42_1
            try clear hcz44_0
            try clear hcz44_1
            try clear hcz46_0
            try clear hcz46_1
            try clear hcz9_0
            try clear hcz9_1
            try clear hcz9_2
            try clear hcz9_3
            try clear hcz9_4
            try clear hfz16_0
            try clear hfz16_1
            try clear hfz19_0
            try clear hfz19_1
            try clear hfz25_0
            try clear hfz25_1
            try clear hfz27_0
            try clear hfz27_1
            try clear hfz31_0
            try clear hfz31_1
            try clear hfz39_0
            try clear hfz39_1
            try clear hfz42_0
            try clear hfz42_1
            try clear hfz44_0
            try clear hfz44_1
            try clear hfz46_0
            try clear hfz46_1
            try clear hfz9_0
            try clear hfz9_1
            try clear hfz9_2
            try clear hfz9_3
            try clear hfz9_4
            try clear p2
            try clear p6
            obtain ⟨x10_3, x11_3, x12_3, rfl, rfl, HA, HK3, HO_10, BK406, BK407, BK413, BK414, HB⟩ := hrel
            cases gk with
            | zero => exact absurd HA.out (by simp [pianolaref03_Bridge.l1])
            | succ k3 =>
             have H := HA.out
             clear HA
             simp only [pianolaref03_Bridge.l1] at H
             by_cases c47 : x12_3 < x9_2
             · rw [if_pos c47] at H
               have c47b0 : decide (x12_3 < x9_2) = true := decide_eq_true c47
               clear c47
               have H' := Aside0.mk H
               clear H
               have hnb48 := NB413_406.out
               have hnc48 := NB406_413.out
               have hnb49 := NB413_407.out
               have hnc49 := NB407_413.out
               have hnb50 := NB413_414.out
               have hnc50 := NB414_413.out
               have hcz51_0 := bkc_ BK413 0 (.int .i64 t408) rfl
               have hcz51_1 := bkc_ BK413 1 (.int .i64 t409) rfl
               have hfz51_0 := blk_frozen BK413.out 0
               have hfz51_1 := blk_frozen BK413.out 1
               go_wp2
               go_loopg [13] k3 (fun kq v13 w' => ∃ (x13_4 : Int), v13 = .int .i64 x13_4 ∧ Aside0 (pianolaref03_Bridge.l2 kq x9_2 x10_3 x11_3 x12_3 x13_4 a1_0 a1_1 t408 t409 t410 t411 = some (r1, r2)) ∧ Aside0 (kq ≤ k3) ∧ Aside0 (Kd.R k52 52 w' w.heap.size (fun k_ => k_ ≠ gb407) u10 x10_3) ∧ Aside0 (w'.heap[gb406]? = some (.cells #[.int .i64 a0_0, .int .i64 a0_1, .int .i64 a0_2, .int .i64 a0_3, .int .i64 a0_4] 58 (0, 0))) ∧ Aside0 (w'.heap[gb407]? = some (.cells #[.int .i64 a1_0, .int .i64 a1_1] 52 (0, 0))) ∧ Aside0 (w'.heap[gb413]? = some (.cells #[.int .i64 t408, .int .i64 t409] 55 (0, 0))) ∧ Aside0 (w'.heap[gb414]? = some (.cells #[.int .i64 t410, .int .i64 t411] 55 (0, 0))) ∧ Aside0 (Below w.heap.size w w'))
               case atStart => exact ⟨(t409), (by first | rfl | (simp; done) | (simp [*]; done)), H', ⟨Nat.le_refl _⟩, ⟨by (with_reducible repeat (first | apply Kd.R_alloc | apply Kd.R_drewN | apply Kd.R_drew)); exact HO_10.out⟩, bkx_ BK406, bkx_ BK407, bkx_ BK413, bkx_ BK414, blx_ HB⟩
               case round =>
                clear H'
                try clear c1
                try clear c2
                try clear p2
                try clear c3
                try clear c4
                try clear c4b0
                try clear c4b1
                try clear c5
                try clear p6
                try clear c7
                try clear c8
                try clear c13
                try clear c14
                try clear c15
                try clear c17
                try clear c18
                try clear c21
                try clear c22
                try clear c23
                try clear c24
                try clear c28
                try clear c29
                try clear c30
                try clear c31
                try clear c33
                try clear c35
                try clear c36
                try clear c37
                try clear c38
                try clear c40
                try clear c41
                try clear c43
                try clear c47
                try clear c47b0
                try clear c48
                try clear c49
                try clear c50
                try clear hcz16_0
                try clear hcz16_1
                try clear hcz19_0
                try clear hcz19_1
                try clear hcz25_0
                try clear hcz25_1
                try clear hcz27_0
                try clear hcz27_1
                try clear hcz31_0
                try clear hcz31_1
                try clear hcz39_0
                try clear hcz39_1
                try clear hcz42_0
                try clear hcz42_1
                try clear hcz44_0
                try clear hcz44_1
                try clear hcz46_0
                try clear hcz46_1
                try clear hcz51_0
                try clear hcz51_1
                try clear hcz9_0
                try clear hcz9_1
                try clear hcz9_2
                try clear hcz9_3
                try clear hcz9_4
                try clear hfz16_0
                try clear hfz16_1
                try clear hfz19_0
                try clear hfz19_1
                try clear hfz25_0
                try clear hfz25_1
                try clear hfz27_0
                try clear hfz27_1
                try clear hfz31_0
                try clear hfz31_1
                try clear hfz39_0
                try clear hfz39_1
                try clear hfz42_0
                try clear hfz42_1
                try clear hfz44_0
                try clear hfz44_1
                try clear hfz46_0
                try clear hfz46_1
                try clear hfz51_0
                try clear hfz51_1
                try clear hfz9_0
                try clear hfz9_1
                try clear hfz9_2
                try clear hfz9_3
                try clear hfz9_4
                try clear p2
                try clear p6
                obtain ⟨x13_4, rfl, HA, HK4, HO_10, BK406, BK407, BK413, BK414, HB⟩ := hrel
                cases gk with
                | zero => exact absurd HA.out (by simp [pianolaref03_Bridge.l2])
                | succ k4 =>
                 have H := HA.out
                 clear HA
                 simp only [pianolaref03_Bridge.l2] at H
                 replace H := Option.bind_eq_some_iff.mp H
                 obtain ⟨t417, A520, H⟩ := H
                 replace H : (if t417 = true then (if x10_3.length < 8796093022208 then ((some (x10_3 ++ [(⟨x11_3, wrap64 (x11_3 + x13_4)⟩ : S52)] : List (S52))).bind fun y418 => (if x12_3 = (wrap64 (x9_2 - 1)) then (some (y418, 0)) else (pianolaref03_Bridge.l3 k4 x9_2 y418 (wrap64 (x11_3 + x13_4)) x12_3 t411 a1_0 a1_1 t408 t409 t410 t411))) else (none)) else (pianolaref03_Bridge.l2 k4 x9_2 x10_3 x11_3 x12_3 (wrap64 (x13_4 - 1)) a1_0 a1_1 t408 t409 t410 t411)) = some (r1, r2) := H
                 have A52 := Aside0.mk A520
                 clear A520
                 by_cases c53 : t417 = true
                 · subst c53
                   have H1 : (if x10_3.length < 8796093022208 then ((some (x10_3 ++ [(⟨x11_3, wrap64 (x11_3 + x13_4)⟩ : S52)] : List (S52))).bind fun y418 => (if x12_3 = (wrap64 (x9_2 - 1)) then (some (y418, 0)) else (pianolaref03_Bridge.l3 k4 x9_2 y418 (wrap64 (x11_3 + x13_4)) x12_3 t411 a1_0 a1_1 t408 t409 t410 t411))) else (none)) = some (r1, r2) := by rw [if_pos rfl] at H; exact H
                   clear H
                   have H := H1
                   clear H1
                   by_cases c54 : x10_3.length < 8796093022208
                   · rw [if_pos c54] at H
                     have LMc54 := Aside0.mk c54
                     clear c54
                     obtain ⟨y418, hy418⟩ : ∃ y_ : List (S52), y_ = (x10_3 ++ [(⟨x11_3, wrap64 (x11_3 + x13_4)⟩ : S52)]) := ⟨_, rfl⟩
                     replace H : (if x12_3 = (wrap64 (x9_2 - 1)) then (some (y418, 0)) else (pianolaref03_Bridge.l3 k4 x9_2 y418 (wrap64 (x11_3 + x13_4)) x12_3 t411 a1_0 a1_1 t408 t409 t410 t411)) = some (r1, r2) := by first | (rw [hy418]; with_reducible exact H) | (have H2_ := (Option.bind_some _ _).symm.trans H; rw [hy418]; with_reducible exact H2_) | (have H2_ := (Option.bind_some _ _).symm.trans H; with_reducible exact H2_) | with_reducible exact H | (rw [hy418]; exact H) | exact H
                     have Ny418 := Aside0.mk hy418
                     clear hy418
                     by_cases c55 : x12_3 = (wrap64 (x9_2 - 1))
                     · rw [if_pos c55] at H
                       have c55b0 : (x12_3 == (wrap64 (x9_2 - 1))) = true := beq_iff_eq.mpr c55
                       have c55b1 : (x12_3 != (wrap64 (x9_2 - 1))) = false := bne_eq_false_iff_eq.mpr c55
                       clear c55
                       simp only [Option.some.injEq, Prod.mk.injEq] at H
                       obtain ⟨rfl, rfl⟩ := H
                       have hnb56 := NB413_406.out
                       have hnc56 := NB406_413.out
                       have hnb57 := NB413_407.out
                       have hnc57 := NB407_413.out
                       have hnb58 := NB413_414.out
                       have hnc58 := NB414_413.out
                       have hcz59_0 := bkc_ BK413 0 (.int .i64 t408) rfl
                       have hcz59_1 := bkc_ BK413 1 (.int .i64 t409) rfl
                       have hfz59_0 := blk_frozen BK413.out 0
                       have hfz59_1 := blk_frozen BK413.out 1
                       have hnb60 := NB414_406.out
                       have hnc60 := NB406_414.out
                       have hnb61 := NB414_407.out
                       have hnc61 := NB407_414.out
                       have hcz62_0 := bkc_ BK414 0 (.int .i64 t410) rfl
                       have hcz62_1 := bkc_ BK414 1 (.int .i64 t411) rfl
                       have hfz62_0 := blk_frozen BK414.out 0
                       have hfz62_1 := blk_frozen BK414.out 1
                       have hnb63 := NB407_406.out
                       have hnc63 := NB406_407.out
                       have hcz64_0 := bkc_ BK407 0 (.int .i64 a1_0) rfl
                       have hcz64_1 := bkc_ BK407 1 (.int .i64 a1_1) rfl
                       have hfz64_0 := blk_frozen BK407.out 0
                       have hfz64_1 := blk_frozen BK407.out 1
                       go_wp2_with (first | ((with_reducible refine gate_callee (f := 75) rfl ?_); refine goesL_ (some 81) rfl rfl Try.func75 (by kernel_rfl) rfl #[.agg #[.int .i64 t408, .int .i64 t409], .agg #[.int .i64 t410, .int .i64 t411], .int .i64 (wrap64 ((wrap64 (a1_1 - x11_3)) - x13_4)), .int .i64 (wrap64 ((wrap64 (x9_2 - 1)) - x12_3)), .int .i64 (wrap64 ((wrap64 (x9_2 - 1)) - x12_3))] rfl (by (try simp only [List.map_toArray, List.map_cons, List.map_nil]); first | done | rfl | (simp only [List.length_drop, List.length_take]; rfl)) ?_; (with_reducible refine (pianolaref03_can.calls t408 t409 t410 t411 (wrap64 ((wrap64 (a1_1 - x11_3)) - x13_4)) (wrap64 ((wrap64 (x9_2 - 1)) - x12_3)) (wrap64 ((wrap64 (x9_2 - 1)) - x12_3)) true _ A52.out).mono ?_); rintro e w65 ⟨rfl, hb⟩; refine ⟨_, rfl, ?_⟩; have n0_ := Aside0.mk (Kd.R_below (by (with_reducible repeat (first | apply Kd.R_alloc | apply Kd.R_drewN | apply Kd.R_drew)); exact HO_10.out) hb); have n1_ := bkb_ BK406 hb; have n2_ := bkb_ BK407 hb; have n3_ := bkb_ BK413 hb; have n4_ := bkb_ BK414 hb; have n5_ := bls_ HB hb; clear HO_10; clear BK406; clear BK407; clear BK413; clear BK414; clear HB; have HO_10 := n0_; have BK406 := n1_; have BK407 := n2_; have BK413 := n3_; have BK414 := n4_; have HB := n5_; clear n0_ n1_ n2_ n3_ n4_ n5_; (try clear hb); (try clear hb2); (try clear hk); (try clear hi)) | ((with_reducible refine gate_builtin (b := .append) (xs := #[.tmp 85, .tmp 91]) rfl ?_); at_builtin; refine Kd.R_append k52 (w0 := w) w.heap.size rfl (.tmp 85) (.tmp 91) 31 52 (.agg #[(.int .i64 0), (.int .i64 0)]) 16 rfl Try.underlying31 info52 rfl (by decide) (by omega) u10 x10_3 (⟨x11_3, wrap64 (x11_3 + x13_4)⟩ : S52) [.int .i64 x11_3, .int .i64 (wrap64 (x11_3 + x13_4))] (fun k_ => k_ ≠ gb407) (fun _ => False) rfl rfl ?aP (fun _ hk => hk.elim) ?aF ?aO ?aB ?aS ?aL ?_; (case aP => exact k52_mkM _ _ _ (⟨x11_3, wrap64 (x11_3 + x13_4)⟩ : S52)); (case aB => exact (blx_ HB).out); (case aF => exact (fun k_ hk => Kd.freshB (g := gb407) (o := .cells #[.int .i64 a1_0, .int .i64 a1_1] 52 (0, 0)) (bkx_ BK407).out k_ hk)); (case aO => exact (by (with_reducible repeat (first | apply Kd.R_alloc | apply Kd.R_drewN | apply Kd.R_drew)); exact HO_10.out)); (case aS => exact (below_size (blx_ HB).out)); (case aL => have := LMc54.out; omega); intro v419 w66 ho hb hg hat; rw [← Ny418.out] at ho; have HO420 := Aside0.mk (ho); replace BK406 := Aside0.mk (blk_grown (g := gb406) (o := .cells #[.int .i64 a0_0, .int .i64 a0_1, .int .i64 a0_2, .int .i64 a0_3, .int .i64 a0_4] 58 (0, 0)) (bkx_ BK406).out hg (Kd.R_ne HO_10.out BK406.out (by decide))); replace BK407 := Aside0.mk (blk_grown (g := gb407) (o := .cells #[.int .i64 a1_0, .int .i64 a1_1] 52 (0, 0)) (bkx_ BK407).out hg (Kd.R_away HO_10.out (fun _ hk => hk))); replace BK413 := Aside0.mk (blk_grown (g := gb413) (o := .cells #[.int .i64 t408, .int .i64 t409] 55 (0, 0)) (bkx_ BK413).out hg (Kd.R_ne HO_10.out BK413.out (by decide))); replace BK414 := Aside0.mk (blk_grown (g := gb414) (o := .cells #[.int .i64 t410, .int .i64 t411] 55 (0, 0)) (bkx_ BK414).out hg (Kd.R_ne HO_10.out BK414.out (by decide))); replace HB := Aside0.mk (hb); clear HO_10; clear ho hb hg hat))
                       go_ret2
                       exact ⟨_, by first | rfl | (simp [errW_none, errW_some] <;> rfl) | (simp [*, errW_none, errW_some] <;> rfl), by (with_reducible repeat (first | apply Kd.R_alloc | apply Kd.R_drewN | apply Kd.R_drew)); exact Kd.R_mono HO420.out (fun _ hk => trivial), by repeat (first | (with_reducible first | exact HB.out | apply below_alloc | apply pw_below_drewN | apply below_drew1 | refine below_set ?_ GE406.out | refine below_set ?_ GE407.out | refine below_set ?_ GE413.out | refine below_set ?_ GE414.out) | exact HB.out)⟩
                     · rw [if_neg c55] at H
                       have c55b0 : (x12_3 == (wrap64 (x9_2 - 1))) = false := beq_eq_false_iff_ne.mpr c55
                       have c55b1 : (x12_3 != (wrap64 (x9_2 - 1))) = true := bne_iff_ne.mpr c55
                       have H' := Aside0.mk H
                       clear H
                       have hnb67 := NB413_406.out
                       have hnc67 := NB406_413.out
                       have hnb68 := NB413_407.out
                       have hnc68 := NB407_413.out
                       have hnb69 := NB413_414.out
                       have hnc69 := NB414_413.out
                       have hcz70_0 := bkc_ BK413 0 (.int .i64 t408) rfl
                       have hcz70_1 := bkc_ BK413 1 (.int .i64 t409) rfl
                       have hfz70_0 := blk_frozen BK413.out 0
                       have hfz70_1 := blk_frozen BK413.out 1
                       have hnb71 := NB414_406.out
                       have hnc71 := NB406_414.out
                       have hnb72 := NB414_407.out
                       have hnc72 := NB407_414.out
                       have hcz73_0 := bkc_ BK414 0 (.int .i64 t410) rfl
                       have hcz73_1 := bkc_ BK414 1 (.int .i64 t411) rfl
                       have hfz73_0 := blk_frozen BK414.out 0
                       have hfz73_1 := blk_frozen BK414.out 1
                       have hnb74 := NB407_406.out
                       have hnc74 := NB406_407.out
                       have hcz75_0 := bkc_ BK407 0 (.int .i64 a1_0) rfl
                       have hcz75_1 := bkc_ BK407 1 (.int .i64 a1_1) rfl
                       have hfz75_0 := blk_frozen BK407.out 0
                       have hfz75_1 := blk_frozen BK407.out 1
                       go_wp2_with (first | ((with_reducible refine gate_callee (f := 75) rfl ?_); refine goesL_ (some 81) rfl rfl Try.func75 (by kernel_rfl) rfl #[.agg #[.int .i64 t408, .int .i64 t409], .agg #[.int .i64 t410, .int .i64 t411], .int .i64 (wrap64 ((wrap64 (a1_1 - x11_3)) - x13_4)), .int .i64 (wrap64 ((wrap64 (x9_2 - 1)) - x12_3)), .int .i64 (wrap64 ((wrap64 (x9_2 - 1)) - x12_3))] rfl (by (try simp only [List.map_toArray, List.map_cons, List.map_nil]); first | done | rfl | (simp only [List.length_drop, List.length_take]; rfl)) ?_; (with_reducible refine (pianolaref03_can.calls t408 t409 t410 t411 (wrap64 ((wrap64 (a1_1 - x11_3)) - x13_4)) (wrap64 ((wrap64 (x9_2 - 1)) - x12_3)) (wrap64 ((wrap64 (x9_2 - 1)) - x12_3)) true _ A52.out).mono ?_); rintro e w76 ⟨rfl, hb⟩; refine ⟨_, rfl, ?_⟩; have n0_ := Aside0.mk (Kd.R_below (by (with_reducible repeat (first | apply Kd.R_alloc | apply Kd.R_drewN | apply Kd.R_drew)); exact HO_10.out) hb); have n1_ := bkb_ BK406 hb; have n2_ := bkb_ BK407 hb; have n3_ := bkb_ BK413 hb; have n4_ := bkb_ BK414 hb; have n5_ := bls_ HB hb; clear HO_10; clear BK406; clear BK407; clear BK413; clear BK414; clear HB; have HO_10 := n0_; have BK406 := n1_; have BK407 := n2_; have BK413 := n3_; have BK414 := n4_; have HB := n5_; clear n0_ n1_ n2_ n3_ n4_ n5_; (try clear hb); (try clear hb2); (try clear hk); (try clear hi)) | ((with_reducible refine gate_builtin (b := .append) (xs := #[.tmp 85, .tmp 91]) rfl ?_); at_builtin; refine Kd.R_append k52 (w0 := w) w.heap.size rfl (.tmp 85) (.tmp 91) 31 52 (.agg #[(.int .i64 0), (.int .i64 0)]) 16 rfl Try.underlying31 info52 rfl (by decide) (by omega) u10 x10_3 (⟨x11_3, wrap64 (x11_3 + x13_4)⟩ : S52) [.int .i64 x11_3, .int .i64 (wrap64 (x11_3 + x13_4))] (fun k_ => k_ ≠ gb407) (fun _ => False) rfl rfl ?aP (fun _ hk => hk.elim) ?aF ?aO ?aB ?aS ?aL ?_; (case aP => exact k52_mkM _ _ _ (⟨x11_3, wrap64 (x11_3 + x13_4)⟩ : S52)); (case aB => exact (blx_ HB).out); (case aF => exact (fun k_ hk => Kd.freshB (g := gb407) (o := .cells #[.int .i64 a1_0, .int .i64 a1_1] 52 (0, 0)) (bkx_ BK407).out k_ hk)); (case aO => exact (by (with_reducible repeat (first | apply Kd.R_alloc | apply Kd.R_drewN | apply Kd.R_drew)); exact HO_10.out)); (case aS => exact (below_size (blx_ HB).out)); (case aL => have := LMc54.out; omega); intro v419 w77 ho hb hg hat; rw [← Ny418.out] at ho; have HO420 := Aside0.mk (ho); replace BK406 := Aside0.mk (blk_grown (g := gb406) (o := .cells #[.int .i64 a0_0, .int .i64 a0_1, .int .i64 a0_2, .int .i64 a0_3, .int .i64 a0_4] 58 (0, 0)) (bkx_ BK406).out hg (Kd.R_ne HO_10.out BK406.out (by decide))); replace BK407 := Aside0.mk (blk_grown (g := gb407) (o := .cells #[.int .i64 a1_0, .int .i64 a1_1] 52 (0, 0)) (bkx_ BK407).out hg (Kd.R_away HO_10.out (fun _ hk => hk))); replace BK413 := Aside0.mk (blk_grown (g := gb413) (o := .cells #[.int .i64 t408, .int .i64 t409] 55 (0, 0)) (bkx_ BK413).out hg (Kd.R_ne HO_10.out BK413.out (by decide))); replace BK414 := Aside0.mk (blk_grown (g := gb414) (o := .cells #[.int .i64 t410, .int .i64 t411] 55 (0, 0)) (bkx_ BK414).out hg (Kd.R_ne HO_10.out BK414.out (by decide))); replace HB := Aside0.mk (hb); clear HO_10; clear ho hb hg hat; have hcz78_0 := bkc_ BK414 0 (.int .i64 t410) rfl; have hcz78_1 := bkc_ BK414 1 (.int .i64 t411) rfl; have hfz78_0 := blk_frozen BK414.out 0; have hfz78_1 := blk_frozen BK414.out 1))
                       go_loopg [14] k4 (fun kq v14 w' => ∃ (x14_5 : Int), v14 = .int .i64 x14_5 ∧ Aside0 (pianolaref03_Bridge.l3 kq x9_2 y418 (wrap64 (x11_3 + x13_4)) x12_3 x14_5 a1_0 a1_1 t408 t409 t410 t411 = some (r1, r2)) ∧ Aside0 (kq ≤ k4) ∧ Aside0 (Kd.R k52 52 w' w.heap.size (fun k_ => k_ ≠ gb407) v419 y418) ∧ Aside0 (w'.heap[gb406]? = some (.cells #[.int .i64 a0_0, .int .i64 a0_1, .int .i64 a0_2, .int .i64 a0_3, .int .i64 a0_4] 58 (0, 0))) ∧ Aside0 (w'.heap[gb407]? = some (.cells #[.int .i64 a1_0, .int .i64 a1_1] 52 (0, 0))) ∧ Aside0 (w'.heap[gb413]? = some (.cells #[.int .i64 t408, .int .i64 t409] 55 (0, 0))) ∧ Aside0 (w'.heap[gb414]? = some (.cells #[.int .i64 t410, .int .i64 t411] 55 (0, 0))) ∧ Aside0 (Below w.heap.size w w'))
                       case atStart => exact ⟨(t411), (by first | rfl | (simp; done) | (simp [*]; done)), H', ⟨Nat.le_refl _⟩, ⟨by (with_reducible repeat (first | apply Kd.R_alloc | apply Kd.R_drewN | apply Kd.R_drew)); exact HO420.out⟩, bkx_ BK406, bkx_ BK407, bkx_ BK413, bkx_ BK414, blx_ HB⟩
                       case round =>
                        clear H'
                        try clear c1
                        try clear c2
                        try clear p2
                        try clear c3
                        try clear c4
                        try clear c4b0
                        try clear c4b1
                        try clear c5
                        try clear c6
                        try clear p6
                        try clear c7
                        try clear c8
                        try clear c13
                        try clear c14
                        try clear c15
                        try clear c17
                        try clear c18
                        try clear c21
                        try clear c22
                        try clear c23
                        try clear c24
                        try clear c28
                        try clear c29
                        try clear c30
                        try clear c31
                        try clear c33
                        try clear c35
                        try clear c36
                        try clear c37
                        try clear c38
                        try clear c40
                        try clear c41
                        try clear c43
                        try clear c47
                        try clear c47b0
                        try clear c48
                        try clear c49
                        try clear c50
                        try clear c53
                        try clear c54
                        try clear c55
                        try clear c55b0
                        try clear c55b1
                        try clear c56
                        try clear c57
                        try clear c58
                        try clear c60
                        try clear c61
                        try clear c63
                        try clear p64
                        try clear c67
                        try clear c68
                        try clear c69
                        try clear c71
                        try clear c72
                        try clear c74
                        try clear c75
                        try clear hcz16_0
                        try clear hcz16_1
                        try clear hcz19_0
                        try clear hcz19_1
                        try clear hcz25_0
                        try clear hcz25_1
                        try clear hcz27_0
                        try clear hcz27_1
                        try clear hcz31_0
                        try clear hcz31_1
                        try clear hcz39_0
                        try clear hcz39_1
                        try clear hcz42_0
                        try clear hcz42_1
                        try clear hcz44_0
                        try clear hcz44_1
                        try clear hcz46_0
                        try clear hcz46_1
                        try clear hcz51_0
                        try clear hcz51_1
                        try clear hcz59_0
                        try clear hcz59_1
                        try clear hcz62_0
                        try clear hcz62_1
                        try clear hcz64_0
                        try clear hcz64_1
                        try clear hcz70_0
                        try clear hcz70_1
                        try clear hcz73_0
                        try clear hcz73_1
                        try clear hcz75_0
                        try clear hcz75_1
                        try clear hcz78_0
                        try clear hcz78_1
                        try clear hcz9_0
                        try clear hcz9_1
                        try clear hcz9_2
                        try clear hcz9_3
                        try clear hcz9_4
                        try clear hfz16_0
                        try clear hfz16_1
                        try clear hfz19_0
                        try clear hfz19_1
                        try clear hfz25_0
                        try clear hfz25_1
                        try clear hfz27_0
                        try clear hfz27_1
                        try clear hfz31_0
                        try clear hfz31_1
                        try clear hfz39_0
                        try clear hfz39_1
                        try clear hfz42_0
                        try clear hfz42_1
                        try clear hfz44_0
                        try clear hfz44_1
                        try clear hfz46_0
                        try clear hfz46_1
                        try clear hfz51_0
                        try clear hfz51_1
                        try clear hfz59_0
                        try clear hfz59_1
                        try clear hfz62_0
                        try clear hfz62_1
                        try clear hfz64_0
                        try clear hfz64_1
                        try clear hfz70_0
                        try clear hfz70_1
                        try clear hfz73_0
                        try clear hfz73_1
                        try clear hfz75_0
                        try clear hfz75_1
                        try clear hfz78_0
                        try clear hfz78_1
                        try clear hfz9_0
                        try clear hfz9_1
                        try clear hfz9_2
                        try clear hfz9_3
                        try clear hfz9_4
                        try clear p2
                        try clear p6
                        obtain ⟨x14_5, rfl, HA, HK5, HO_10, BK406, BK407, BK413, BK414, HB⟩ := hrel
                        cases gk with
                        | zero => exact absurd HA.out (by simp [pianolaref03_Bridge.l3])
                        | succ k5 =>
                         have H := HA.out
                         clear HA
                         simp only [pianolaref03_Bridge.l3] at H
                         replace H := Option.bind_eq_some_iff.mp H
                         obtain ⟨t421, A790, H⟩ := H
                         replace H : (if t421 = true then (pianolaref03_Bridge.l1 k5 x9_2 y418 (wrap64 ((wrap64 (x11_3 + x13_4)) + x14_5)) (wrap64 (x12_3 + 1)) a1_0 a1_1 t408 t409 t410 t411) else (pianolaref03_Bridge.l3 k5 x9_2 y418 (wrap64 (x11_3 + x13_4)) x12_3 (wrap64 (x14_5 - 1)) a1_0 a1_1 t408 t409 t410 t411)) = some (r1, r2) := H
                         have A79 := Aside0.mk A790
                         clear A790
                         by_cases c80 : t421 = true
                         · subst c80
                           have H1 : (pianolaref03_Bridge.l1 k5 x9_2 y418 (wrap64 ((wrap64 (x11_3 + x13_4)) + x14_5)) (wrap64 (x12_3 + 1)) a1_0 a1_1 t408 t409 t410 t411) = some (r1, r2) := by rw [if_pos rfl] at H; exact H
                           clear H
                           have H := H1
                           clear H1
                           have H' := Aside0.mk H
                           clear H
                           have hnb81 := NB413_406.out
                           have hnc81 := NB406_413.out
                           have hnb82 := NB413_407.out
                           have hnc82 := NB407_413.out
                           have hnb83 := NB413_414.out
                           have hnc83 := NB414_413.out
                           have hcz84_0 := bkc_ BK413 0 (.int .i64 t408) rfl
                           have hcz84_1 := bkc_ BK413 1 (.int .i64 t409) rfl
                           have hfz84_0 := blk_frozen BK413.out 0
                           have hfz84_1 := blk_frozen BK413.out 1
                           have hnb85 := NB414_406.out
                           have hnc85 := NB406_414.out
                           have hnb86 := NB414_407.out
                           have hnc86 := NB407_414.out
                           have hcz87_0 := bkc_ BK414 0 (.int .i64 t410) rfl
                           have hcz87_1 := bkc_ BK414 1 (.int .i64 t411) rfl
                           have hfz87_0 := blk_frozen BK414.out 0
                           have hfz87_1 := blk_frozen BK414.out 1
                           have hnb88 := NB407_406.out
                           have hnc88 := NB406_407.out
                           have hcz89_0 := bkc_ BK407 0 (.int .i64 a1_0) rfl
                           have hcz89_1 := bkc_ BK407 1 (.int .i64 a1_1) rfl
                           have hfz89_0 := blk_frozen BK407.out 0
                           have hfz89_1 := blk_frozen BK407.out 1
                           go_wp2_with (first | ((with_reducible refine gate_callee (f := 75) rfl ?_); refine goesL_ (some 118) rfl rfl Try.func75 (by kernel_rfl) rfl #[.agg #[.int .i64 t408, .int .i64 t409], .agg #[.int .i64 t410, .int .i64 t411], .int .i64 (wrap64 ((wrap64 (a1_1 - (wrap64 (x11_3 + x13_4)))) - x14_5)), .int .i64 (wrap64 ((wrap64 (x9_2 - 1)) - x12_3)), .int .i64 (wrap64 ((wrap64 (x9_2 - 2)) - x12_3))] rfl (by (try simp only [List.map_toArray, List.map_cons, List.map_nil]); first | done | rfl | (simp only [List.length_drop, List.length_take]; rfl)) ?_; (with_reducible refine (pianolaref03_can.calls t408 t409 t410 t411 (wrap64 ((wrap64 (a1_1 - (wrap64 (x11_3 + x13_4)))) - x14_5)) (wrap64 ((wrap64 (x9_2 - 1)) - x12_3)) (wrap64 ((wrap64 (x9_2 - 2)) - x12_3)) true _ A79.out).mono ?_); rintro e w90 ⟨rfl, hb⟩; refine ⟨_, rfl, ?_⟩; have n0_ := Aside0.mk (Kd.R_below (by (with_reducible repeat (first | apply Kd.R_alloc | apply Kd.R_drewN | apply Kd.R_drew)); exact HO_10.out) hb); have n1_ := bkb_ BK406 hb; have n2_ := bkb_ BK407 hb; have n3_ := bkb_ BK413 hb; have n4_ := bkb_ BK414 hb; have n5_ := bls_ HB hb; clear HO_10; clear BK406; clear BK407; clear BK413; clear BK414; clear HB; have HO_10 := n0_; have BK406 := n1_; have BK407 := n2_; have BK413 := n3_; have BK414 := n4_; have HB := n5_; clear n0_ n1_ n2_ n3_ n4_ n5_; (try clear hb); (try clear hb2); (try clear hk); (try clear hi)))
                           go_roundg k5
                           case measure => have := HJ4.out; have := HK2.out; have := HK3.out; have := HK4.out; have := HK5.out; omega
                           case rel => exact ⟨(y418), (wrap64 ((wrap64 (x11_3 + x13_4)) + x14_5)), (wrap64 (x12_3 + 1)), (by first | rfl | (simp; done) | (simp [*]; done)), (by first | rfl | (simp; done) | (simp [*]; done)), H', ⟨by have := HJ4.out; have := HK2.out; have := HK3.out; have := HK4.out; have := HK5.out; omega⟩, ⟨by (with_reducible repeat (first | apply Kd.R_alloc | apply Kd.R_drewN | apply Kd.R_drew)); exact HO_10.out⟩, bkx_ BK406, bkx_ BK407, bkx_ BK413, bkx_ BK414, blx_ HB⟩
                         · replace c80 := Bool.eq_false_iff.mpr c80
                           subst c80
                           have H1 : (pianolaref03_Bridge.l3 k5 x9_2 y418 (wrap64 (x11_3 + x13_4)) x12_3 (wrap64 (x14_5 - 1)) a1_0 a1_1 t408 t409 t410 t411) = some (r1, r2) := by rw [if_neg (show ¬ (false = true) by decide)] at H; exact H
                           clear H
                           have H := H1
                           clear H1
                           have H' := Aside0.mk H
                           clear H
                           have hnb91 := NB413_406.out
                           have hnc91 := NB406_413.out
                           have hnb92 := NB413_407.out
                           have hnc92 := NB407_413.out
                           have hnb93 := NB413_414.out
                           have hnc93 := NB414_413.out
                           have hcz94_0 := bkc_ BK413 0 (.int .i64 t408) rfl
                           have hcz94_1 := bkc_ BK413 1 (.int .i64 t409) rfl
                           have hfz94_0 := blk_frozen BK413.out 0
                           have hfz94_1 := blk_frozen BK413.out 1
                           have hnb95 := NB414_406.out
                           have hnc95 := NB406_414.out
                           have hnb96 := NB414_407.out
                           have hnc96 := NB407_414.out
                           have hcz97_0 := bkc_ BK414 0 (.int .i64 t410) rfl
                           have hcz97_1 := bkc_ BK414 1 (.int .i64 t411) rfl
                           have hfz97_0 := blk_frozen BK414.out 0
                           have hfz97_1 := blk_frozen BK414.out 1
                           have hnb98 := NB407_406.out
                           have hnc98 := NB406_407.out
                           have hcz99_0 := bkc_ BK407 0 (.int .i64 a1_0) rfl
                           have hcz99_1 := bkc_ BK407 1 (.int .i64 a1_1) rfl
                           have hfz99_0 := blk_frozen BK407.out 0
                           have hfz99_1 := blk_frozen BK407.out 1
                           go_wp2_with (first | ((with_reducible refine gate_callee (f := 75) rfl ?_); refine goesL_ (some 118) rfl rfl Try.func75 (by kernel_rfl) rfl #[.agg #[.int .i64 t408, .int .i64 t409], .agg #[.int .i64 t410, .int .i64 t411], .int .i64 (wrap64 ((wrap64 (a1_1 - (wrap64 (x11_3 + x13_4)))) - x14_5)), .int .i64 (wrap64 ((wrap64 (x9_2 - 1)) - x12_3)), .int .i64 (wrap64 ((wrap64 (x9_2 - 2)) - x12_3))] rfl (by (try simp only [List.map_toArray, List.map_cons, List.map_nil]); first | done | rfl | (simp only [List.length_drop, List.length_take]; rfl)) ?_; (with_reducible refine (pianolaref03_can.calls t408 t409 t410 t411 (wrap64 ((wrap64 (a1_1 - (wrap64 (x11_3 + x13_4)))) - x14_5)) (wrap64 ((wrap64 (x9_2 - 1)) - x12_3)) (wrap64 ((wrap64 (x9_2 - 2)) - x12_3)) false _ A79.out).mono ?_); rintro e w100 ⟨rfl, hb⟩; refine ⟨_, rfl, ?_⟩; have n0_ := Aside0.mk (Kd.R_below (by (with_reducible repeat (first | apply Kd.R_alloc | apply Kd.R_drewN | apply Kd.R_drew)); exact HO_10.out) hb); have n1_ := bkb_ BK406 hb; have n2_ := bkb_ BK407 hb; have n3_ := bkb_ BK413 hb; have n4_ := bkb_ BK414 hb; have n5_ := bls_ HB hb; clear HO_10; clear BK406; clear BK407; clear BK413; clear BK414; clear HB; have HO_10 := n0_; have BK406 := n1_; have BK407 := n2_; have BK413 := n3_; have BK414 := n4_; have HB := n5_; clear n0_ n1_ n2_ n3_ n4_ n5_; (try clear hb); (try clear hb2); (try clear hk); (try clear hi)))
                           go_roundg k5
                           case measure => have := HJ4.out; have := HK2.out; have := HK3.out; have := HK4.out; have := HK5.out; omega
                           case rel => exact ⟨(wrap64 (x14_5 - 1)), (by first | rfl | (simp; done) | (simp [*]; done)), H', ⟨by have := HJ4.out; have := HK2.out; have := HK3.out; have := HK4.out; have := HK5.out; omega⟩, ⟨by (with_reducible repeat (first | apply Kd.R_alloc | apply Kd.R_drewN | apply Kd.R_drew)); exact HO_10.out⟩, bkx_ BK406, bkx_ BK407, bkx_ BK413, bkx_ BK414, blx_ HB⟩
                   · rw [if_neg c54] at H
                     exact absurd H (by simp)
                 · replace c53 := Bool.eq_false_iff.mpr c53
                   subst c53
                   have H1 : (pianolaref03_Bridge.l2 k4 x9_2 x10_3 x11_3 x12_3 (wrap64 (x13_4 - 1)) a1_0 a1_1 t408 t409 t410 t411) = some (r1, r2) := by rw [if_neg (show ¬ (false = true) by decide)] at H; exact H
                   clear H
                   have H := H1
                   clear H1
                   have H' := Aside0.mk H
                   clear H
                   have hnb101 := NB413_406.out
                   have hnc101 := NB406_413.out
                   have hnb102 := NB413_407.out
                   have hnc102 := NB407_413.out
                   have hnb103 := NB413_414.out
                   have hnc103 := NB414_413.out
                   have hcz104_0 := bkc_ BK413 0 (.int .i64 t408) rfl
                   have hcz104_1 := bkc_ BK413 1 (.int .i64 t409) rfl
                   have hfz104_0 := blk_frozen BK413.out 0
                   have hfz104_1 := blk_frozen BK413.out 1
                   have hnb105 := NB414_406.out
                   have hnc105 := NB406_414.out
                   have hnb106 := NB414_407.out
                   have hnc106 := NB407_414.out
                   have hcz107_0 := bkc_ BK414 0 (.int .i64 t410) rfl
                   have hcz107_1 := bkc_ BK414 1 (.int .i64 t411) rfl
                   have hfz107_0 := blk_frozen BK414.out 0
                   have hfz107_1 := blk_frozen BK414.out 1
                   have hnb108 := NB407_406.out
                   have hnc108 := NB406_407.out
                   have hcz109_0 := bkc_ BK407 0 (.int .i64 a1_0) rfl
                   have hcz109_1 := bkc_ BK407 1 (.int .i64 a1_1) rfl
                   have hfz109_0 := blk_frozen BK407.out 0
                   have hfz109_1 := blk_frozen BK407.out 1
                   go_wp2_with (first | ((with_reducible refine gate_callee (f := 75) rfl ?_); refine goesL_ (some 81) rfl rfl Try.func75 (by kernel_rfl) rfl #[.agg #[.int .i64 t408, .int .i64 t409], .agg #[.int .i64 t410, .int .i64 t411], .int .i64 (wrap64 ((wrap64 (a1_1 - x11_3)) - x13_4)), .int .i64 (wrap64 ((wrap64 (x9_2 - 1)) - x12_3)), .int .i64 (wrap64 ((wrap64 (x9_2 - 1)) - x12_3))] rfl (by (try simp only [List.map_toArray, List.map_cons, List.map_nil]); first | done | rfl | (simp only [List.length_drop, List.length_take]; rfl)) ?_; (with_reducible refine (pianolaref03_can.calls t408 t409 t410 t411 (wrap64 ((wrap64 (a1_1 - x11_3)) - x13_4)) (wrap64 ((wrap64 (x9_2 - 1)) - x12_3)) (wrap64 ((wrap64 (x9_2 - 1)) - x12_3)) false _ A52.out).mono ?_); rintro e w110 ⟨rfl, hb⟩; refine ⟨_, rfl, ?_⟩; have n0_ := Aside0.mk (Kd.R_below (by (with_reducible repeat (first | apply Kd.R_alloc | apply Kd.R_drewN | apply Kd.R_drew)); exact HO_10.out) hb); have n1_ := bkb_ BK406 hb; have n2_ := bkb_ BK407 hb; have n3_ := bkb_ BK413 hb; have n4_ := bkb_ BK414 hb; have n5_ := bls_ HB hb; clear HO_10; clear BK406; clear BK407; clear BK413; clear BK414; clear HB; have HO_10 := n0_; have BK406 := n1_; have BK407 := n2_; have BK413 := n3_; have BK414 := n4_; have HB := n5_; clear n0_ n1_ n2_ n3_ n4_ n5_; (try clear hb); (try clear hb2); (try clear hk); (try clear hi)))
                   go_roundg k4
                   case measure => have := HJ4.out; have := HK2.out; have := HK3.out; have := HK4.out; omega
                   case rel => exact ⟨(wrap64 (x13_4 - 1)), (by first | rfl | (simp; done) | (simp [*]; done)), H', ⟨by have := HJ4.out; have := HK2.out; have := HK3.out; have := HK4.out; omega⟩, ⟨by (with_reducible repeat (first | apply Kd.R_alloc | apply Kd.R_drewN | apply Kd.R_drew)); exact HO_10.out⟩, bkx_ BK406, bkx_ BK407, bkx_ BK413, bkx_ BK414, blx_ HB⟩
             · rw [if_neg c47] at H
               have c47b0 : decide (x12_3 < x9_2) = false := decide_eq_false c47
               clear c47
               simp only [Option.some.injEq, Prod.mk.injEq] at H
               obtain ⟨rfl, rfl⟩ := H
               go_wp2
               go_ret2
               exact ⟨_, by first | rfl | (simp [errW_none, errW_some] <;> rfl) | (simp [*, errW_none, errW_some] <;> rfl), by (with_reducible repeat (first | apply Kd.R_alloc | apply Kd.R_drewN | apply Kd.R_drew)); exact Kd.R_mono HO_10.out (fun _ hk => trivial), by repeat (first | (with_reducible first | exact HB.out | apply below_alloc | apply pw_below_drewN | apply below_drew1 | refine below_set ?_ GE406.out | refine below_set ?_ GE407.out | refine below_set ?_ GE413.out | refine below_set ?_ GE414.out) | exact HB.out)⟩
         · replace c35 := Bool.eq_false_iff.mpr c35
           subst c35
           have H1 : (if (wrap64 (x9_2 + 1)) > 200 then (some (([] : List (S52)), 20)) else (if t411 = 0 then (some (([] : List (S52)), 20)) else (pianolaref03_Bridge.l0 k2 (wrap64 (x9_2 + 1)) a1_0 a1_1 t408 t409 t410 t411))) = some (r1, r2) := by rw [if_neg (show ¬ (false = true) by decide)] at H; exact H
           clear H
           have H := H1
           clear H1
           by_cases c111 : (wrap64 (x9_2 + 1)) > 200
           · rw [if_pos c111] at H
             have c111b0 : decide (200 < (wrap64 (x9_2 + 1))) = true := decide_eq_true c111
             clear c111
             simp only [Option.some.injEq, Prod.mk.injEq] at H
             obtain ⟨rfl, rfl⟩ := H
             have hnb112 := NB413_406.out
             have hnc112 := NB406_413.out
             have hnb113 := NB413_407.out
             have hnc113 := NB407_413.out
             have hnb114 := NB413_414.out
             have hnc114 := NB414_413.out
             have hcz115_0 := bkc_ BK413 0 (.int .i64 t408) rfl
             have hcz115_1 := bkc_ BK413 1 (.int .i64 t409) rfl
             have hfz115_0 := blk_frozen BK413.out 0
             have hfz115_1 := blk_frozen BK413.out 1
             have hnb116 := NB414_406.out
             have hnc116 := NB406_414.out
             have hnb117 := NB414_407.out
             have hnc117 := NB407_414.out
             have hcz118_0 := bkc_ BK414 0 (.int .i64 t410) rfl
             have hcz118_1 := bkc_ BK414 1 (.int .i64 t411) rfl
             have hfz118_0 := blk_frozen BK414.out 0
             have hfz118_1 := blk_frozen BK414.out 1
             have hnb119 := NB407_406.out
             have hnc119 := NB406_407.out
             have hcz120_0 := bkc_ BK407 0 (.int .i64 a1_0) rfl
             have hcz120_1 := bkc_ BK407 1 (.int .i64 a1_1) rfl
             have hfz120_0 := blk_frozen BK407.out 0
             have hfz120_1 := blk_frozen BK407.out 1
             go_wp2_with (first | ((with_reducible refine gate_callee (f := 75) rfl ?_); refine goesL_ (some 45) rfl rfl Try.func75 (by kernel_rfl) rfl #[.agg #[.int .i64 t408, .int .i64 t409], .agg #[.int .i64 t410, .int .i64 t411], .int .i64 (wrap64 (a1_1 - a1_0)), .int .i64 x9_2, .int .i64 (wrap64 (x9_2 - 1))] rfl (by (try simp only [List.map_toArray, List.map_cons, List.map_nil]); first | done | rfl | (simp only [List.length_drop, List.length_take]; rfl)) ?_; (with_reducible refine (pianolaref03_can.calls t408 t409 t410 t411 (wrap64 (a1_1 - a1_0)) x9_2 (wrap64 (x9_2 - 1)) false _ A34.out).mono ?_); rintro e w121 ⟨rfl, hb⟩; refine ⟨_, rfl, ?_⟩; replace BK406 := bkb_ BK406 hb; replace BK407 := bkb_ BK407 hb; replace BK413 := bkb_ BK413 hb; replace BK414 := bkb_ BK414 hb; replace HB := bls_ HB hb; (try clear hb); (try clear hb2); (try clear hk); (try clear hi)))
             go_ret2
             exact ⟨_, by first | rfl | (simp [errW_none, errW_some] <;> rfl) | (simp [*, errW_none, errW_some] <;> rfl), by first | exact Kd.R_nil _ _ _ _ _ | exact Kd.N_nil _ _ _ _ _ | exact Kd.V_nil _ _ _ _ _ | exact Kd.Q_nil _ _ _ _ _ | exact Kd.S_nil _ _ _ _ _, by repeat (first | (with_reducible first | exact HB.out | apply below_alloc | apply pw_below_drewN | apply below_drew1 | refine below_set ?_ GE406.out | refine below_set ?_ GE407.out | refine below_set ?_ GE413.out | refine below_set ?_ GE414.out) | exact HB.out)⟩
           · rw [if_neg c111] at H
             have c111b0 : decide (200 < (wrap64 (x9_2 + 1))) = false := decide_eq_false c111
             clear c111
             by_cases c122 : t411 = 0
             · rw [if_pos c122] at H
               have c122b0 : (t411 == 0) = true := beq_iff_eq.mpr c122
               have c122b1 : (t411 != 0) = false := bne_eq_false_iff_eq.mpr c122
               clear c122
               simp only [Option.some.injEq, Prod.mk.injEq] at H
               obtain ⟨rfl, rfl⟩ := H
               have hnb123 := NB413_406.out
               have hnc123 := NB406_413.out
               have hnb124 := NB413_407.out
               have hnc124 := NB407_413.out
               have hnb125 := NB413_414.out
               have hnc125 := NB414_413.out
               have hcz126_0 := bkc_ BK413 0 (.int .i64 t408) rfl
               have hcz126_1 := bkc_ BK413 1 (.int .i64 t409) rfl
               have hfz126_0 := blk_frozen BK413.out 0
               have hfz126_1 := blk_frozen BK413.out 1
               have hnb127 := NB414_406.out
               have hnc127 := NB406_414.out
               have hnb128 := NB414_407.out
               have hnc128 := NB407_414.out
               have hcz129_0 := bkc_ BK414 0 (.int .i64 t410) rfl
               have hcz129_1 := bkc_ BK414 1 (.int .i64 t411) rfl
               have hfz129_0 := blk_frozen BK414.out 0
               have hfz129_1 := blk_frozen BK414.out 1
               have hnb130 := NB407_406.out
               have hnc130 := NB406_407.out
               have hcz131_0 := bkc_ BK407 0 (.int .i64 a1_0) rfl
               have hcz131_1 := bkc_ BK407 1 (.int .i64 a1_1) rfl
               have hfz131_0 := blk_frozen BK407.out 0
               have hfz131_1 := blk_frozen BK407.out 1
               go_wp2_with (first | ((with_reducible refine gate_callee (f := 75) rfl ?_); refine goesL_ (some 45) rfl rfl Try.func75 (by kernel_rfl) rfl #[.agg #[.int .i64 t408, .int .i64 t409], .agg #[.int .i64 t410, .int .i64 t411], .int .i64 (wrap64 (a1_1 - a1_0)), .int .i64 x9_2, .int .i64 (wrap64 (x9_2 - 1))] rfl (by (try simp only [List.map_toArray, List.map_cons, List.map_nil]); first | done | rfl | (simp only [List.length_drop, List.length_take]; rfl)) ?_; (with_reducible refine (pianolaref03_can.calls t408 t409 t410 t411 (wrap64 (a1_1 - a1_0)) x9_2 (wrap64 (x9_2 - 1)) false _ A34.out).mono ?_); rintro e w132 ⟨rfl, hb⟩; refine ⟨_, rfl, ?_⟩; replace BK406 := bkb_ BK406 hb; replace BK407 := bkb_ BK407 hb; replace BK413 := bkb_ BK413 hb; replace BK414 := bkb_ BK414 hb; replace HB := bls_ HB hb; (try clear hb); (try clear hb2); (try clear hk); (try clear hi); have hcz133_0 := bkc_ BK414 0 (.int .i64 t410) rfl; have hcz133_1 := bkc_ BK414 1 (.int .i64 t411) rfl; have hfz133_0 := blk_frozen BK414.out 0; have hfz133_1 := blk_frozen BK414.out 1))
               go_ret2
               exact ⟨_, by first | rfl | (simp [errW_none, errW_some] <;> rfl) | (simp [*, errW_none, errW_some] <;> rfl), by first | exact Kd.R_nil _ _ _ _ _ | exact Kd.N_nil _ _ _ _ _ | exact Kd.V_nil _ _ _ _ _ | exact Kd.Q_nil _ _ _ _ _ | exact Kd.S_nil _ _ _ _ _, by repeat (first | (with_reducible first | exact HB.out | apply below_alloc | apply pw_below_drewN | apply below_drew1 | refine below_set ?_ GE406.out | refine below_set ?_ GE407.out | refine below_set ?_ GE413.out | refine below_set ?_ GE414.out) | exact HB.out)⟩
             · rw [if_neg c122] at H
               have c122b0 : (t411 == 0) = false := beq_eq_false_iff_ne.mpr c122
               have c122b1 : (t411 != 0) = true := bne_iff_ne.mpr c122
               have H' := Aside0.mk H
               clear H
               have hnb134 := NB413_406.out
               have hnc134 := NB406_413.out
               have hnb135 := NB413_407.out
               have hnc135 := NB407_413.out
               have hnb136 := NB413_414.out
               have hnc136 := NB414_413.out
               have hcz137_0 := bkc_ BK413 0 (.int .i64 t408) rfl
               have hcz137_1 := bkc_ BK413 1 (.int .i64 t409) rfl
               have hfz137_0 := blk_frozen BK413.out 0
               have hfz137_1 := blk_frozen BK413.out 1
               have hnb138 := NB414_406.out
               have hnc138 := NB406_414.out
               have hnb139 := NB414_407.out
               have hnc139 := NB407_414.out
               have hcz140_0 := bkc_ BK414 0 (.int .i64 t410) rfl
               have hcz140_1 := bkc_ BK414 1 (.int .i64 t411) rfl
               have hfz140_0 := blk_frozen BK414.out 0
               have hfz140_1 := blk_frozen BK414.out 1
               have hnb141 := NB407_406.out
               have hnc141 := NB406_407.out
               have hcz142_0 := bkc_ BK407 0 (.int .i64 a1_0) rfl
               have hcz142_1 := bkc_ BK407 1 (.int .i64 a1_1) rfl
               have hfz142_0 := blk_frozen BK407.out 0
               have hfz142_1 := blk_frozen BK407.out 1
               go_wp2_with (first | ((with_reducible refine gate_callee (f := 75) rfl ?_); refine goesL_ (some 45) rfl rfl Try.func75 (by kernel_rfl) rfl #[.agg #[.int .i64 t408, .int .i64 t409], .agg #[.int .i64 t410, .int .i64 t411], .int .i64 (wrap64 (a1_1 - a1_0)), .int .i64 x9_2, .int .i64 (wrap64 (x9_2 - 1))] rfl (by (try simp only [List.map_toArray, List.map_cons, List.map_nil]); first | done | rfl | (simp only [List.length_drop, List.length_take]; rfl)) ?_; (with_reducible refine (pianolaref03_can.calls t408 t409 t410 t411 (wrap64 (a1_1 - a1_0)) x9_2 (wrap64 (x9_2 - 1)) false _ A34.out).mono ?_); rintro e w143 ⟨rfl, hb⟩; refine ⟨_, rfl, ?_⟩; replace BK406 := bkb_ BK406 hb; replace BK407 := bkb_ BK407 hb; replace BK413 := bkb_ BK413 hb; replace BK414 := bkb_ BK414 hb; replace HB := bls_ HB hb; (try clear hb); (try clear hb2); (try clear hk); (try clear hi); have hcz144_0 := bkc_ BK414 0 (.int .i64 t410) rfl; have hcz144_1 := bkc_ BK414 1 (.int .i64 t411) rfl; have hfz144_0 := blk_frozen BK414.out 0; have hfz144_1 := blk_frozen BK414.out 1))
               go_roundg k2
               case measure => have := HJ4.out; have := HK2.out; omega
               case rel => exact ⟨(wrap64 (x9_2 + 1)), (by first | rfl | (simp; done) | (simp [*]; done)), H', ⟨by have := HJ4.out; have := HK2.out; omega⟩, bkx_ BK406, bkx_ BK407, bkx_ BK413, bkx_ BK414, blx_ HB⟩
 · rw [if_neg c4] at H
   have c4b0 : (t412 == 0) = false := beq_eq_false_iff_ne.mpr c4
   have c4b1 : (t412 != 0) = true := bne_iff_ne.mpr c4
   simp only [Option.some.injEq, Prod.mk.injEq] at H
   obtain ⟨rfl, rfl⟩ := H
   go_enter Try.func33, Try.ntmps33
   go_wp2_with (first | ((with_reducible refine gate_dst (N := 2) rfl ?_); refine box_event ?hg (N := 2) ?hd (cs := #[.int .i64 a0_0, .int .i64 a0_1, .int .i64 a0_2, .int .i64 a0_3, .int .i64 a0_4]) (t := 58) ?hr ?_; (case hd => rfl); (case hg => rfl); (case hr => first | (go_simp; done) | (go_simp; rfl)); intro gb406 hg w145 hbox hb; have BK406 := Aside0.mk (hbox); have GW406 := bgw_ HB hg; have GE406 := bgw_ HB hg; replace HB := bls_ HB hb; clear hb hbox hg) | ((with_reducible refine gate_dst (N := 3) rfl ?_); refine box_event ?hg (N := 3) ?hd (cs := #[.int .i64 a1_0, .int .i64 a1_1]) (t := 52) ?hr ?_; (case hd => rfl); (case hg => rfl); (case hr => first | (go_simp; done) | (go_simp; rfl)); intro gb407 hg w146 hbox hb; have BK407 := Aside0.mk (hbox); have GW407 := bgw_ HB hg; have GE407 := bgw_ HB hg; have NB406_407 := bnl_ BK406 hg; have NB407_406 := bng_ BK406 hg; replace BK406 := bkb_ BK406 hb; replace HB := bls_ HB hb; clear hb hbox hg; have hnb147 := NB406_407.out; have hnc147 := NB407_406.out; have hcz148_0 := bkc_ BK406 0 (.int .i64 a0_0) rfl; have hcz148_1 := bkc_ BK406 1 (.int .i64 a0_1) rfl; have hcz148_2 := bkc_ BK406 2 (.int .i64 a0_2) rfl; have hcz148_3 := bkc_ BK406 3 (.int .i64 a0_3) rfl; have hcz148_4 := bkc_ BK406 4 (.int .i64 a0_4) rfl; have hfz148_0 := blk_frozen BK406.out 0; have hfz148_1 := blk_frozen BK406.out 1; have hfz148_2 := blk_frozen BK406.out 2; have hfz148_3 := blk_frozen BK406.out 3; have hfz148_4 := blk_frozen BK406.out 4) | ((with_reducible refine gate_callee (f := 31) rfl ?_); refine goesL_ (some 17) rfl rfl Try.func31 (by kernel_rfl) rfl #[.agg #[.int .i64 a0_0, .int .i64 a0_1, .int .i64 a0_2, .int .i64 a0_3, .int .i64 a0_4]] rfl (by (try simp only [List.map_toArray, List.map_cons, List.map_nil]); first | done | rfl | (simp only [List.length_drop, List.length_take]; rfl)) ?_; (with_reducible refine (pianolaref03_Bars.calls k a0_0 a0_1 a0_2 a0_3 a0_4 t408 t409 t410 t411 t412 _ A3.out).mono ?_); rintro e w149 ⟨rfl, hb⟩; refine ⟨_, rfl, ?_⟩; replace BK406 := bkb_ BK406 hb; replace BK407 := bkb_ BK407 hb; replace HB := bls_ HB hb; (try clear hb); (try clear hb2); (try clear hk); (try clear hi)) | ((with_reducible refine gate_dst (N := 6) rfl ?_); refine box_event ?hg (N := 6) ?hd (cs := #[.int .i64 0, .int .i64 0]) (t := 55) ?hr ?_; (case hd => rfl); (case hg => rfl); (case hr => first | (go_simp; done) | (go_simp; rfl)); intro gb413 hg w150 hbox hb; have BK413 := Aside0.mk (hbox); have GW413 := bgw_ HB hg; have GE413 := bgw_ HB hg; have NB406_413 := bnl_ BK406 hg; have NB413_406 := bng_ BK406 hg; have NB407_413 := bnl_ BK407 hg; have NB413_407 := bng_ BK407 hg; replace BK406 := bkb_ BK406 hb; replace BK407 := bkb_ BK407 hb; replace HB := bls_ HB hb; clear hb hbox hg) | ((with_reducible refine gate_dst (N := 7) rfl ?_); refine box_event ?hg (N := 7) ?hd (cs := #[.int .i64 0, .int .i64 0]) (t := 55) ?hr ?_; (case hd => rfl); (case hg => rfl); (case hr => first | (go_simp; done) | (go_simp; rfl)); intro gb414 hg w151 hbox hb; have BK414 := Aside0.mk (hbox); have GW414 := bgw_ HB hg; have GE414 := bgw_ HB hg; have NB406_414 := bnl_ BK406 hg; have NB414_406 := bng_ BK406 hg; have NB407_414 := bnl_ BK407 hg; have NB414_407 := bng_ BK407 hg; have NB413_414 := bnl_ BK413 hg; have NB414_413 := bng_ BK413 hg; replace BK406 := bkb_ BK406 hb; replace BK407 := bkb_ BK407 hb; replace BK413 := bkb_ BK413 hb; replace HB := bls_ HB hb; clear hb hbox hg; have hnb152 := NB413_406.out; have hnc152 := NB406_413.out; have hnb153 := NB413_407.out; have hnc153 := NB407_413.out; have hnb154 := NB413_414.out; have hnc154 := NB414_413.out; have hcz155_0 := bkc_ BK413 0 (.int .i64 0) rfl; have hcz155_1 := bkc_ BK413 1 (.int .i64 0) rfl; have hfz155_0 := blk_frozen BK413.out 0; have hfz155_1 := blk_frozen BK413.out 1; have hnb156 := NB414_406.out; have hnc156 := NB406_414.out; have hnb157 := NB414_407.out; have hnc157 := NB407_414.out; have hcz158_0 := bkc_ BK414 0 (.int .i64 0) rfl; have hcz158_1 := bkc_ BK414 1 (.int .i64 0) rfl; have hfz158_0 := blk_frozen BK414.out 0; have hfz158_1 := blk_frozen BK414.out 1))
   go_ret2
   exact ⟨_, by first | rfl | (simp [errW_none, errW_some] <;> rfl) | (simp [*, errW_none, errW_some] <;> rfl), by first | exact Kd.R_nil _ _ _ _ _ | exact Kd.N_nil _ _ _ _ _ | exact Kd.V_nil _ _ _ _ _ | exact Kd.Q_nil _ _ _ _ _ | exact Kd.S_nil _ _ _ _ _, by repeat (first | (with_reducible first | exact HB.out | apply below_alloc | apply pw_below_drewN | apply below_drew1 | refine below_set ?_ GE406.out | refine below_set ?_ GE407.out | refine below_set ?_ GE413.out | refine below_set ?_ GE414.out) | exact HB.out)⟩

end Go.Proofs.Ytaaonhfaoaabbaa.X
